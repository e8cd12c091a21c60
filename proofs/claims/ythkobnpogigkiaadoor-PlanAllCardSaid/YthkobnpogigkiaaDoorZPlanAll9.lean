/- Several texts in one, each with its own sentence ahead of it. Conditions: each one says its own. -/
import Derived.Test.YthkobnpogigkiaaDoorZPlanAll8
import Derived.LaidMore
import Derived.ChangeArms
import Derived.MakeChecks
/- Ways to rows: what plan.Rows computes. Conditions: how much there is of what comes in. -/
namespace Go.Proofs.YthkobnpogigkiaaDoor
open Go.Abs
attribute [local irreducible] L Code.wp bodyPost Exit.then Exit.inBlock
set_option linter.unusedVariables false
set_option linter.unusedSimpArgs false
def rowC (r : List Val) : List IV := [.sl (r.map Val.c)]
def entryM (w : Way) (k : Str) : Option (List Val) := match valsM (k.drop (if (k.length : Int) < ((entriesK w.i).length : Int) then (k.length : Int) else ((entriesK w.i).length : Int)).toNat) with
  | some l => if l.length = 2 then some l else none
  | none => none
def rowOf (t : Tab) (s : Str) : Option (List Val) := match valsM s with
  | some l => if l.length = t.cols.length then some l else none
  | none => none
def pickR (ps : List Pg) (t : Tab) (w : Way) (x : Pr) : Option (List Val) :=
  if w.i = [] then rowOf t x.2 else match entryM w x.1 with
    | some l => rowOf t (getM ps (rowKeyM t.n (l.getD 1 nilV))).1
    | none => none
def rowsT (ps : List Pg) (t : Tab) (w : Way) : List (List Val) := (rangeM ps w.lo w.hi).filterMap (pickR ps t w)
theorem filterMap_step {α β : Type} (f : α → Option β) {l : List α} {i : Nat} {x : α} (h : l[i]? = some x) : (l.take (i + 1)).filterMap f = (l.take i).filterMap f ++ (f x).toList := by
  rw [List.take_add_one, h, List.filterMap_append]
  cases hp : f x <;> simp [hp]
theorem filterMap_len {α β : Type} (f : α → Option β) (l : List α) (i : Nat) : ((l.take i).filterMap f).length ≤ l.length := Nat.le_trans (List.length_filterMap_le _ _) (by simp; omega)
theorem fromP_sub {ps : List Pg} {i k : Nat} {x : Pr} (h : x ∈ fromP ps i k) : x ∈ flatP ps := by
  unfold fromP at h
  cases hp : ps[i]? with
  | none => rw [hp] at h; simp at h
  | some p =>
    rw [hp] at h
    rw [flat_at hp]
    rcases List.mem_append.1 h with h | h
    · exact List.mem_append.2 (.inr (List.mem_append.2 (.inl (List.mem_of_mem_drop h))))
    · exact List.mem_append.2 (.inr (List.mem_append.2 (.inr h)))
theorem range_sub {ps : List Pg} {lo hi : Str} {x : Pr} (h : x ∈ rangeM ps lo hi) : x ∈ flatP ps := by
  unfold rangeM at h
  split at h
  · exact fromP_sub (List.takeWhile_subset _ h)
  · simp at h
theorem get_sub (ps : List Pg) (k : Str) : (getM ps k).1 = [] ∨ ∃ x ∈ flatP ps, x.2 = (getM ps k).1 := by
  cases hg : goodTree ps with
  | false => left; simp [getM, hg]
  | true =>
    rw [get_flat hg, findF]
    cases hf : (flatP ps).find? (fun x => x.1 == k) with
    | none => left; rfl
    | some x => right; exact ⟨x, List.mem_of_find?_eq_some hf, rfl⟩
def SmallT (ps : List Pg) : Prop := ∀ x ∈ flatP ps, x.1.length ≤ 4398046511104 ∧ x.2.length ≤ 4398046511104
set_option maxRecDepth 100000 in
set_option maxHeartbeats 8000000 in
theorem rowsT_any (ps : List Pg) (t : Tab) (w : Way) (hps : ps.length ≤ 1000000000000) (hsm : SmallT ps) (htn : t.n.length ≤ 140737488355328) (hwi : w.i.length ≤ 140737488355328) :
    CallA Tryd.prog 19 [.agg [.iv (.sl (ps.map Pg.c))], .agg (t.c.map .iv), .agg (w.c.map .iv)] [] [] [] (.iv (.sl ((rowsT ps t w).map rowC))) := by
  have kr := range_any ps w.lo w.hi (by omega)
  have hR : ∀ x ∈ rangeM ps w.lo w.hi, x.1.length ≤ 4398046511104 ∧ x.2.length ≤ 4398046511104 := fun x hx => hsm x (range_sub hx)
  have hl := range_len ps w.lo w.hi
  unfold rowsT
  generalize rangeM ps w.lo w.hi = R at *
  refine CallA.intro _ Tryd.func19 rfl Tryd.ntmps19 rfl (fun w0 E0 => ?_)
  (repeat' (first | (refine LW.is ?_; first | ((apply s_call0; exact rfl; exact kr; exact rfl; exact rfl)) | (refine s_nil ?_) | (apply s_mvIv; exact rfl; exact rfl) | (apply s_mvTup; exact rfl; exact rfl) | (apply s_asIv; exact rfl; exact rfl) | (apply s_asNil; exact rfl; exact rfl) | (apply s_fieldP; exact rfl; exact rfl; exact rfl) | (apply s_load1P; exact rfl; exact rfl; exact rfl; (apply n_some; exact rfl; (first | exact nIm rfl | exact nSl rfl | exact nIv rfl | exact nRow rfl | exact nNil rfl | exact nPtr rfl | exact nBsh rfl | exact nBsl rfl | exact nAny rfl | exact rfl))) | (apply s_loadAP; exact rfl; exact rfl; exact rfl; (focus repeat' (first | exact nl_nil rfl | (apply nl_cons; exact rfl) | exact nIm rfl | exact nSl rfl | exact nIv rfl | exact nRow rfl | exact nNil rfl | exact nPtr rfl | exact nBsh rfl | exact nBsl rfl | exact nAny rfl | exact nIIm rfl | exact nISl rfl | exact rfl)); exact rfl) | (apply s_lenSl; exact rfl; exact rfl) | (apply s_extract; exact rfl; exact rfl; (apply n_some; exact rfl; (first | exact nIm rfl | exact nSl rfl | exact nIv rfl | exact nRow rfl | exact nNil rfl | exact nPtr rfl | exact nBsh rfl | exact nBsl rfl | exact nAny rfl | exact rfl))) | (apply s_box; exact rfl; exact rfl; exact rfl; (focus repeat' (first | exact nl_nil rfl | (apply nl_cons; exact rfl) | exact nIm rfl | exact nSl rfl | exact nIv rfl | exact nRow rfl | exact nNil rfl | exact nPtr rfl | exact nBsh rfl | exact nBsl rfl | exact nAny rfl | exact nIIm rfl | exact nISl rfl | exact rfl)); exact rfl; exact rfl)) | (refine c_seq ?_) | (refine L.block ?_) | (refine s_region ?_) | (refine L.thenN ?_)))
  refine L.adopt 9 (s := 9) (t := 37) (k := 1) rfl rfl rfl ?_
  refine L.loopP (ι := Nat) (fun i => ⟨[(28, aI (i : Int)), (27, aI ((R.map fun x => Str.c x.1).length : Int)), (7, .iv (.sl (R.map fun x => Str.c x.1))), (8, .iv (.sl (R.map fun x => Str.c x.2))), (9, .row 9 (((R.take i).filterMap (pickR ps t w)).map rowC)), (3, .ptr 3 0), (4, .ptr 4 0), (5, .ptr 5 0)], [(3, ⟨61, .l [.iv (.sl (ps.map Pg.c))]⟩), (4, ⟨43, .l [aS t.n, .iv (.sl (t.cols.map Col.c))]⟩), (5, ⟨66, .l [aS w.i, aS w.lo, aS w.hi]⟩)], [(9, ⟨37, 1⟩)]⟩) (fun i => R.length - i) (fun i => True) (i0 := 0) ?_ trivial ?_
  · (refine Wk.mk' (by intro id h; cases h) ?_ ?_ ?_ <;> repeat' (first | exact WkF.nil | exact WkB.nil | exact WkT.nil | (refine WkF.cons rfl (Sub.refl _) ?_) | (refine WkB.cons rfl rfl (Subs.refl _) ?_) | (refine WkT.cons rfl ?_)))
  intro i _ K hK
  cases hx : R[i]? with
  | none =>
    have hlt := ltF (l := R.map fun x => Str.c x.1) (getFN hx)
    rw [take_all hx]
    (repeat' (first | (refine LW.is ?_; first | (refine s_nil ?_) | (apply s_mvRow; exact rfl; exact rfl) | (apply s_asRow; exact rfl; exact rfl) | (apply s_lssI; exact rfl; exact rfl; exact rfl)) | (refine c_seq ?_) | (refine s_region ?_) | (refine L.thenN ?_) | (refine L.thenE ?_) | (refine L.inE ?_) | (refine L.ret ?_) | (refine L.exit ?_) | (apply c_condF; exact rfl; (first | exact rfl | assumption))))
    all_goals (first | (apply L.ends1; exact rfl; exact rfl; exact rfl) | (apply L.ends2; exact rfl; exact rfl; exact rfl) | (apply L.ends3; exact rfl; exact rfl; exact rfl) | (apply L.ends1A; exact rfl; exact rfl; exact rfl) | (apply L.ends2A; exact rfl; exact rfl; exact rfl))
    all_goals rfl
  | some x =>
    have hlt := ltT (l := R.map fun x => Str.c x.1) (getF (f := fun x => Str.c x.1) hx)
    have hlt' := ltN hx
    have g1 : (R.map fun x => Str.c x.1)[((i : Nat) : Int).toNat]? = some [S x.1] := by rw [Int.toNat_natCast, List.getElem?_map, hx]; rfl
    have g2 : (R.map fun x => Str.c x.2)[((i : Nat) : Int).toNat]? = some [S x.2] := by rw [Int.toNat_natCast, List.getElem?_map, hx]; rfl
    have hst := filterMap_step (pickR ps t w) hx
    have hfl := filterMap_len (pickR ps t w) R i
    obtain ⟨hx1, hx2⟩ := hR x (List.mem_of_getElem? hx)
    have bm : (((R.take i).filterMap (pickR ps t w)).map rowC).length + 1 ≤ maxLen := by rw [maxL, List.length_map]; omega
    have bb : ((((R.take i).filterMap (pickR ps t w)).map rowC).length + 1) * 24 ≤ 225000000000000 := by rw [List.length_map]; omega
    generalize hF : (R.take i).filterMap (pickR ps t w) = F at *
    clear hF
    by_cases hw : w.i = []
    · have q1 : (!(w.i == [])) = false := by rw [hw]; rfl
      have hp : pickR ps t w x = rowOf t x.2 := by rw [pickR, if_pos hw]
      rw [hp] at hst
      have kv := vals_any x.2 (by omega)
      cases hu : valsM (x.2) with
      | none =>
        rw [show valsR (x.2) = ([], 1) by rw [valsR, hu]] at kv
        rw [show rowOf t (x.2) = none by rw [rowOf, hu]] at hst
        (repeat' (first | (refine LW.is ?_; first | ((apply s_indexA; exact rfl; exact rfl; exact rfl; omega; (first | exact g1 | exact g2); exact rfl)) | ((apply s_call0; exact rfl; exact kv; exact rfl; exact rfl)) | (refine s_nil ?_) | (apply s_mvIv; exact rfl; exact rfl) | (apply s_mvTup; exact rfl; exact rfl) | (apply s_asIv; exact rfl; exact rfl) | (apply s_fieldP; exact rfl; exact rfl; exact rfl) | (apply s_load1P; exact rfl; exact rfl; exact rfl; (apply n_some; exact rfl; (first | exact nIm rfl | exact nSl rfl | exact nIv rfl | exact nRow rfl | exact nNil rfl | exact nPtr rfl | exact nBsh rfl | exact nBsl rfl | exact nAny rfl | exact rfl))) | (apply s_load1E; exact rfl; exact rfl; exact rfl) | (apply s_eqlI; exact rfl; exact rfl; exact rfl) | (apply s_lssI; exact rfl; exact rfl; exact rfl) | (apply s_neqS; exact rfl; exact rfl; exact rfl) | (apply s_extract; exact rfl; exact rfl; (apply n_some; exact rfl; (first | exact nIm rfl | exact nSl rfl | exact nIv rfl | exact nRow rfl | exact nNil rfl | exact nPtr rfl | exact nBsh rfl | exact nBsl rfl | exact nAny rfl | exact rfl))) | (apply s_addI; exact rfl; exact rfl; exact rfl; (first | omega | decide | (dsimp only; omega)); (first | omega | decide | (dsimp only; omega))) | (apply s_gskipT; exact rfl; exact rfl; exact rfl; (first | exact rfl | assumption)) | (apply s_pickFIv; exact rfl; exact rfl; (first | exact rfl | assumption); exact rfl)) | (refine c_seq ?_) | (refine L.block ?_) | (refine s_region ?_) | (refine L.thenN ?_) | (refine L.inN ?_) | (refine L.skip ?_) | (apply c_condT; exact rfl; (first | exact rfl | assumption)) | (apply c_condF; exact rfl; (first | exact rfl | assumption))))
        refine hK _ (i + 1) trivial (by omega) ?_
        rw [hst, show (Option.toList (none : Option (List Val))) = [] from rfl, List.append_nil]
        (refine Wk.mk' (by intro id h; cases h) ?_ ?_ ?_ <;> repeat' (first | exact WkF.nil | exact WkB.nil | exact WkT.nil | (refine WkF.cons rfl (Sub.refl _) ?_) | (refine WkB.cons rfl rfl (Subs.refl _) ?_) | (refine WkT.cons rfl ?_)))
      | some r =>
        rw [show valsR (x.2) = (r, 0) by rw [valsR, hu]] at kv
        by_cases hrl : r.length = t.cols.length
        · have q3 : ((((r.map Val.c).length : Nat) : Int) == (((t.cols.map Col.c).length : Nat) : Int)) = true := by simp [hrl]
          rw [show rowOf t (x.2) = some r by rw [rowOf, hu]; exact if_pos hrl] at hst
          (repeat' (first | (refine LW.is ?_; first | ((apply s_append; exact rfl; exact rfl; exact rfl; exact rfl; (focus repeat' (first | exact len_nil | apply len_app | (refine len_map (fun x => rfl)) | (refine len_cons rfl ?_) | exact len_chunks rfl | assumption)); (focus repeat' (first | exact len_nil | apply len_app | (refine len_map (fun x => rfl)) | (refine len_cons rfl ?_) | exact len_chunks rfl | assumption)); exact bm; exact bb; exact rfl; exact rfl)) | ((apply s_indexA; exact rfl; exact rfl; exact rfl; omega; (first | exact g1 | exact g2); exact rfl)) | ((apply s_call0; exact rfl; exact kv; exact rfl; exact rfl)) | (refine s_nil ?_) | (apply s_mvIv; exact rfl; exact rfl) | (apply s_mvRow; exact rfl; exact rfl) | (apply s_mvTup; exact rfl; exact rfl) | (apply s_asIv; exact rfl; exact rfl) | (apply s_asRow; exact rfl; exact rfl) | (apply s_fieldP; exact rfl; exact rfl; exact rfl) | (apply s_load1P; exact rfl; exact rfl; exact rfl; (apply n_some; exact rfl; (first | exact nIm rfl | exact nSl rfl | exact nIv rfl | exact nRow rfl | exact nNil rfl | exact nPtr rfl | exact nBsh rfl | exact nBsl rfl | exact nAny rfl | exact rfl))) | (apply s_load1E; exact rfl; exact rfl; exact rfl) | (apply s_lenSl; exact rfl; exact rfl) | (apply s_eqlI; exact rfl; exact rfl; exact rfl) | (apply s_lssI; exact rfl; exact rfl; exact rfl) | (apply s_neqS; exact rfl; exact rfl; exact rfl) | (apply s_extract; exact rfl; exact rfl; (apply n_some; exact rfl; (first | exact nIm rfl | exact nSl rfl | exact nIv rfl | exact nRow rfl | exact nNil rfl | exact nPtr rfl | exact nBsh rfl | exact nBsl rfl | exact nAny rfl | exact rfl))) | (apply s_bslice; exact rfl; exact rfl; exact rfl; exact rfl; exact rfl; (apply n_some; exact rfl; (focus repeat' (first | exact nl_nil rfl | (apply nl_cons; exact rfl) | exact nIm rfl | exact nSl rfl | exact nIv rfl | exact nRow rfl | exact nNil rfl | exact nPtr rfl | exact nBsh rfl | exact nBsl rfl | exact nAny rfl | exact nIIm rfl | exact nISl rfl | exact rfl))); (apply n_some; exact rfl; (focus repeat' (first | exact nl_nil rfl | (apply nl_cons; exact rfl) | exact nIm rfl | exact nSl rfl | exact nIv rfl | exact nRow rfl | exact nNil rfl | exact nPtr rfl | exact nBsh rfl | exact nBsl rfl | exact nAny rfl | exact nIIm rfl | exact nISl rfl | exact rfl))); exact rfl; (focus repeat' (first | exact nl_nil rfl | (apply nl_cons; exact rfl) | exact nIm rfl | exact nSl rfl | exact nIv rfl | exact nRow rfl | exact nNil rfl | exact nPtr rfl | exact nBsh rfl | exact nBsl rfl | exact nAny rfl | exact nIIm rfl | exact nISl rfl | exact rfl)); exact rfl) | (apply s_addI; exact rfl; exact rfl; exact rfl; (first | omega | decide | (dsimp only; omega)); (first | omega | decide | (dsimp only; omega))) | (apply s_gdo; exact rfl; exact rfl; (first | exact rfl | assumption)) | (apply s_pickTIv; exact rfl; exact rfl; (first | exact rfl | assumption); exact rfl)) | (refine c_seq ?_) | (refine L.block ?_) | (refine s_region ?_) | (refine L.thenN ?_) | (refine L.inN ?_) | (refine L.skip ?_) | (apply c_condT; exact rfl; (first | exact rfl | assumption)) | (apply c_condF; exact rfl; (first | exact rfl | assumption))))
          refine L.onlyS [28, 27, 7, 8, 9, 3, 4, 5] [3, 4, 5] rfl ?_
          refine L.retok 9 94 9 rfl rfl rfl rfl ?_
          refine hK _ (i + 1) trivial (by omega) ?_
          refine Wk.mk' (by intro id h; cases h) (.cons rfl (Sub.refl _) (.cons rfl (Sub.refl _) (.cons rfl (Sub.refl _) (.cons rfl (Sub.refl _) (.cons rfl (Sub.of_eq (congrArg (AV.row 9) (by rw [hst]; simp [rowC]))) (.cons rfl (Sub.refl _) (.cons rfl (Sub.refl _) (.cons rfl (Sub.refl _) .nil)))))))) (.cons rfl rfl (Subs.refl _) (.cons rfl rfl (Subs.refl _) (.cons rfl rfl (Subs.refl _) .nil))) (.cons rfl .nil)
        · have q3 : ((((r.map Val.c).length : Nat) : Int) == (((t.cols.map Col.c).length : Nat) : Int)) = false := by simp; omega
          rw [show rowOf t (x.2) = none by rw [rowOf, hu]; exact if_neg hrl] at hst
          (repeat' (first | (refine LW.is ?_; first | ((apply s_indexA; exact rfl; exact rfl; exact rfl; omega; (first | exact g1 | exact g2); exact rfl)) | ((apply s_call0; exact rfl; exact kv; exact rfl; exact rfl)) | (refine s_nil ?_) | (apply s_mvIv; exact rfl; exact rfl) | (apply s_mvTup; exact rfl; exact rfl) | (apply s_asIv; exact rfl; exact rfl) | (apply s_fieldP; exact rfl; exact rfl; exact rfl) | (apply s_load1P; exact rfl; exact rfl; exact rfl; (apply n_some; exact rfl; (first | exact nIm rfl | exact nSl rfl | exact nIv rfl | exact nRow rfl | exact nNil rfl | exact nPtr rfl | exact nBsh rfl | exact nBsl rfl | exact nAny rfl | exact rfl))) | (apply s_load1E; exact rfl; exact rfl; exact rfl) | (apply s_lenSl; exact rfl; exact rfl) | (apply s_eqlI; exact rfl; exact rfl; exact rfl) | (apply s_lssI; exact rfl; exact rfl; exact rfl) | (apply s_neqS; exact rfl; exact rfl; exact rfl) | (apply s_extract; exact rfl; exact rfl; (apply n_some; exact rfl; (first | exact nIm rfl | exact nSl rfl | exact nIv rfl | exact nRow rfl | exact nNil rfl | exact nPtr rfl | exact nBsh rfl | exact nBsl rfl | exact nAny rfl | exact rfl))) | (apply s_addI; exact rfl; exact rfl; exact rfl; (first | omega | decide | (dsimp only; omega)); (first | omega | decide | (dsimp only; omega))) | (apply s_gdo; exact rfl; exact rfl; (first | exact rfl | assumption)) | (apply s_pickTIv; exact rfl; exact rfl; (first | exact rfl | assumption); exact rfl)) | (refine c_seq ?_) | (refine L.block ?_) | (refine s_region ?_) | (refine L.thenN ?_) | (refine L.inN ?_) | (refine L.skip ?_) | (apply c_condT; exact rfl; (first | exact rfl | assumption)) | (apply c_condF; exact rfl; (first | exact rfl | assumption))))
          refine hK _ (i + 1) trivial (by omega) ?_
          rw [hst, show (Option.toList (none : Option (List Val))) = [] from rfl, List.append_nil]
          (refine Wk.mk' (by intro id h; cases h) ?_ ?_ ?_ <;> repeat' (first | exact WkF.nil | exact WkB.nil | exact WkT.nil | (refine WkF.cons rfl (Sub.refl _) ?_) | (refine WkB.cons rfl rfl (Subs.refl _) ?_) | (refine WkT.cons rfl ?_)))
    · have q1 : (!(w.i == [])) = true := by simp [hw]
      have ke := entries_any w.i hwi
      have kv := vals_any (x.1.drop (if (x.1.length : Int) < ((entriesK w.i).length : Int) then (x.1.length : Int) else ((entriesK w.i).length : Int)).toNat) (by rw [List.length_drop]; omega)
      have d0 : 0 ≤ (if (x.1.length : Int) < ((entriesK w.i).length : Int) then (x.1.length : Int) else ((entriesK w.i).length : Int)) := by split <;> omega
      have d1 : (if (x.1.length : Int) < ((entriesK w.i).length : Int) then (x.1.length : Int) else ((entriesK w.i).length : Int)) ≤ (x.1.length : Int) := by split <;> omega
      have hp : pickR ps t w x = match entryM w x.1 with | some l => rowOf t (getM ps (rowKeyM t.n (l.getD 1 nilV))).1 | none => none := by rw [pickR, if_neg hw]
      rw [hp, entryM] at hst
      generalize hdr : x.1.drop (if (x.1.length : Int) < ((entriesK w.i).length : Int) then (x.1.length : Int) else ((entriesK w.i).length : Int)).toNat = dr at *
      cases hv : valsM dr with
      | none =>
        rw [show valsR dr = ([], 1) by rw [valsR, hv]] at kv
        rw [hv] at hst
        (repeat' (first | (refine LW.is ?_; first | ((apply s_indexA; exact rfl; exact rfl; exact rfl; omega; (first | exact g1 | exact g2); exact rfl)) | ((apply s_call0; exact rfl; exact ke; exact rfl; exact rfl)) | (refine s_nil ?_) | (apply s_mvIv; exact rfl; exact rfl) | (apply s_asIv; exact rfl; exact rfl) | (apply s_fieldP; exact rfl; exact rfl; exact rfl) | (apply s_load1P; exact rfl; exact rfl; exact rfl; (apply n_some; exact rfl; (first | exact nIm rfl | exact nSl rfl | exact nIv rfl | exact nRow rfl | exact nNil rfl | exact nPtr rfl | exact nBsh rfl | exact nBsl rfl | exact nAny rfl | exact rfl))) | (apply s_load1E; exact rfl; exact rfl; exact rfl) | (apply s_lenS; exact rfl; exact rfl) | (apply s_neqI; exact rfl; exact rfl; exact rfl) | (apply s_lssI; exact rfl; exact rfl; exact rfl) | (apply s_neqS; exact rfl; exact rfl; exact rfl) | (apply s_addI; exact rfl; exact rfl; exact rfl; (first | omega | decide | (dsimp only; omega)); (first | omega | decide | (dsimp only; omega))) | (apply s_gskipF; exact rfl; exact rfl; exact rfl; (first | exact rfl | assumption)) | (apply s_pickTIv; exact rfl; exact rfl; (first | exact rfl | assumption); exact rfl)) | (refine DR.is ?_; first | ((apply d_indexA; exact rfl; exact rfl; exact rfl; omega; (first | exact g1 | exact g2); exact rfl)) | ((apply d_call0; exact rfl; exact kv; exact rfl; exact rfl)) | ((apply d_sliceSl; exact rfl; exact rfl; exact rfl; exact d0; exact d1; exact hdr)) | (apply d_nil; kernel_rfl) | (apply d_mvIv; exact rfl; exact rfl) | (apply d_mvTup; exact rfl; exact rfl) | (apply d_asIv; exact rfl; exact rfl) | (apply d_load1E; exact rfl; exact rfl; exact rfl) | (apply d_lenS; exact rfl; exact rfl) | (apply d_extract; exact rfl; exact rfl; (apply n_some; exact rfl; (first | exact nIm rfl | exact nSl rfl | exact nIv rfl | exact nRow rfl | exact nNil rfl | exact nPtr rfl | exact nBsh rfl | exact nBsl rfl | exact nAny rfl | exact rfl))) | (apply d_min2; exact rfl; exact rfl; exact rfl)) | (refine c_seq ?_) | (refine L.block ?_) | (refine s_region ?_) | (refine d_region ?_) | (refine L.thenN ?_) | (refine L.thenE ?_) | (refine L.inE ?_) | (refine L.exit ?_) | (refine L.skip ?_) | (apply c_condT; exact rfl; (first | exact rfl | assumption))))
        refine hK _ (i + 1) trivial (by omega) ?_
        rw [hst, show (Option.toList (none : Option (List Val))) = [] from rfl, List.append_nil]
        (refine Wk.mk' (by intro id h; cases h) ?_ ?_ ?_ <;> repeat' (first | exact WkF.nil | exact WkB.nil | exact WkT.nil | (refine WkF.cons rfl (Sub.refl _) ?_) | (refine WkB.cons rfl rfl (Subs.refl _) ?_) | (refine WkT.cons rfl ?_)))
      | some l =>
        rw [show valsR dr = (l, 0) by rw [valsR, hv]] at kv
        rw [hv] at hst
        by_cases hl2 : l.length = 2
        · have hst : (R.take (i + 1)).filterMap (pickR ps t w) = F ++ (rowOf t (getM ps (rowKeyM t.n (l.getD 1 nilV))).1).toList := by rw [hst]; simp only [if_pos hl2]
          have q2 : ((((l.map Val.c).length : Nat) : Int) != 2) = false := by simp [hl2]
          have g5 : (l.map Val.c)[(1 : Int).toNat]? = some [I (l.getD 1 nilV).k, I (l.getD 1 nilV).n, S (l.getD 1 nilV).s] := by rw [show (1 : Int).toNat = 1 from rfl, List.getElem?_map, getD_some nilV (show 1 < l.length by omega)]; rfl
          have kk := rowKey_any t.n (l.getD 1 nilV) htn
          have kg := get_any ps (rowKeyM t.n (l.getD 1 nilV)) (by omega)
          have hsz : (getM ps (rowKeyM t.n (l.getD 1 nilV))).1.length ≤ 4398046511104 := by
            rcases get_sub ps (rowKeyM t.n (l.getD 1 nilV)) with h | ⟨y, hy, h⟩
            · rw [h]; simp
            · rw [← h]; exact (hsm y hy).2
          generalize l.getD 1 nilV = id at *
          generalize getM ps (rowKeyM t.n id) = gt at *
          obtain ⟨gs, gb⟩ := gt
          dsimp only at hst hsz kg
          have kw := vals_any gs (by omega)
          cases hu : valsM (gs) with
          | none =>
            rw [show valsR (gs) = ([], 1) by rw [valsR, hu]] at kw
            rw [show rowOf t (gs) = none by rw [rowOf, hu]] at hst
            (repeat' (first | (refine LW.is ?_; first | ((apply s_indexA; exact rfl; exact rfl; exact rfl; omega; (first | exact g1 | exact g2); exact rfl)) | ((apply s_call0; exact rfl; exact ke; exact rfl; exact rfl)) | ((apply s_call0; exact rfl; exact kw; exact rfl; exact rfl)) | (refine s_nil ?_) | (apply s_mvIv; exact rfl; exact rfl) | (apply s_mvTup; exact rfl; exact rfl) | (apply s_asIv; exact rfl; exact rfl) | (apply s_fieldP; exact rfl; exact rfl; exact rfl) | (apply s_load1P; exact rfl; exact rfl; exact rfl; (apply n_some; exact rfl; (first | exact nIm rfl | exact nSl rfl | exact nIv rfl | exact nRow rfl | exact nNil rfl | exact nPtr rfl | exact nBsh rfl | exact nBsl rfl | exact nAny rfl | exact rfl))) | (apply s_load1E; exact rfl; exact rfl; exact rfl) | (apply s_lenS; exact rfl; exact rfl) | (apply s_lenSl; exact rfl; exact rfl) | (apply s_eqlI; exact rfl; exact rfl; exact rfl) | (apply s_neqI; exact rfl; exact rfl; exact rfl) | (apply s_lssI; exact rfl; exact rfl; exact rfl) | (apply s_neqS; exact rfl; exact rfl; exact rfl) | (apply s_extract; exact rfl; exact rfl; (apply n_some; exact rfl; (first | exact nIm rfl | exact nSl rfl | exact nIv rfl | exact nRow rfl | exact nNil rfl | exact nPtr rfl | exact nBsh rfl | exact nBsl rfl | exact nAny rfl | exact rfl))) | (apply s_addI; exact rfl; exact rfl; exact rfl; (first | omega | decide | (dsimp only; omega)); (first | omega | decide | (dsimp only; omega))) | (apply s_gdo; exact rfl; exact rfl; (first | exact rfl | assumption)) | (apply s_gskipT; exact rfl; exact rfl; exact rfl; (first | exact rfl | assumption)) | (apply s_pickFIv; exact rfl; exact rfl; (first | exact rfl | assumption); exact rfl)) | (refine DR.is ?_; first | ((apply d_indexA; exact rfl; exact rfl; exact rfl; omega; (first | exact g1 | exact g2); exact rfl)) | ((apply d_call0; exact rfl; exact kv; exact rfl; exact rfl)) | ((apply d_sliceSl; exact rfl; exact rfl; exact rfl; exact d0; exact d1; exact hdr)) | ((apply d_indexA; exact rfl; exact rfl; exact rfl; decide; exact g5; exact rfl)) | ((apply d_call0; exact rfl; exact kk; exact rfl; exact rfl)) | ((apply d_call0; exact rfl; exact kg; exact rfl; exact rfl)) | (apply d_nil; kernel_rfl) | (apply d_mvIv; exact rfl; exact rfl) | (apply d_mvTup; exact rfl; exact rfl) | (apply d_asIv; exact rfl; exact rfl) | (apply d_fieldP; exact rfl; exact rfl; exact rfl) | (apply d_load1P; exact rfl; exact rfl; exact rfl; (apply n_some; exact rfl; (first | exact nIm rfl | exact nSl rfl | exact nIv rfl | exact nRow rfl | exact nNil rfl | exact nPtr rfl | exact nBsh rfl | exact nBsl rfl | exact nAny rfl | exact rfl))) | (apply d_loadAP; exact rfl; exact rfl; exact rfl; (focus repeat' (first | exact nl_nil rfl | (apply nl_cons; exact rfl) | exact nIm rfl | exact nSl rfl | exact nIv rfl | exact nRow rfl | exact nNil rfl | exact nPtr rfl | exact nBsh rfl | exact nBsl rfl | exact nAny rfl | exact nIIm rfl | exact nISl rfl | exact rfl)); exact rfl) | (apply d_load1E; exact rfl; exact rfl; exact rfl) | (apply d_loadAE; exact rfl; exact rfl; (focus repeat' (first | exact nl_nil rfl | (apply nl_cons; exact rfl) | exact nIm rfl | exact nSl rfl | exact nIv rfl | exact nRow rfl | exact nNil rfl | exact nPtr rfl | exact nBsh rfl | exact nBsl rfl | exact nAny rfl | exact nIIm rfl | exact nISl rfl | exact rfl)); exact rfl) | (apply d_lenS; exact rfl; exact rfl) | (apply d_extract; exact rfl; exact rfl; (apply n_some; exact rfl; (first | exact nIm rfl | exact nSl rfl | exact nIv rfl | exact nRow rfl | exact nNil rfl | exact nPtr rfl | exact nBsh rfl | exact nBsl rfl | exact nAny rfl | exact rfl))) | (apply d_min2; exact rfl; exact rfl; exact rfl)) | (refine c_seq ?_) | (refine L.block ?_) | (refine s_region ?_) | (refine d_region ?_) | (refine L.thenN ?_) | (refine L.inN ?_) | (refine L.skip ?_) | (apply c_condT; exact rfl; (first | exact rfl | assumption)) | (apply c_condF; exact rfl; (first | exact rfl | assumption))))
            refine hK _ (i + 1) trivial (by omega) ?_
            rw [hst, show (Option.toList (none : Option (List Val))) = [] from rfl, List.append_nil]
            (refine Wk.mk' (by intro id h; cases h) ?_ ?_ ?_ <;> repeat' (first | exact WkF.nil | exact WkB.nil | exact WkT.nil | (refine WkF.cons rfl (Sub.refl _) ?_) | (refine WkB.cons rfl rfl (Subs.refl _) ?_) | (refine WkT.cons rfl ?_)))
          | some r =>
            rw [show valsR (gs) = (r, 0) by rw [valsR, hu]] at kw
            by_cases hrl : r.length = t.cols.length
            · have q3 : ((((r.map Val.c).length : Nat) : Int) == (((t.cols.map Col.c).length : Nat) : Int)) = true := by simp [hrl]
              rw [show rowOf t (gs) = some r by rw [rowOf, hu]; exact if_pos hrl] at hst
              (repeat' (first | (refine LW.is ?_; first | ((apply s_append; exact rfl; exact rfl; exact rfl; exact rfl; (focus repeat' (first | exact len_nil | apply len_app | (refine len_map (fun x => rfl)) | (refine len_cons rfl ?_) | exact len_chunks rfl | assumption)); (focus repeat' (first | exact len_nil | apply len_app | (refine len_map (fun x => rfl)) | (refine len_cons rfl ?_) | exact len_chunks rfl | assumption)); exact bm; exact bb; exact rfl; exact rfl)) | ((apply s_indexA; exact rfl; exact rfl; exact rfl; omega; (first | exact g1 | exact g2); exact rfl)) | ((apply s_call0; exact rfl; exact ke; exact rfl; exact rfl)) | ((apply s_call0; exact rfl; exact kw; exact rfl; exact rfl)) | (refine s_nil ?_) | (apply s_mvIv; exact rfl; exact rfl) | (apply s_mvRow; exact rfl; exact rfl) | (apply s_mvTup; exact rfl; exact rfl) | (apply s_asIv; exact rfl; exact rfl) | (apply s_asRow; exact rfl; exact rfl) | (apply s_fieldP; exact rfl; exact rfl; exact rfl) | (apply s_load1P; exact rfl; exact rfl; exact rfl; (apply n_some; exact rfl; (first | exact nIm rfl | exact nSl rfl | exact nIv rfl | exact nRow rfl | exact nNil rfl | exact nPtr rfl | exact nBsh rfl | exact nBsl rfl | exact nAny rfl | exact rfl))) | (apply s_load1E; exact rfl; exact rfl; exact rfl) | (apply s_lenS; exact rfl; exact rfl) | (apply s_lenSl; exact rfl; exact rfl) | (apply s_eqlI; exact rfl; exact rfl; exact rfl) | (apply s_neqI; exact rfl; exact rfl; exact rfl) | (apply s_lssI; exact rfl; exact rfl; exact rfl) | (apply s_neqS; exact rfl; exact rfl; exact rfl) | (apply s_extract; exact rfl; exact rfl; (apply n_some; exact rfl; (first | exact nIm rfl | exact nSl rfl | exact nIv rfl | exact nRow rfl | exact nNil rfl | exact nPtr rfl | exact nBsh rfl | exact nBsl rfl | exact nAny rfl | exact rfl))) | (apply s_bslice; exact rfl; exact rfl; exact rfl; exact rfl; exact rfl; (apply n_some; exact rfl; (focus repeat' (first | exact nl_nil rfl | (apply nl_cons; exact rfl) | exact nIm rfl | exact nSl rfl | exact nIv rfl | exact nRow rfl | exact nNil rfl | exact nPtr rfl | exact nBsh rfl | exact nBsl rfl | exact nAny rfl | exact nIIm rfl | exact nISl rfl | exact rfl))); (apply n_some; exact rfl; (focus repeat' (first | exact nl_nil rfl | (apply nl_cons; exact rfl) | exact nIm rfl | exact nSl rfl | exact nIv rfl | exact nRow rfl | exact nNil rfl | exact nPtr rfl | exact nBsh rfl | exact nBsl rfl | exact nAny rfl | exact nIIm rfl | exact nISl rfl | exact rfl))); exact rfl; (focus repeat' (first | exact nl_nil rfl | (apply nl_cons; exact rfl) | exact nIm rfl | exact nSl rfl | exact nIv rfl | exact nRow rfl | exact nNil rfl | exact nPtr rfl | exact nBsh rfl | exact nBsl rfl | exact nAny rfl | exact nIIm rfl | exact nISl rfl | exact rfl)); exact rfl) | (apply s_addI; exact rfl; exact rfl; exact rfl; (first | omega | decide | (dsimp only; omega)); (first | omega | decide | (dsimp only; omega))) | (apply s_gdo; exact rfl; exact rfl; (first | exact rfl | assumption)) | (apply s_pickTIv; exact rfl; exact rfl; (first | exact rfl | assumption); exact rfl) | (apply s_pickFIv; exact rfl; exact rfl; (first | exact rfl | assumption); exact rfl)) | (refine DR.is ?_; first | ((apply d_indexA; exact rfl; exact rfl; exact rfl; omega; (first | exact g1 | exact g2); exact rfl)) | ((apply d_call0; exact rfl; exact kv; exact rfl; exact rfl)) | ((apply d_sliceSl; exact rfl; exact rfl; exact rfl; exact d0; exact d1; exact hdr)) | ((apply d_indexA; exact rfl; exact rfl; exact rfl; decide; exact g5; exact rfl)) | ((apply d_call0; exact rfl; exact kk; exact rfl; exact rfl)) | ((apply d_call0; exact rfl; exact kg; exact rfl; exact rfl)) | (apply d_nil; kernel_rfl) | (apply d_mvIv; exact rfl; exact rfl) | (apply d_mvTup; exact rfl; exact rfl) | (apply d_asIv; exact rfl; exact rfl) | (apply d_fieldP; exact rfl; exact rfl; exact rfl) | (apply d_load1P; exact rfl; exact rfl; exact rfl; (apply n_some; exact rfl; (first | exact nIm rfl | exact nSl rfl | exact nIv rfl | exact nRow rfl | exact nNil rfl | exact nPtr rfl | exact nBsh rfl | exact nBsl rfl | exact nAny rfl | exact rfl))) | (apply d_loadAP; exact rfl; exact rfl; exact rfl; (focus repeat' (first | exact nl_nil rfl | (apply nl_cons; exact rfl) | exact nIm rfl | exact nSl rfl | exact nIv rfl | exact nRow rfl | exact nNil rfl | exact nPtr rfl | exact nBsh rfl | exact nBsl rfl | exact nAny rfl | exact nIIm rfl | exact nISl rfl | exact rfl)); exact rfl) | (apply d_load1E; exact rfl; exact rfl; exact rfl) | (apply d_loadAE; exact rfl; exact rfl; (focus repeat' (first | exact nl_nil rfl | (apply nl_cons; exact rfl) | exact nIm rfl | exact nSl rfl | exact nIv rfl | exact nRow rfl | exact nNil rfl | exact nPtr rfl | exact nBsh rfl | exact nBsl rfl | exact nAny rfl | exact nIIm rfl | exact nISl rfl | exact rfl)); exact rfl) | (apply d_lenS; exact rfl; exact rfl) | (apply d_extract; exact rfl; exact rfl; (apply n_some; exact rfl; (first | exact nIm rfl | exact nSl rfl | exact nIv rfl | exact nRow rfl | exact nNil rfl | exact nPtr rfl | exact nBsh rfl | exact nBsl rfl | exact nAny rfl | exact rfl))) | (apply d_min2; exact rfl; exact rfl; exact rfl)) | (refine c_seq ?_) | (refine L.block ?_) | (refine s_region ?_) | (refine d_region ?_) | (refine L.thenN ?_) | (refine L.inN ?_) | (refine L.skip ?_) | (apply c_condT; exact rfl; (first | exact rfl | assumption)) | (apply c_condF; exact rfl; (first | exact rfl | assumption))))
              refine L.onlyS [28, 27, 7, 8, 9, 3, 4, 5] [3, 4, 5] rfl ?_
              refine L.retok 9 94 9 rfl rfl rfl rfl ?_
              refine hK _ (i + 1) trivial (by omega) ?_
              refine Wk.mk' (by intro id h; cases h) (.cons rfl (Sub.refl _) (.cons rfl (Sub.refl _) (.cons rfl (Sub.refl _) (.cons rfl (Sub.refl _) (.cons rfl (Sub.of_eq (congrArg (AV.row 9) (by rw [hst]; simp [rowC]))) (.cons rfl (Sub.refl _) (.cons rfl (Sub.refl _) (.cons rfl (Sub.refl _) .nil)))))))) (.cons rfl rfl (Subs.refl _) (.cons rfl rfl (Subs.refl _) (.cons rfl rfl (Subs.refl _) .nil))) (.cons rfl .nil)
            · have q3 : ((((r.map Val.c).length : Nat) : Int) == (((t.cols.map Col.c).length : Nat) : Int)) = false := by simp; omega
              rw [show rowOf t (gs) = none by rw [rowOf, hu]; exact if_neg hrl] at hst
              (repeat' (first | (refine LW.is ?_; first | ((apply s_indexA; exact rfl; exact rfl; exact rfl; omega; (first | exact g1 | exact g2); exact rfl)) | ((apply s_call0; exact rfl; exact ke; exact rfl; exact rfl)) | ((apply s_call0; exact rfl; exact kw; exact rfl; exact rfl)) | (refine s_nil ?_) | (apply s_mvIv; exact rfl; exact rfl) | (apply s_mvTup; exact rfl; exact rfl) | (apply s_asIv; exact rfl; exact rfl) | (apply s_fieldP; exact rfl; exact rfl; exact rfl) | (apply s_load1P; exact rfl; exact rfl; exact rfl; (apply n_some; exact rfl; (first | exact nIm rfl | exact nSl rfl | exact nIv rfl | exact nRow rfl | exact nNil rfl | exact nPtr rfl | exact nBsh rfl | exact nBsl rfl | exact nAny rfl | exact rfl))) | (apply s_load1E; exact rfl; exact rfl; exact rfl) | (apply s_lenS; exact rfl; exact rfl) | (apply s_lenSl; exact rfl; exact rfl) | (apply s_eqlI; exact rfl; exact rfl; exact rfl) | (apply s_neqI; exact rfl; exact rfl; exact rfl) | (apply s_lssI; exact rfl; exact rfl; exact rfl) | (apply s_neqS; exact rfl; exact rfl; exact rfl) | (apply s_extract; exact rfl; exact rfl; (apply n_some; exact rfl; (first | exact nIm rfl | exact nSl rfl | exact nIv rfl | exact nRow rfl | exact nNil rfl | exact nPtr rfl | exact nBsh rfl | exact nBsl rfl | exact nAny rfl | exact rfl))) | (apply s_addI; exact rfl; exact rfl; exact rfl; (first | omega | decide | (dsimp only; omega)); (first | omega | decide | (dsimp only; omega))) | (apply s_gdo; exact rfl; exact rfl; (first | exact rfl | assumption)) | (apply s_pickTIv; exact rfl; exact rfl; (first | exact rfl | assumption); exact rfl) | (apply s_pickFIv; exact rfl; exact rfl; (first | exact rfl | assumption); exact rfl)) | (refine DR.is ?_; first | ((apply d_indexA; exact rfl; exact rfl; exact rfl; omega; (first | exact g1 | exact g2); exact rfl)) | ((apply d_call0; exact rfl; exact kv; exact rfl; exact rfl)) | ((apply d_sliceSl; exact rfl; exact rfl; exact rfl; exact d0; exact d1; exact hdr)) | ((apply d_indexA; exact rfl; exact rfl; exact rfl; decide; exact g5; exact rfl)) | ((apply d_call0; exact rfl; exact kk; exact rfl; exact rfl)) | ((apply d_call0; exact rfl; exact kg; exact rfl; exact rfl)) | (apply d_nil; kernel_rfl) | (apply d_mvIv; exact rfl; exact rfl) | (apply d_mvTup; exact rfl; exact rfl) | (apply d_asIv; exact rfl; exact rfl) | (apply d_fieldP; exact rfl; exact rfl; exact rfl) | (apply d_load1P; exact rfl; exact rfl; exact rfl; (apply n_some; exact rfl; (first | exact nIm rfl | exact nSl rfl | exact nIv rfl | exact nRow rfl | exact nNil rfl | exact nPtr rfl | exact nBsh rfl | exact nBsl rfl | exact nAny rfl | exact rfl))) | (apply d_loadAP; exact rfl; exact rfl; exact rfl; (focus repeat' (first | exact nl_nil rfl | (apply nl_cons; exact rfl) | exact nIm rfl | exact nSl rfl | exact nIv rfl | exact nRow rfl | exact nNil rfl | exact nPtr rfl | exact nBsh rfl | exact nBsl rfl | exact nAny rfl | exact nIIm rfl | exact nISl rfl | exact rfl)); exact rfl) | (apply d_load1E; exact rfl; exact rfl; exact rfl) | (apply d_loadAE; exact rfl; exact rfl; (focus repeat' (first | exact nl_nil rfl | (apply nl_cons; exact rfl) | exact nIm rfl | exact nSl rfl | exact nIv rfl | exact nRow rfl | exact nNil rfl | exact nPtr rfl | exact nBsh rfl | exact nBsl rfl | exact nAny rfl | exact nIIm rfl | exact nISl rfl | exact rfl)); exact rfl) | (apply d_lenS; exact rfl; exact rfl) | (apply d_extract; exact rfl; exact rfl; (apply n_some; exact rfl; (first | exact nIm rfl | exact nSl rfl | exact nIv rfl | exact nRow rfl | exact nNil rfl | exact nPtr rfl | exact nBsh rfl | exact nBsl rfl | exact nAny rfl | exact rfl))) | (apply d_min2; exact rfl; exact rfl; exact rfl)) | (refine c_seq ?_) | (refine L.block ?_) | (refine s_region ?_) | (refine d_region ?_) | (refine L.thenN ?_) | (refine L.inN ?_) | (refine L.skip ?_) | (apply c_condT; exact rfl; (first | exact rfl | assumption)) | (apply c_condF; exact rfl; (first | exact rfl | assumption))))
              refine hK _ (i + 1) trivial (by omega) ?_
              rw [hst, show (Option.toList (none : Option (List Val))) = [] from rfl, List.append_nil]
              (refine Wk.mk' (by intro id h; cases h) ?_ ?_ ?_ <;> repeat' (first | exact WkF.nil | exact WkB.nil | exact WkT.nil | (refine WkF.cons rfl (Sub.refl _) ?_) | (refine WkB.cons rfl rfl (Subs.refl _) ?_) | (refine WkT.cons rfl ?_)))
        · have hst : (R.take (i + 1)).filterMap (pickR ps t w) = F ++ (none : Option (List Val)).toList := by rw [hst]; simp only [if_neg hl2]
          have q2 : ((((l.map Val.c).length : Nat) : Int) != 2) = true := by simp; omega
          (repeat' (first | (refine LW.is ?_; first | ((apply s_indexA; exact rfl; exact rfl; exact rfl; omega; (first | exact g1 | exact g2); exact rfl)) | ((apply s_call0; exact rfl; exact ke; exact rfl; exact rfl)) | (refine s_nil ?_) | (apply s_mvIv; exact rfl; exact rfl) | (apply s_asIv; exact rfl; exact rfl) | (apply s_fieldP; exact rfl; exact rfl; exact rfl) | (apply s_load1P; exact rfl; exact rfl; exact rfl; (apply n_some; exact rfl; (first | exact nIm rfl | exact nSl rfl | exact nIv rfl | exact nRow rfl | exact nNil rfl | exact nPtr rfl | exact nBsh rfl | exact nBsl rfl | exact nAny rfl | exact rfl))) | (apply s_load1E; exact rfl; exact rfl; exact rfl) | (apply s_lenS; exact rfl; exact rfl) | (apply s_lenSl; exact rfl; exact rfl) | (apply s_neqI; exact rfl; exact rfl; exact rfl) | (apply s_lssI; exact rfl; exact rfl; exact rfl) | (apply s_neqS; exact rfl; exact rfl; exact rfl) | (apply s_addI; exact rfl; exact rfl; exact rfl; (first | omega | decide | (dsimp only; omega)); (first | omega | decide | (dsimp only; omega))) | (apply s_gdo; exact rfl; exact rfl; (first | exact rfl | assumption)) | (apply s_pickFIv; exact rfl; exact rfl; (first | exact rfl | assumption); exact rfl)) | (refine DR.is ?_; first | ((apply d_indexA; exact rfl; exact rfl; exact rfl; omega; (first | exact g1 | exact g2); exact rfl)) | ((apply d_call0; exact rfl; exact kv; exact rfl; exact rfl)) | ((apply d_sliceSl; exact rfl; exact rfl; exact rfl; exact d0; exact d1; exact hdr)) | (apply d_nil; kernel_rfl) | (apply d_mvIv; exact rfl; exact rfl) | (apply d_mvTup; exact rfl; exact rfl) | (apply d_asIv; exact rfl; exact rfl) | (apply d_load1E; exact rfl; exact rfl; exact rfl) | (apply d_lenS; exact rfl; exact rfl) | (apply d_extract; exact rfl; exact rfl; (apply n_some; exact rfl; (first | exact nIm rfl | exact nSl rfl | exact nIv rfl | exact nRow rfl | exact nNil rfl | exact nPtr rfl | exact nBsh rfl | exact nBsl rfl | exact nAny rfl | exact rfl))) | (apply d_min2; exact rfl; exact rfl; exact rfl)) | (refine c_seq ?_) | (refine L.block ?_) | (refine s_region ?_) | (refine d_region ?_) | (refine L.thenN ?_) | (refine L.thenE ?_) | (refine L.inE ?_) | (refine L.exit ?_) | (refine L.skip ?_) | (apply c_condT; exact rfl; (first | exact rfl | assumption))))
          refine hK _ (i + 1) trivial (by omega) ?_
          rw [hst, show (Option.toList (none : Option (List Val))) = [] from rfl, List.append_nil]
          (refine Wk.mk' (by intro id h; cases h) ?_ ?_ ?_ <;> repeat' (first | exact WkF.nil | exact WkB.nil | exact WkT.nil | (refine WkF.cons rfl (Sub.refl _) ?_) | (refine WkB.cons rfl rfl (Subs.refl _) ?_) | (refine WkT.cons rfl ?_)))
end Go.Proofs.YthkobnpogigkiaaDoor
/- What comes in, as the model's values: catalogs, rows. Conditions: none. -/
namespace Go.Proofs.YthkobnpogigkiaaDoor
open Go.Abs
set_option linter.unusedVariables false
set_option maxRecDepth 100000
theorem fit_col {xs : List IV} (h : Fits book [.str, .int .i64, .bool] xs) : ∃ v : Col, xs = v.c ∧ v.n.length ≤ 140737488355328 := by
  obtain ⟨x, xs, rfl, h1, h⟩ := h.cons_inv
  obtain ⟨y, xs, rfl, h2, h⟩ := h.cons_inv
  obtain ⟨z, xs, rfl, h3, h⟩ := h.cons_inv
  obtain rfl := h.nil_inv
  obtain ⟨s, rfl, c⟩ := h1.str_inv
  obtain ⟨k, rfl, _⟩ := h2.int_inv
  obtain ⟨b, rfl⟩ := h3.bool_inv
  have hr : reachBytes = 140737488351232 := rfl
  exact ⟨⟨s, k, b⟩, rfl, by show s.length ≤ _; omega⟩
theorem fit_tab {xs : List IV} (h : Fits book [.str, .sl 53] xs) : ∃ v : Tab, xs = v.c ∧ v.Ok := by
  obtain ⟨x, xs, rfl, h1, h⟩ := h.cons_inv
  obtain ⟨y, xs, rfl, h2, h⟩ := h.cons_inv
  obtain rfl := h.nil_inv
  obtain ⟨s, rfl, c⟩ := h1.str_inv
  obtain ⟨es, rfl, hl, he⟩ := h2.sl_inv (n := 32) (cts := [.str, .int .i64, .bool]) rfl
  obtain ⟨vs, rfl, hv⟩ := map_of (f := Col.c) (Q := fun _ v => v.n.length ≤ 140737488355328) (fun e h => fit_col (he e h))
  have hr : reachBytes = 140737488351232 := rfl
  simp only [List.length_map] at hl
  exact ⟨⟨s, vs⟩, rfl, by show s.length ≤ _; omega, by show vs.length ≤ _; omega, hv⟩
theorem fit_idx {xs : List IV} (h : Fits book [.str, .str, .str] xs) : ∃ v : Idx, xs = v.c ∧ v.n.length ≤ 140737488355328 := by
  obtain ⟨x, xs, rfl, h1, h⟩ := h.cons_inv
  obtain ⟨y, xs, rfl, h2, h⟩ := h.cons_inv
  obtain ⟨z, xs, rfl, h3, h⟩ := h.cons_inv
  obtain rfl := h.nil_inv
  obtain ⟨s, rfl, c⟩ := h1.str_inv
  obtain ⟨u, rfl, _⟩ := h2.str_inv
  obtain ⟨v, rfl, _⟩ := h3.str_inv
  have hr : reachBytes = 140737488351232 := rfl
  exact ⟨⟨s, u, v⟩, rfl, by show s.length ≤ _; omega⟩
theorem fit_cat {xs : List IV} (h : Fits book [.sl 43, .sl 81] xs) : ∃ v : Cat, xs = v.c ∧ v.Ok := by
  obtain ⟨x, xs, rfl, h1, h⟩ := h.cons_inv
  obtain ⟨y, xs, rfl, h2, h⟩ := h.cons_inv
  obtain rfl := h.nil_inv
  obtain ⟨es, rfl, hl, he⟩ := h1.sl_inv (n := 40) (cts := [.str, .sl 53]) rfl
  obtain ⟨ts, rfl, hv⟩ := map_of (f := Tab.c) (Q := fun _ v => v.Ok) (fun e h => fit_tab (he e h))
  obtain ⟨fs, rfl, hl2, he2⟩ := h2.sl_inv (n := 48) (cts := [.str, .str, .str]) rfl
  obtain ⟨is, rfl, hv2⟩ := map_of (f := Idx.c) (Q := fun _ v => v.n.length ≤ 140737488355328) (fun e h => fit_idx (he2 e h))
  have hr : reachBytes = 140737488351232 := rfl
  simp only [List.length_map] at hl hl2
  exact ⟨⟨ts, is⟩, rfl, by show ts.length ≤ _; omega, by show is.length ≤ _; omega, hv, hv2⟩
theorem fit_rows {x : IV} (h : Fit book (.sl 37) x) : ∃ rs : List (List Val), x = .sl (rs.map rowC) ∧ rs.length ≤ 140737488355328 ∧ ∀ r ∈ rs, r.length ≤ 140737488355328 := by
  obtain ⟨es, rfl, hl, he⟩ := h.sl_inv (n := 24) (cts := [.sl 32]) rfl
  have hr : reachBytes = 140737488351232 := rfl
  obtain ⟨rs, rfl, hv⟩ := map_of (f := rowC) (Q := fun _ r => r.length ≤ 140737488355328) (fun e h => by
    obtain ⟨y, ys, rfl, h1, h2⟩ := (he e h).cons_inv
    obtain rfl := h2.nil_inv
    obtain ⟨vs, rfl, h3, _, _⟩ := fit_vals h1
    exact ⟨vs, rfl, by omega⟩)
  simp only [List.length_map] at hl
  exact ⟨rs, rfl, by omega, hv⟩
end Go.Proofs.YthkobnpogigkiaaDoor
/- Values, plain laws: keys are ordered as values are. Conditions: none. -/
namespace Go.Proofs.YthkobnpogigkiaaDoor
open Go.Abs
set_option linter.unusedVariables false
set_option linter.unusedSimpArgs false
theorem u8_lt {a b : UInt8} : a < b ↔ a.toNat < b.toNat := UInt8.lt_iff_toNat_lt
theorem be4_less {a b : Int} (h0 : 0 ≤ a) (h1 : a < b) (h2 : b < 4294967296) (x y : List UInt8) : Op.bytesLess (be4 a ++ x) (be4 b ++ y) = true := by
  have a0 := u8_nat (n := a / 16777216) (by omega)
  have a1 := u8_nat (n := a / 65536) (by omega)
  have a2 := u8_nat (n := a / 256) (by omega)
  have a3 := u8_nat (n := a) (by omega)
  have b0 := u8_nat (n := b / 16777216) (by omega)
  have b1 := u8_nat (n := b / 65536) (by omega)
  have b2 := u8_nat (n := b / 256) (by omega)
  have b3 := u8_nat (n := b) (by omega)
  simp only [be4, List.cons_append, List.nil_append, Op.bytesLess]
  generalize u8 (a / 16777216) = c0 at *
  generalize u8 (a / 65536) = c1 at *
  generalize u8 (a / 256) = c2 at *
  generalize u8 a = c3 at *
  generalize u8 (b / 16777216) = d0 at *
  generalize u8 (b / 65536) = d1 at *
  generalize u8 (b / 256) = d2 at *
  generalize u8 b = d3 at *
  have ha : a = 16777216 * (c0.toNat : Int) + 65536 * c1.toNat + 256 * c2.toNat + c3.toNat := by omega
  have hb : b = 16777216 * (d0.toNat : Int) + 65536 * d1.toNat + 256 * d2.toNat + d3.toNat := by omega
  clear a0 a1 a2 a3 b0 b1 b2 b3
  have e0 := c0.toNat_lt
  have e1 := c1.toNat_lt
  have e2 := c2.toNat_lt
  have e3 := c3.toNat_lt
  have g0 := d0.toNat_lt
  have g1 := d1.toNat_lt
  have g2 := d2.toNat_lt
  have g3 := d3.toNat_lt
  have key : c0.toNat < d0.toNat ∨ c0.toNat = d0.toNat ∧ (c1.toNat < d1.toNat ∨ c1.toNat = d1.toNat ∧ (c2.toNat < d2.toNat ∨ c2.toNat = d2.toNat ∧ c3.toNat < d3.toNat)) := by omega
  simp only [Bool.or_eq_true, Bool.and_eq_true, decide_eq_true_eq, beq_iff_eq, u8_lt]
  rcases key with h | ⟨h, h' | ⟨h', h'' | ⟨h'', h3⟩⟩⟩
  · exact .inl h
  · exact .inr ⟨UInt8.toNat_inj.1 h, .inl h'⟩
  · exact .inr ⟨UInt8.toNat_inj.1 h, .inr ⟨UInt8.toNat_inj.1 h', .inl h''⟩⟩
  · exact .inr ⟨UInt8.toNat_inj.1 h, .inr ⟨UInt8.toNat_inj.1 h', .inr ⟨UInt8.toNat_inj.1 h'', .inl h3⟩⟩⟩
theorem text_less : ∀ {s t : List UInt8}, t.all charOk = true → Op.bytesLess s t = true → ∀ x y, Op.bytesLess (s ++ 0 :: x) (t ++ 0 :: y) = true
  | _, [], _, h, x, y => by simp [Op.bytesLess] at h
  | [], b :: t, ht, _, x, y => by
    simp only [List.all_cons, Bool.and_eq_true] at ht
    have hb : (0 : UInt8) < b := by
      rw [u8_lt]
      have := ht.1
      simp [charOk] at this
      have e : (0 : UInt8).toNat = 0 := rfl
      omega
    simp [Op.bytesLess, hb]
  | a :: s, b :: t, ht, h, x, y => by
    simp only [List.all_cons, Bool.and_eq_true] at ht
    simp only [Op.bytesLess, Bool.or_eq_true, Bool.and_eq_true, List.cons_append] at h ⊢
    exact h.imp id (fun ⟨h1, h2⟩ => ⟨h1, text_less ht.2 h2 x y⟩)
theorem less_irrefl (x : List UInt8) : Op.bytesLess x x = false := by rw [less_lt]; simp [List.lt_irrefl]
theorem less_asymm {x y : List UInt8} (h : Op.bytesLess x y = true) : Op.bytesLess y x = false := by
  rw [less_lt] at h ⊢
  simp only [decide_eq_true_eq, decide_eq_false_iff_not] at h ⊢
  exact List.lt_asymm h
theorem less_tri {x y : List UInt8} (h : Op.bytesLess x y = false) (h' : Op.bytesLess y x = false) : x = y := by
  rw [less_lt] at h h'
  simp only [decide_eq_false_iff_not] at h h'
  exact List.le_antisymm (List.not_lt.1 h') (List.not_lt.1 h)
theorem less_app (z : List UInt8) {x y : List UInt8} : Op.bytesLess (z ++ x) (z ++ y) = Op.bytesLess x y := by
  induction z with
  | nil => rfl
  | cons a z ih =>
    simp only [List.cons_append, Op.bytesLess, ih]
    have : ¬ a < a := by rw [u8_lt]; omega
    simp [this]
theorem cmpI_self (a : Int) : cmpI a a = 0 := by simp [cmpI]
theorem cmpS_self (a : List UInt8) : cmpS a a = 0 := by simp [cmpS, less_irrefl]
theorem cmp_one {v w : Val} (hv : goodM v = true) (hw : goodM w = true) : v = w ∧ cmpM v w = 0 ∨ (cmpM v w = -1 ∧ ∀ x y, Op.bytesLess (keyOne v ++ x) (keyOne w ++ y) = true) ∨ (cmpM v w = 1 ∧ ∀ x y, Op.bytesLess (keyOne w ++ y) (keyOne v ++ x) = true) := by
  rcases good_cases hv with rfl | ⟨n, rfl, h0, h1⟩ | ⟨s, rfl, hl, hs⟩ <;> rcases good_cases hw with rfl | ⟨m, rfl, k0, k1⟩ | ⟨t, rfl, kl, ks⟩
  · left; exact ⟨rfl, by simp [cmpM, cmpI_self, cmpS_self, orL]⟩
  · right; left; rw [keyOne0, keyOne1]
    exact ⟨by simp [cmpM, orL, cmpI], fun x y => by simp [Op.bytesLess]⟩
  · right; left; rw [keyOne0, keyOne2]
    exact ⟨by simp [cmpM, orL, cmpI], fun x y => by simp [Op.bytesLess]⟩
  · right; right; rw [keyOne0, keyOne1]
    exact ⟨by simp [cmpM, orL, cmpI], fun x y => by simp [Op.bytesLess]⟩
  · rw [keyOne1, keyOne1]
    by_cases h : n = m
    · subst h; left; exact ⟨rfl, by simp [cmpM, cmpI_self, cmpS_self, orL]⟩
    · by_cases h' : n < m
      · right; left
        refine ⟨by simp [cmpM, orL, cmpI, h'], fun x y => ?_⟩
        have := be4_less (a := n + 1073741824) (b := m + 1073741824) (by omega) (by omega) (by omega) x y
        simp only [List.cons_append, Op.bytesLess, this]; simp
      · right; right
        have h'' : m < n := by omega
        refine ⟨by simp [cmpM, orL, cmpI, h', h''], fun x y => ?_⟩
        have := be4_less (a := m + 1073741824) (b := n + 1073741824) (by omega) (by omega) (by omega) y x
        simp only [List.cons_append, Op.bytesLess, this]; simp
  · right; left; rw [keyOne1, keyOne2]
    exact ⟨by simp [cmpM, orL, cmpI], fun x y => by simp [Op.bytesLess]⟩
  · right; right; rw [keyOne0, keyOne2]
    exact ⟨by simp [cmpM, orL, cmpI], fun x y => by simp [Op.bytesLess]⟩
  · right; right; rw [keyOne1, keyOne2]
    exact ⟨by simp [cmpM, orL, cmpI], fun x y => by simp [Op.bytesLess]⟩
  · rw [keyOne2, keyOne2]
    cases h : Op.bytesLess s t with
    | true =>
      right; left
      refine ⟨by simp [cmpM, orL, cmpI, cmpS, h], fun x y => ?_⟩
      have := text_less ks h x y
      simp only [List.cons_append, List.append_assoc, List.nil_append, Op.bytesLess, this]; simp
    | false =>
      cases h' : Op.bytesLess t s with
      | true =>
        right; right
        refine ⟨by simp [cmpM, orL, cmpI, cmpS, h, h'], fun x y => ?_⟩
        have := text_less hs h' y x
        simp only [List.cons_append, List.append_assoc, List.nil_append, Op.bytesLess, this]; simp
      | false =>
        obtain rfl := less_tri h h'
        left; exact ⟨rfl, by simp [cmpM, cmpI_self, cmpS_self, orL]⟩
end Go.Proofs.YthkobnpogigkiaaDoor
/- Ways to rows, plain laws: what a tree holds behind plan.Put and plan.Drop; the way to all rows. Conditions: none. -/
namespace Go.Proofs.YthkobnpogigkiaaDoor
open Go.Abs
set_option linter.unusedVariables false
set_option linter.unusedSimpArgs false
theorem sort_flat {ps : List Pg} (h : goodTree ps = true) : SortF (flatP ps) := (good_flat ((good_iff ps).1 h).1).1 h
theorem put_mem {ps : List Pg} {k v : Str} (h : goodTree ps = true) (a b : Str) : (a, b) ∈ flatP (putM ps k v) ↔ (a = k ∧ b = v) ∨ (a ≠ k ∧ (a, b) ∈ flatP ps) := by
  rw [put_flat h]
  simp only [putF, List.mem_append, List.mem_cons, List.mem_filter, decide_eq_true_eq, Prod.mk.injEq]
  constructor
  · rintro (⟨h1, h2⟩ | h1 | ⟨h1, h2⟩)
    · exact .inr ⟨fun e => by rw [e] at h2; exact List.lt_irrefl _ h2, h1⟩
    · exact .inl h1
    · exact .inr ⟨fun e => by rw [e] at h2; exact List.lt_irrefl _ h2, h1⟩
  · rintro (h1 | ⟨h1, h2⟩)
    · exact .inr (.inl h1)
    · rcases lt_tri a k with h3 | h3 | h3
      · exact .inl ⟨h2, h3⟩
      · exact absurd h3 h1
      · exact .inr (.inr ⟨h2, h3⟩)
theorem drop_mem {ps : List Pg} {k : Str} (h : goodTree ps = true) (a b : Str) : (a, b) ∈ flatP (dropM ps k) ↔ a ≠ k ∧ (a, b) ∈ flatP ps := by
  rw [drop_flat h, dropF, List.mem_filter]
  constructor
  · exact fun h => ⟨by simpa using h.2, h.1⟩
  · exact fun h => ⟨h.2, by simpa using h.1⟩
theorem find_iff {ps : List Pg} {k : Str} (h : goodTree ps = true) : (getM ps k).2 = true ↔ ∃ v, (k, v) ∈ flatP ps := by
  rw [get_flat h]
  constructor
  · intro e
    by_cases hx : ∃ w, (k, w) ∈ flatP ps
    · exact hx
    · rw [find_no (fun w hw => hx ⟨w, hw⟩)] at e; cases e
  · rintro ⟨v, hv⟩
    rw [find_some (sort_flat h) hv]
def ixOn (t : Tab) (x : Idx) : Bool := x.tb == t.n && decide (0 ≤ colM t x.co)
def ixKey (t : Tab) (row : List Val) (x : Idx) : Str := indexKeyM x.n (row.getD (colM t x.co).toNat nilV) (row.getD 0 nilV)
def ixKeys (t : Tab) (row : List Val) (l : List Idx) : List Str := (l.filter (ixOn t)).map (ixKey t row)
theorem ixKeys_cons (t : Tab) (row : List Val) (x : Idx) (l : List Idx) : ixKeys t row (x :: l) = if ixOn t x then ixKey t row x :: ixKeys t row l else ixKeys t row l := by
  unfold ixKeys; rw [List.filter_cons]; split <;> simp
theorem putIxs_mem (t : Tab) (row : List Val) : ∀ (l : List Idx) (ps : List Pg), goodTree ps = true → goodTree (l.foldl (putIx t row) ps) = true ∧ ∀ a b, (a, b) ∈ flatP (l.foldl (putIx t row) ps) ↔ (a ∈ ixKeys t row l ∧ b = []) ∨ (a ∉ ixKeys t row l ∧ (a, b) ∈ flatP ps)
  | [], ps, h => ⟨h, fun a b => by simp [ixKeys]⟩
  | x :: l, ps, h => by
    have hx : putIx t row ps x = if ixOn t x then putM ps (ixKey t row x) [] else ps := rfl
    rw [List.foldl_cons, hx, ixKeys_cons]
    cases hon : ixOn t x with
    | false => simpa using putIxs_mem t row l ps h
    | true =>
      simp only [if_true]
      have ih := putIxs_mem t row l (putM ps (ixKey t row x) []) (put_good h)
      refine ⟨ih.1, fun a b => ?_⟩
      rw [ih.2, put_mem h]
      simp only [List.mem_cons]
      constructor
      · rintro (⟨h1, h2⟩ | ⟨h1, ⟨h2, h3⟩ | ⟨h2, h3⟩⟩)
        · exact .inl ⟨.inr h1, h2⟩
        · exact .inl ⟨.inl h2, h3⟩
        · exact .inr ⟨fun e => e.elim h2 h1, h3⟩
      · rintro (⟨h1 | h1, h2⟩ | ⟨h1, h2⟩)
        · by_cases hm : a ∈ ixKeys t row l
          · exact .inl ⟨hm, h2⟩
          · exact .inr ⟨hm, .inl ⟨h1, h2⟩⟩
        · exact .inl ⟨h1, h2⟩
        · exact .inr ⟨fun e => h1 (.inr e), .inr ⟨fun e => h1 (.inl e), h2⟩⟩
theorem dropIxs_mem (t : Tab) (row : List Val) : ∀ (l : List Idx) (ps : List Pg), goodTree ps = true → goodTree (l.foldl (dropIx t row) ps) = true ∧ ∀ a b, (a, b) ∈ flatP (l.foldl (dropIx t row) ps) ↔ (a ∉ ixKeys t row l ∧ (a, b) ∈ flatP ps)
  | [], ps, h => ⟨h, fun a b => by simp [ixKeys]⟩
  | x :: l, ps, h => by
    have hx : dropIx t row ps x = if ixOn t x then dropM ps (ixKey t row x) else ps := rfl
    rw [List.foldl_cons, hx, ixKeys_cons]
    cases hon : ixOn t x with
    | false => simpa using dropIxs_mem t row l ps h
    | true =>
      simp only [if_true]
      have ih := dropIxs_mem t row l (dropM ps (ixKey t row x)) (drop_good h)
      refine ⟨ih.1, fun a b => ?_⟩
      rw [ih.2, drop_mem h]
      simp only [List.mem_cons]
      constructor
      · rintro ⟨h1, h2, h3⟩; exact ⟨fun e => e.elim h2 h1, h3⟩
      · rintro ⟨h1, h2⟩; exact ⟨fun e => h1 (.inr e), fun e => h1 (.inl e), h2⟩
def rowK (t : Tab) (row : List Val) : Str := rowKeyM t.n (row.getD 0 nilV)
theorem putT_mem {ps : List Pg} {c : Cat} {t : Tab} {row : List Val} (h : goodTree ps = true) (h0 : row.length ≠ 0) (hl : row.length = t.cols.length) : goodTree (putT ps c t row) = true ∧ ∀ a b, (a, b) ∈ flatP (putT ps c t row) ↔
    (a ∈ ixKeys t row c.is ∧ b = []) ∨ (a ∉ ixKeys t row c.is ∧ ((a = rowK t row ∧ b = keyS row) ∨ (a ≠ rowK t row ∧ (a, b) ∈ flatP ps))) := by
  rw [putT, if_neg (by omega)]
  have ih := putIxs_mem t row c.is (putM ps (rowKeyM t.n (row.getD 0 nilV)) (keyS row)) (put_good h)
  refine ⟨ih.1, fun a b => ?_⟩
  rw [ih.2, put_mem h]; rfl
theorem dropT_mem {ps : List Pg} {c : Cat} {t : Tab} {row : List Val} (h : goodTree ps = true) (h0 : row.length ≠ 0) (hl : row.length = t.cols.length) : goodTree (dropT ps c t row) = true ∧ ∀ a b, (a, b) ∈ flatP (dropT ps c t row) ↔
    (a ∉ ixKeys t row c.is ∧ a ≠ rowK t row ∧ (a, b) ∈ flatP ps) := by
  rw [dropT, if_neg (by omega)]
  have ih := dropIxs_mem t row c.is (dropM ps (rowKeyM t.n (row.getD 0 nilV))) (drop_good h)
  refine ⟨ih.1, fun a b => ?_⟩
  rw [ih.2, drop_mem h]; rfl
theorem ix_head {t : Tab} {row : List Val} {l : List Idx} {a : Str} (h : a ∈ ixKeys t row l) : ∃ s, a = 120 :: s := by
  obtain ⟨x, _, rfl⟩ := List.mem_map.1 h
  exact ⟨_, rfl⟩
theorem row_head (t : Tab) (row : List Val) : ∃ s, rowK t row = 114 :: s := ⟨_, rfl⟩
theorem ix_row {t t' : Tab} {row row' : List Val} {l : List Idx} : rowK t row ∉ ixKeys t' row' l := fun h => by
  obtain ⟨s, hs⟩ := ix_head h
  obtain ⟨u, hu⟩ := row_head t row
  rw [hu] at hs; cases hs
theorem keyS_good {vs : List Val} (h : vs.all goodM = true) : keyS vs = vs.flatMap keyOne := by rw [keyS, keyM, if_pos h]
theorem keyS_vals {vs : List Val} (h : vs.all goodM = true) : valsM (keyS vs) = some vs := by rw [keyS_good h, valsM_key h]
theorem keyS_one {v w : Val} (hv : goodM v = true) (hw : goodM w = true) (h : keyS [v] = keyS [w]) : v = w := by
  have h1 := keyS_vals (vs := [v]) (by simp [hv])
  have h2 := keyS_vals (vs := [w]) (by simp [hw])
  rw [h, h2] at h1
  simpa using h1.symm
theorem app_lt (z x y : Str) : z ++ x < z ++ y ↔ x < y := by
  have := less_app z (x := x) (y := y)
  rw [ltS, ltS] at this
  simpa using this
theorem keyS_lt {v w : Val} (hv : goodM v = true) (hw : goodM w = true) : keyS [v] < keyS [w] ↔ cmpM v w = -1 := by
  have e1 : keyS [v] = keyOne v := by rw [keyS_good (by simp [hv])]; simp
  have e2 : keyS [w] = keyOne w := by rw [keyS_good (by simp [hw])]; simp
  rw [e1, e2]
  rcases cmp_one hv hw with ⟨rfl, h⟩ | ⟨h, hl⟩ | ⟨h, hl⟩
  · rw [h]; simp [List.lt_irrefl]
  · have := hl [] []
    rw [List.append_nil, List.append_nil, ltS] at this
    rw [h]; simpa using this
  · have := hl [] []
    rw [List.append_nil, List.append_nil, ltS] at this
    have hlt : keyOne w < keyOne v := by simpa using this
    rw [h]
    constructor
    · intro h2; exact absurd h2 (List.lt_asymm hlt)
    · intro h2; cases h2
theorem fitsFrom_get {row : List Val} : ∀ {cs : List Col} {i : Nat}, fitsFrom row i cs = true → ∀ j, j < cs.length → goodM (row.getD (i + j) nilV) = true
  | [], i, h, j, hj => by simp at hj
  | c :: cs, i, h, j, hj => by
    rw [fitsFrom, List.zipIdx_cons, List.all_cons, Bool.and_eq_true] at h
    cases j with
    | zero =>
      have h1 := h.1
      simp only [fitV] at h1
      cases hg : goodM (row.getD i nilV) with
      | true => simp
      | false => simp only [List.getD_eq_getElem?_getD] at hg h1; simp [hg] at h1
    | succ j =>
      have := fitsFrom_get (row := row) (cs := cs) (i := i + 1) h.2 j (by simpa using hj)
      rw [show i + 1 + j = i + (j + 1) by omega] at this; exact this
theorem fits_good {t : Tab} {row : List Val} (h : fitsM t row = true) : row.length = t.cols.length ∧ row.all goodM = true := by
  simp only [fitsM, Bool.and_eq_true, beq_iff_eq] at h
  refine ⟨h.1, List.all_eq_true.2 (fun v hv => ?_)⟩
  obtain ⟨i, hi, rfl⟩ := List.mem_iff_getElem.1 hv
  have := fitsFrom_get h.2 i (by omega)
  rw [Nat.zero_add, List.getD_eq_getElem?_getD, List.getElem?_eq_getElem hi] at this
  exact this
theorem good_getD {row : List Val} (h : row.all goodM = true) (i : Nat) : goodM (row.getD i nilV) = true := by
  rw [List.getD_eq_getElem?_getD]
  cases hx : row[i]? with
  | none => rfl
  | some v => exact List.all_eq_true.1 h v (List.mem_of_getElem? hx)
structure Holds (c : Cat) (t : Tab) (ps : List Pg) (own : List (List Val)) : Prop where
  good : goodTree ps = true
  fit : ∀ r ∈ own, r.length = t.cols.length ∧ r.all goodM = true
  dis : own.Pairwise (fun r r' => r.getD 0 nilV ≠ r'.getD 0 nilV)
  mem : ∀ a b, (a, b) ∈ flatP ps ↔ ∃ r ∈ own, (a = rowK t r ∧ b = keyS r) ∨ (a ∈ ixKeys t r c.is ∧ b = [])
theorem Holds.nil (c : Cat) (t : Tab) : Holds c t [] [] := ⟨rfl, by simp, .nil, by simp [flatP]⟩
theorem rowK_inj {t : Tab} {r r' : List Val} (h1 : r.all goodM = true) (h2 : r'.all goodM = true) (h : rowK t r = rowK t r') : r.getD 0 nilV = r'.getD 0 nilV :=
  keyS_one (good_getD h1 0) (good_getD h2 0) (List.append_cancel_left h)
theorem Holds.put {c : Cat} {t : Tab} {ps : List Pg} {own : List (List Val)} (h : Holds c t ps own) (h0 : t.cols.length ≠ 0) {row : List Val} (hf : row.length = t.cols.length ∧ row.all goodM = true) (hn : (getM ps (rowK t row)).2 = false) : Holds c t (putT ps c t row) (own ++ [row]) := by
  obtain ⟨hg, hm⟩ := putT_mem (c := c) h.good (by omega) hf.1
  have hno : ∀ v, (rowK t row, v) ∉ flatP ps := fun v hv => by
    rw [(find_iff h.good).2 ⟨v, hv⟩] at hn; cases hn
  have hdi : ∀ r ∈ own, r.getD 0 nilV ≠ row.getD 0 nilV := fun r hr e => by
    refine hno (keyS r) ((h.mem _ _).2 ⟨r, hr, .inl ⟨?_, rfl⟩⟩)
    rw [rowK, rowK, e]
  refine ⟨hg, fun r hr => ?_, List.pairwise_append.2 ⟨h.dis, List.pairwise_singleton _ _, fun r hr r' hr' => ?_⟩, fun a b => ?_⟩
  · rcases List.mem_append.1 hr with hr | hr
    · exact h.fit r hr
    · simp at hr; subst hr; exact hf
  · simp at hr'; subst hr'; exact hdi r hr
  · rw [hm]
    constructor
    · rintro (⟨h1, h2⟩ | ⟨h1, ⟨h2, h3⟩ | ⟨h2, h3⟩⟩)
      · exact ⟨row, by simp, .inr ⟨h1, h2⟩⟩
      · exact ⟨row, by simp, .inl ⟨h2, h3⟩⟩
      · obtain ⟨r, hr, hx⟩ := (h.mem a b).1 h3
        exact ⟨r, by simp [hr], hx⟩
    · rintro ⟨r, hr, hx⟩
      rcases List.mem_append.1 hr with hr | hr
      · by_cases hi : a ∈ ixKeys t row c.is
        · rcases hx with ⟨rfl, _⟩ | ⟨_, h2⟩
          · exact absurd hi ix_row
          · exact .inl ⟨hi, h2⟩
        · refine .inr ⟨hi, .inr ⟨?_, (h.mem a b).2 ⟨r, hr, hx⟩⟩⟩
          rcases hx with ⟨rfl, _⟩ | ⟨h1, _⟩
          · exact fun e => hdi r hr (rowK_inj (h.fit r hr).2 hf.2 e)
          · exact fun e => by rw [e] at h1; exact ix_row h1
      · simp at hr; subst hr
        rcases hx with ⟨h1, h2⟩ | ⟨h1, h2⟩
        · refine .inr ⟨fun e => ?_, .inl ⟨h1, h2⟩⟩
          rw [h1] at e; exact ix_row e
        · exact .inl ⟨h1, h2⟩
theorem lt_cons {a b : UInt8} {s u : Str} : (a :: s) < (b :: u) ↔ a < b ∨ a = b ∧ s < u := List.cons_lt_cons_iff
theorem all_in (n : Str) (s : Str) : ¬ (rowsK n ++ s < rowsK n) ∧ rowsK n ++ s < (allW n).hi := by
  constructor
  · intro hc
    have := (app_lt (rowsK n) s []).1 (by rw [List.append_nil]; exact hc)
    simp at this
  · show (([114] ++ n) ++ [0]) ++ s < ([114] ++ n) ++ [1]
    rw [List.append_assoc, app_lt]
    exact lt_cons.2 (.inl (by decide))
theorem all_out (n : Str) (s : Str) : ¬ ((120 : UInt8) :: s < (allW n).hi) := by
  show ¬ ((120 : UInt8) :: s < 114 :: (n ++ [1]))
  rw [lt_cons]
  rintro (h | ⟨h, _⟩)
  · exact absurd h (by decide)
  · exact absurd h (by decide)
theorem rowOf_key {t : Tab} {r : List Val} (h : r.length = t.cols.length ∧ r.all goodM = true) : rowOf t (keyS r) = some r := by
  rw [rowOf, keyS_vals h.2]; exact if_pos h.1
theorem flat_nodup {l : List Pr} (h : SortF l) : l.Nodup := (List.pairwise_map.1 h).imp (fun h e => by rw [e] at h; exact List.lt_irrefl _ h)
theorem all_range {c : Cat} {t : Tab} {ps : List Pg} {own : List (List Val)} (h : Holds c t ps own) :
    ∀ a b, (a, b) ∈ rangeM ps (allW t.n).lo (allW t.n).hi ↔ ∃ r ∈ own, a = rowK t r ∧ b = keyS r := by
  intro a b
  rw [range_law _ _ h.good, List.mem_filter, h.mem]
  constructor
  · rintro ⟨⟨r, hr, h1 | ⟨h1, h2⟩⟩, h3⟩
    · exact ⟨r, hr, h1⟩
    · obtain ⟨s, rfl⟩ := ix_head h1
      simp only [Bool.and_eq_true, decide_eq_true_eq] at h3
      exact absurd h3.2 (all_out t.n s)
  · rintro ⟨r, hr, rfl, rfl⟩
    refine ⟨⟨r, hr, .inl ⟨rfl, rfl⟩⟩, ?_⟩
    have := all_in t.n (keyS [r.getD 0 nilV])
    simp only [Bool.and_eq_true, Bool.not_eq_true', decide_eq_false_iff_not, decide_eq_true_eq]
    exact this
theorem rows_all {c : Cat} {t : Tab} {ps : List Pg} {own : List (List Val)} (h : Holds c t ps own) :
    (rowsT ps t (allW t.n)).Perm own ∧ (rowsT ps t (allW t.n)).Pairwise (fun r r' => cmpM (r.getD 0 nilV) (r'.getD 0 nilV) = -1) := by
  have hs : SortF (rangeM ps (allW t.n).lo (allW t.n).hi) := by
    rw [range_law _ _ h.good]; exact (sort_flat h.good).sublist (List.Sublist.map _ List.filter_sublist)
  have hp : rowsT ps t (allW t.n) = (rangeM ps (allW t.n).lo (allW t.n).hi).filterMap (fun x => rowOf t x.2) := by
    rw [rowsT]; congr 1
  have hm := all_range h
  generalize rangeM ps (allW t.n).lo (allW t.n).hi = R at *
  have hback : ∀ l : List (List Val), (∀ r ∈ l, r ∈ own) → (l.map (fun r => (rowK t r, keyS r))).filterMap (fun x : Pr => rowOf t x.2) = l := fun l hl => by
    induction l with
    | nil => rfl
    | cons r l ih =>
      rw [List.map_cons, List.filterMap_cons, rowOf_key (h.fit r (hl r (by simp))), ih (fun r hr => hl r (by simp [hr]))]
  have hnd : (own.map (fun r => (rowK t r, keyS r))).Nodup := by
    refine List.Pairwise.map _ (fun r r' h => h) ?_
    refine h.dis.imp_of_mem (fun {r r'} hr hr' hne e => hne ?_)
    exact rowK_inj (h.fit r hr).2 (h.fit r' hr').2 (Prod.mk.inj e).1
  have hperm : R.Perm (own.map (fun r => (rowK t r, keyS r))) := by
    refine (List.perm_ext_iff_of_nodup (flat_nodup hs) hnd).2 (fun ⟨a, b⟩ => ?_)
    rw [hm, List.mem_map]
    constructor
    · rintro ⟨r, hr, h1, h2⟩; exact ⟨r, hr, by rw [h1, h2]⟩
    · rintro ⟨r, hr, e⟩; exact ⟨r, hr, (Prod.mk.inj e).1.symm, (Prod.mk.inj e).2.symm⟩
  rw [hp]
  refine ⟨?_, ?_⟩
  · have := hperm.filterMap (fun x : Pr => rowOf t x.2)
    rwa [hback own (fun r hr => hr)] at this
  · refine List.pairwise_filterMap.2 ?_
    refine (List.pairwise_map.1 hs).imp_of_mem (fun {x y} hx hy hlt r hr r' hr' => ?_)
    obtain ⟨a, b⟩ := x
    obtain ⟨a', b'⟩ := y
    obtain ⟨q, hq, rfl, rfl⟩ := (hm a b).1 hx
    obtain ⟨q', hq', rfl, rfl⟩ := (hm a' b').1 hy
    have e1 := (rowOf_key (h.fit q hq)).symm.trans hr
    have e2 := (rowOf_key (h.fit q' hq')).symm.trans hr'
    cases e1; cases e2
    have hlt2 : keyS [r.getD 0 nilV] < keyS [r'.getD 0 nilV] := (app_lt (rowsK t.n) _ _).1 hlt
    exact (keyS_lt (good_getD (h.fit r hq).2 0) (good_getD (h.fit r' hq').2 0)).1 hlt2
theorem drops_mem {c : Cat} {t : Tab} (h0 : t.cols.length ≠ 0) : ∀ (l : List (List Val)) {ps : List Pg}, goodTree ps = true → (∀ r ∈ l, r.length = t.cols.length) → goodTree (l.foldl (fun ps r => dropT ps c t r) ps) = true ∧
    ∀ a b, (a, b) ∈ flatP (l.foldl (fun ps r => dropT ps c t r) ps) ↔ (∀ r ∈ l, a ∉ ixKeys t r c.is ∧ a ≠ rowK t r) ∧ (a, b) ∈ flatP ps
  | [], ps, hg, _ => ⟨hg, fun a b => by simp⟩
  | r :: l, ps, hg, hl => by
    have hr := hl r (by simp)
    obtain ⟨g1, m1⟩ := dropT_mem (c := c) hg (by omega) hr
    obtain ⟨g2, m2⟩ := drops_mem h0 l g1 (fun r hr => hl r (by simp [hr]))
    refine ⟨g2, fun a b => ?_⟩
    rw [List.foldl_cons, m2, m1]
    simp only [List.mem_cons, forall_eq_or_imp]
    constructor
    · rintro ⟨h1, h2, h3, h4⟩; exact ⟨⟨⟨h2, h3⟩, h1⟩, h4⟩
    · rintro ⟨⟨⟨h2, h3⟩, h1⟩, h4⟩; exact ⟨h1, h2, h3, h4⟩
theorem drops_all {c : Cat} {t : Tab} {ps : List Pg} {own : List (List Val)} (h : Holds c t ps own) (h0 : t.cols.length ≠ 0) {l : List (List Val)} (hp : l.Perm own) : sizeM (l.foldl (fun ps r => dropT ps c t r) ps) = 0 := by
  obtain ⟨hg, hm⟩ := drops_mem (c := c) h0 l h.good (fun r hr => (h.fit r (hp.mem_iff.1 hr)).1)
  rw [size_flat ((good_iff _).1 hg).1]
  have : flatP (l.foldl (fun ps r => dropT ps c t r) ps) = [] := by
    refine List.eq_nil_iff_forall_not_mem.2 (fun ⟨a, b⟩ hx => ?_)
    obtain ⟨h1, h2⟩ := (hm a b).1 hx
    obtain ⟨r, hr, h3⟩ := (h.mem a b).1 h2
    obtain ⟨h4, h5⟩ := h1 r (hp.mem_iff.2 hr)
    rcases h3 with ⟨h3, _⟩ | ⟨h3, _⟩
    · exact h5 h3
    · exact h4 h3
  rw [this]; rfl
end Go.Proofs.YthkobnpogigkiaaDoor
/- Ways to rows: what kept computes; PlanAll answers true. Conditions: how much there is of what comes in. -/
namespace Go.Proofs.YthkobnpogigkiaaDoor
open Go.Abs
attribute [local irreducible] L Code.wp bodyPost Exit.then Exit.inBlock
set_option linter.unusedVariables false
set_option linter.unusedSimpArgs false
theorem named_len {s : Str} (h : namedM s = true) : s.length ≤ 8 := by
  simp only [namedM, Bool.and_eq_true, decide_eq_true_eq] at h; exact h.2.2.1
theorem goodTab_iff {t : Tab} (h : goodTabM t = true) : t.n.length ≤ 8 ∧ 1 ≤ t.cols.length ∧ t.cols.length ≤ 4 := by
  simp only [goodTabM, Bool.and_eq_true, decide_eq_true_eq] at h
  exact ⟨named_len h.2.1, h.2.2.1, h.2.2.2.1⟩
theorem goodCat_tab {c : Cat} (h : goodCatM c = true) {t : Tab} (ht : t ∈ c.ts) : goodTabM t = true := by
  simp only [goodCatM, Bool.and_eq_true] at h
  obtain ⟨i, hi, rfl⟩ := List.mem_iff_getElem.1 ht
  have h1 := List.all_eq_true.1 h.1 (c.ts[i], i) (List.mem_zipIdx_iff_getElem?.2 (by simp))
  simp only [tabOk, Bool.not_eq_true', Bool.or_eq_false_iff, Bool.not_eq_false'] at h1
  exact h1.1
theorem goodCat_is {c : Cat} (h : goodCatM c = true) : c.is.length ≤ 4 ∧ ∀ x ∈ c.is, x.n.length ≤ 8 := by
  simp only [goodCatM, Bool.and_eq_true, decide_eq_true_eq] at h
  refine ⟨by have := h.2.2.2; omega, fun x hx => ?_⟩
  obtain ⟨i, hi, rfl⟩ := List.mem_iff_getElem.1 hx
  have h1 := List.all_eq_true.1 h.2.1 (c.is[i], i) (List.mem_zipIdx_iff_getElem?.2 (by simp))
  simp only [idxOk, Bool.not_eq_true', Bool.or_eq_false_iff, Bool.not_eq_false'] at h1
  exact named_len h1.1.1.1
theorem findT_mem {c : Cat} {name : Str} (h : (findT c name).2 = true) : (findT c name).1 ∈ c.ts ∧ (findT c name).1.n = name := by
  unfold findT at h ⊢
  cases hf : c.ts.find? (fun t => t.n == name) with
  | none => rw [hf] at h; cases h
  | some t => exact ⟨List.mem_of_find?_eq_some hf, by simpa using List.find?_some hf⟩
theorem holds_small {c : Cat} {t : Tab} {ps : List Pg} {own : List (List Val)} (h : Holds c t ps own) (h1 : t.n.length ≤ 8) (h2 : t.cols.length ≤ 4) (h3 : ∀ x ∈ c.is, x.n.length ≤ 8) : SmallT ps := by
  rintro ⟨a, b⟩ hx
  obtain ⟨r, hr, hc⟩ := (h.mem a b).1 hx
  have hf := h.fit r hr
  rcases hc with ⟨rfl, rfl⟩ | ⟨ha, rfl⟩
  · have e1 := keyS_len [r.getD 0 nilV]
    have e2 := keyS_len r
    have e3 : (rowK t r).length = t.n.length + 2 + (keyS [r.getD 0 nilV]).length := by simp [rowK, rowKeyM, rowsK]; omega
    simp only [List.length_singleton] at e1
    exact ⟨by rw [e3]; omega, by show (keyS r).length ≤ _; omega⟩
  · obtain ⟨x, hxm, rfl⟩ := List.mem_map.1 ha
    have hxl := h3 x (List.mem_filter.1 hxm).1
    have e1 := keyS_len [r.getD (colM t x.co).toNat nilV, r.getD 0 nilV]
    have e3 : (ixKey t r x).length = x.n.length + 2 + (keyS [r.getD (colM t x.co).toNat nilV, r.getD 0 nilV]).length := by simp [ixKey, indexKeyM, entriesK]; omega
    simp only [List.length_cons, List.length_nil] at e1
    exact ⟨by rw [e3]; omega, by simp⟩
def tT : Tab := ⟨[116], [⟨[97], 1, true⟩]⟩
def vT : Val := ⟨1, 3, []⟩
theorem put_eT : putT [] ⟨[tT], []⟩ tT [vT] = [⟨[rowKeyM [116] vT], [keyS [vT]]⟩] := by simp [putT, tT, putM, goodTree, goodT]
theorem rows_eT : rowsT [⟨[rowKeyM [116] vT], [keyS [vT]]⟩] tT (allW [116]) = [[vT]] := by
  have hH : Holds ⟨[tT], []⟩ tT (putT [] ⟨[tT], []⟩ tT [vT]) ([] ++ [[vT]]) := (Holds.nil _ _).put (by decide) ⟨rfl, rfl⟩ rfl
  have h := (rows_all hH).1
  rw [put_eT] at h
  exact List.perm_singleton.1 h
set_option maxRecDepth 100000 in
set_option maxHeartbeats 4000000 in
theorem plans_any : CallA Tryd.prog 17 [] [] [] [] (aB true) := by
  have k1 := putT_any [] ⟨[tT], []⟩ tT [vT] (by decide) (by decide) (by decide) (by decide) (by decide) (by simp)
  rw [put_eT] at k1
  have k2 := allW_any [116] (by decide)
  have k3 := rowsT_any [⟨[rowKeyM [116] vT], [keyS [vT]]⟩] tT (allW [116]) (by decide) (by
    have hH : Holds ⟨[tT], []⟩ tT (putT [] ⟨[tT], []⟩ tT [vT]) ([] ++ [[vT]]) := (Holds.nil _ _).put (by decide) ⟨rfl, rfl⟩ rfl
    rw [put_eT] at hH
    exact holds_small hH (by decide) (by decide) (by simp)) (by decide) (by decide)
  rw [rows_eT] at k3
  have g1 : ([[vT]].map rowC)[(0 : Int).toNat]? = some [.sl [vT.c]] := rfl
  have g2 : [vT.c][(0 : Int).toNat]? = some [I 1, I 3, S []] := rfl
  generalize ([⟨[rowKeyM [116] vT], [keyS [vT]]⟩] : List Pg) = q at *
  generalize hw : allW [116] = w at *
  refine CallA.intro _ Tryd.func17 rfl Tryd.ntmps17 rfl (fun w0 E0 => ?_)
  (repeat' (first | (refine LW.is ?_; first | ((apply s_call0; exact rfl; exact k1; exact rfl; exact rfl)) | ((apply s_indexA; exact rfl; exact rfl; exact rfl; decide; (first | exact g1 | exact g2); exact rfl)) | (refine s_nil ?_) | (apply s_mvIv; exact rfl; exact rfl) | (apply s_asIv; exact rfl; exact rfl) | (apply s_fieldE; exact rfl; exact rfl; exact rfl) | (apply s_loadAP; exact rfl; exact rfl; exact rfl; (focus repeat' (first | exact nl_nil rfl | (apply nl_cons; exact rfl) | exact nIm rfl | exact nSl rfl | exact nIv rfl | exact nRow rfl | exact nNil rfl | exact nPtr rfl | exact nBsh rfl | exact nBsl rfl | exact nAny rfl | exact nIIm rfl | exact nISl rfl | exact rfl)); exact rfl) | (apply s_load1E; exact rfl; exact rfl; exact rfl) | (apply s_lenSl; exact rfl; exact rfl) | (apply s_eqlI; exact rfl; exact rfl; exact rfl) | (apply s_alloc; exact rfl; exact rfl; (focus repeat' (first | exact nl_nil rfl | (apply nl_cons; exact rfl) | exact nIm rfl | exact nSl rfl | exact nIv rfl | exact nRow rfl | exact nNil rfl | exact nPtr rfl | exact nBsh rfl | exact nBsl rfl | exact nAny rfl | exact nIIm rfl | exact nISl rfl | exact rfl)); exact rfl; exact rfl) | (apply s_build; exact rfl; exact rfl; (apply n_some; exact rfl; (focus repeat' (first | exact nl_nil rfl | (apply nl_cons; exact rfl) | exact nIm rfl | exact nSl rfl | exact nIv rfl | exact nRow rfl | exact nNil rfl | exact nPtr rfl | exact nBsh rfl | exact nBsl rfl | exact nAny rfl | exact nIIm rfl | exact nISl rfl | exact rfl)))) | (apply s_bslice; exact rfl; exact rfl; exact rfl; exact rfl; exact rfl; (apply n_some; exact rfl; (focus repeat' (first | exact nl_nil rfl | (apply nl_cons; exact rfl) | exact nIm rfl | exact nSl rfl | exact nIv rfl | exact nRow rfl | exact nNil rfl | exact nPtr rfl | exact nBsh rfl | exact nBsl rfl | exact nAny rfl | exact nIIm rfl | exact nISl rfl | exact rfl))); (apply n_some; exact rfl; (focus repeat' (first | exact nl_nil rfl | (apply nl_cons; exact rfl) | exact nIm rfl | exact nSl rfl | exact nIv rfl | exact nRow rfl | exact nNil rfl | exact nPtr rfl | exact nBsh rfl | exact nBsl rfl | exact nAny rfl | exact nIIm rfl | exact nISl rfl | exact rfl))); exact rfl; (focus repeat' (first | exact nl_nil rfl | (apply nl_cons; exact rfl) | exact nIm rfl | exact nSl rfl | exact nIv rfl | exact nRow rfl | exact nNil rfl | exact nPtr rfl | exact nBsh rfl | exact nBsl rfl | exact nAny rfl | exact nIIm rfl | exact nISl rfl | exact rfl)); exact rfl) | (apply s_store; exact rfl; exact rfl; exact rfl; exact rfl; exact rfl; exact rfl; (focus repeat' (first | exact nl_nil rfl | (apply nl_cons; exact rfl) | exact nIm rfl | exact nSl rfl | exact nIv rfl | exact nRow rfl | exact nNil rfl | exact nPtr rfl | exact nBsh rfl | exact nBsl rfl | exact nAny rfl | exact nIIm rfl | exact nISl rfl | exact rfl))) | (apply s_gdo; exact rfl; exact rfl; (first | exact rfl | assumption)) | (apply s_pickTIv; exact rfl; exact rfl; (first | exact rfl | assumption); exact rfl)) | (refine DR.is ?_; first | ((apply d_call0; exact rfl; exact k2; exact rfl; exact rfl)) | ((apply d_call0; exact rfl; exact k3; exact rfl; exact rfl)) | (apply d_nil; kernel_rfl) | (apply d_asIv; exact rfl; exact rfl) | (apply d_loadAP; exact rfl; exact rfl; exact rfl; (focus repeat' (first | exact nl_nil rfl | (apply nl_cons; exact rfl) | exact nIm rfl | exact nSl rfl | exact nIv rfl | exact nRow rfl | exact nNil rfl | exact nPtr rfl | exact nBsh rfl | exact nBsl rfl | exact nAny rfl | exact nIIm rfl | exact nISl rfl | exact rfl)); exact rfl)) | (refine c_seq ?_) | (refine s_region ?_) | (refine d_region ?_) | (refine L.thenN ?_) | (refine L.ret ?_)))
  all_goals (first | (apply L.ends1; exact rfl; exact rfl; exact rfl) | (apply L.ends2; exact rfl; exact rfl; exact rfl) | (apply L.ends3; exact rfl; exact rfl; exact rfl) | (apply L.ends1A; exact rfl; exact rfl; exact rfl) | (apply L.ends2A; exact rfl; exact rfl; exact rfl))
  all_goals rfl
def keptStep (c : Cat) (t : Tab) (s : List Pg × List (List Val)) (row : List Val) : List Pg × List (List Val) :=
  if decide ((s.2.length : Int) < 20) && (fitsM t row && !(getM s.1 (rowKeyM t.n (firstV row))).2) then (putT s.1 c t row, s.2 ++ [row]) else s
def keptM (c : Cat) (t : Tab) (rows : List (List Val)) : List Pg × List (List Val) := rows.foldl (keptStep c t) ([], [])
theorem first_getD (row : List Val) : firstV row = row.getD 0 nilV := by cases row <;> rfl
structure Kept (c : Cat) (t : Tab) (s : List Pg × List (List Val)) : Prop where
  h : Holds c t s.1 s.2
  n : s.2.length ≤ 20
  l : s.1.length ≤ s.2.length * (c.is.length + 1)
theorem Kept.step {c : Cat} {t : Tab} (h0 : t.cols.length ≠ 0) {s : List Pg × List (List Val)} (h : Kept c t s) (row : List Val) : Kept c t (keptStep c t s row) := by
  unfold keptStep
  split
  · rename_i hc
    simp only [Bool.and_eq_true, decide_eq_true_eq, Bool.not_eq_true'] at hc
    refine ⟨h.h.put h0 (fits_good hc.2.1) (by rw [rowK, ← first_getD]; exact hc.2.2), by have := hc.1; simp only [List.length_append, List.length_singleton]; omega, ?_⟩
    have h1 := putT_len s.1 c t row
    have h2 := h.l
    simp only [List.length_append, List.length_singleton, Nat.add_mul, Nat.one_mul]; omega
  · exact h
theorem kept_ok {c : Cat} {t : Tab} (h0 : t.cols.length ≠ 0) : ∀ (rows : List (List Val)) {s : List Pg × List (List Val)}, Kept c t s → Kept c t (rows.foldl (keptStep c t) s)
  | [], s, h => h
  | r :: rows, s, h => kept_ok h0 rows (h.step h0 r)
set_option maxRecDepth 100000 in
set_option maxHeartbeats 8000000 in
theorem kept_any (c : Cat) (t : Tab) (rows : List (List Val)) (ht1 : t.n.length ≤ 8) (ht2 : t.cols.length ≤ 4) (ht0 : t.cols.length ≠ 0) (hi1 : c.is.length ≤ 4) (hi2 : ∀ x ∈ c.is, x.n.length ≤ 8) (hr : rows.length ≤ 140737488355328) (hrl : ∀ r ∈ rows, r.length ≤ 140737488355328) :
    CallA Tryd.prog 18 [.agg (c.c.map .iv), .agg (t.c.map .iv), .iv (.sl (rows.map rowC))] [] [] [] (.tup [.agg [.iv (.sl ((keptM c t rows).1.map Pg.c))], .iv (.sl ((keptM c t rows).2.map rowC))]) := by
  refine CallA.intro _ Tryd.func18 rfl Tryd.ntmps18 rfl (fun w0 E0 => ?_)
  unfold keptM
  (repeat' (first | (refine LW.is ?_; first | (refine s_nil ?_) | (apply s_mvIv; exact rfl; exact rfl) | (apply s_asNil; exact rfl; exact rfl) | (apply s_lenSl; exact rfl; exact rfl) | (apply s_box; exact rfl; exact rfl; exact rfl; (focus repeat' (first | exact nl_nil rfl | (apply nl_cons; exact rfl) | exact nIm rfl | exact nSl rfl | exact nIv rfl | exact nRow rfl | exact nNil rfl | exact nPtr rfl | exact nBsh rfl | exact nBsl rfl | exact nAny rfl | exact nIIm rfl | exact nISl rfl | exact rfl)); exact rfl; exact rfl) | (apply s_alloc; exact rfl; exact rfl; (focus repeat' (first | exact nl_nil rfl | (apply nl_cons; exact rfl) | exact nIm rfl | exact nSl rfl | exact nIv rfl | exact nRow rfl | exact nNil rfl | exact nPtr rfl | exact nBsh rfl | exact nBsl rfl | exact nAny rfl | exact nIIm rfl | exact nISl rfl | exact rfl)); exact rfl; exact rfl)) | (refine c_seq ?_) | (refine L.block ?_) | (refine s_region ?_) | (refine L.thenN ?_)))
  refine L.adopt 9 (s := 9) (t := 37) (k := 1) rfl rfl rfl ?_
  refine L.loopP (ι := Nat) (fun i => ⟨[(16, aI (i : Int)), (15, aI ((rows.map rowC).length : Int)), (14, .iv (.sl (rows.map rowC))), (9, .row 9 (((rows.take i).foldl (keptStep c t) ([], [])).2.map rowC)), (3, .ptr 3 0), (4, .ptr 4 0), (6, .ptr 6 0), (8, .ptr 8 0)],
      [(3, ⟨25, .l [.iv (.sl (c.ts.map Tab.c)), .iv (.sl (c.is.map Idx.c))]⟩), (4, ⟨43, .l [aS t.n, .iv (.sl (t.cols.map Col.c))]⟩), (6, ⟨61, .l [.nils]⟩), (8, ⟨61, .l [.iv (.sl (((rows.take i).foldl (keptStep c t) ([], [])).1.map Pg.c))]⟩)], [(9, ⟨37, 1⟩)]⟩) (fun i => rows.length - i) (fun i => True) (i0 := 0) ?_ trivial ?_
  · refine Wk.mk' (by intro id h; cases h) ?_ (.cons rfl rfl (Subs.refl _) (.cons rfl rfl (Subs.refl _) (.cons rfl rfl (Subs.refl _) (.cons rfl rfl (.cons (Sub.nils) .nil) .nil)))) (.cons rfl .nil) <;> repeat' (first | exact WkF.nil | (refine WkF.cons rfl (Sub.refl _) ?_))
  intro i _ K hK
  have hkp : Kept c t ((rows.take i).foldl (keptStep c t) ([], [])) := kept_ok ht0 _ ⟨Holds.nil c t, by simp, by simp⟩
  cases hx : rows[i]? with
  | none =>
    have hlt := ltF (l := rows.map rowC) (getFN hx)
    rw [take_all hx]
    (repeat' (first | (refine LW.is ?_; first | (refine s_nil ?_) | (apply s_mvRow; exact rfl; exact rfl) | (apply s_asRow; exact rfl; exact rfl) | (apply s_loadAP; exact rfl; exact rfl; exact rfl; (focus repeat' (first | exact nl_nil rfl | (apply nl_cons; exact rfl) | exact nIm rfl | exact nSl rfl | exact nIv rfl | exact nRow rfl | exact nNil rfl | exact nPtr rfl | exact nBsh rfl | exact nBsl rfl | exact nAny rfl | exact nIIm rfl | exact nISl rfl | exact rfl)); exact rfl) | (apply s_lssI; exact rfl; exact rfl; exact rfl) | (apply s_store; exact rfl; exact rfl; exact rfl; exact rfl; exact rfl; exact rfl; (focus repeat' (first | exact nl_nil rfl | (apply nl_cons; exact rfl) | exact nIm rfl | exact nSl rfl | exact nIv rfl | exact nRow rfl | exact nNil rfl | exact nPtr rfl | exact nBsh rfl | exact nBsl rfl | exact nAny rfl | exact nIIm rfl | exact nISl rfl | exact rfl)))) | (refine c_seq ?_) | (refine s_region ?_) | (refine L.thenN ?_) | (refine L.thenE ?_) | (refine L.inE ?_) | (refine L.ret ?_) | (refine L.exit ?_) | (apply c_condF; exact rfl; (first | exact rfl | assumption))))
    all_goals (first | (apply L.ends1; exact rfl; exact rfl; exact rfl) | (apply L.ends2; exact rfl; exact rfl; exact rfl) | (apply L.ends3; exact rfl; exact rfl; exact rfl) | (apply L.ends1A; exact rfl; exact rfl; exact rfl) | (apply L.ends2A; exact rfl; exact rfl; exact rfl))
    all_goals rfl
  | some row =>
    have hlt := ltT (l := rows.map rowC) (getF (f := rowC) hx)
    have hlt' := ltN hx
    have g1 : (rows.map rowC)[((i : Nat) : Int).toNat]? = some [.sl (row.map Val.c)] := by rw [Int.toNat_natCast, List.getElem?_map, hx]; rfl
    have hst := foldl_step (keptStep c t) ([], []) hx
    have hrw := hrl row (List.mem_of_getElem? hx)
    generalize (rows.take i).foldl (keptStep c t) ([], []) = s at *
    obtain ⟨ps, own⟩ := s
    obtain ⟨hH, hn20, hpl⟩ := hkp
    dsimp only at hH hn20 hpl
    have hpl2 : ps.length ≤ 100 := Nat.le_trans hpl (Nat.le_trans (Nat.mul_le_mul hn20 (Nat.add_le_add_right hi1 1)) (by decide))
    have k1 := first_any row hrw
    have k2 := rowKey_any t.n (firstV row) (by omega)
    have k3 := get_any ps (rowKeyM t.n (firstV row)) (by omega)
    have k4 := fits_any t row (by omega)
    have eo : ((own.map rowC).length : Int) = (own.length : Int) := by simp
    rw [keptStep] at hst
    dsimp only at hst
    cases h1 : decide (((own.map rowC).length : Int) < 20) with
    | false =>
      rw [← eo, h1] at hst
      simp only [Bool.false_and, Bool.false_eq_true, if_false] at hst
      (repeat' (first | (refine LW.is ?_; first | ((apply s_indexA; exact rfl; exact rfl; exact rfl; omega; exact g1; exact rfl)) | (refine s_nil ?_) | (apply s_mvIv; exact rfl; exact rfl) | (apply s_mvRow; exact rfl; exact rfl) | (apply s_asIv; exact rfl; exact rfl) | (apply s_load1E; exact rfl; exact rfl; exact rfl) | (apply s_lenSl; exact rfl; exact rfl) | (apply s_lssI; exact rfl; exact rfl; exact rfl) | (apply s_addI; exact rfl; exact rfl; exact rfl; (first | omega | decide | (dsimp only; omega)); (first | omega | decide | (dsimp only; omega))) | (apply s_gskipT; exact rfl; exact rfl; exact rfl; (first | exact rfl | assumption)) | (apply s_pickFIv; exact rfl; exact rfl; (first | exact rfl | assumption); exact rfl)) | (refine DR.is ?_; first | ((apply d_call0; exact rfl; exact k1; exact rfl; exact rfl)) | ((apply d_call0; exact rfl; exact k2; exact rfl; exact rfl)) | ((apply d_call0; exact rfl; exact k3; exact rfl; exact rfl)) | (apply d_nil; kernel_rfl) | (apply d_mvIv; exact rfl; exact rfl) | (apply d_mvTup; exact rfl; exact rfl) | (apply d_asIv; exact rfl; exact rfl) | (apply d_fieldP; exact rfl; exact rfl; exact rfl) | (apply d_load1P; exact rfl; exact rfl; exact rfl; (apply n_some; exact rfl; (first | exact nIm rfl | exact nSl rfl | exact nIv rfl | exact nRow rfl | exact nNil rfl | exact nPtr rfl | exact nBsh rfl | exact nBsl rfl | exact nAny rfl | exact rfl))) | (apply d_loadAP; exact rfl; exact rfl; exact rfl; (focus repeat' (first | exact nl_nil rfl | (apply nl_cons; exact rfl) | exact nIm rfl | exact nSl rfl | exact nIv rfl | exact nRow rfl | exact nNil rfl | exact nPtr rfl | exact nBsh rfl | exact nBsl rfl | exact nAny rfl | exact nIIm rfl | exact nISl rfl | exact rfl)); exact rfl) | (apply d_extract; exact rfl; exact rfl; (apply n_some; exact rfl; (first | exact nIm rfl | exact nSl rfl | exact nIv rfl | exact nRow rfl | exact nNil rfl | exact nPtr rfl | exact nBsh rfl | exact nBsl rfl | exact nAny rfl | exact rfl)))) | (refine c_seq ?_) | (refine L.block ?_) | (refine s_region ?_) | (refine d_region ?_) | (refine L.thenN ?_) | (refine L.inN ?_) | (refine L.skip ?_) | (apply c_condT; exact rfl; (first | exact rfl | assumption)) | (apply c_condF; exact rfl; (first | exact rfl | assumption))))
      refine hK _ (i + 1) trivial (by omega) ?_
      rw [hst]
      (refine Wk.mk' (by intro id h; cases h) ?_ ?_ ?_ <;> repeat' (first | exact WkF.nil | exact WkB.nil | exact WkT.nil | (refine WkF.cons rfl (Sub.refl _) ?_) | (refine WkB.cons rfl rfl (Subs.refl _) ?_) | (refine WkT.cons rfl ?_)))
    | true =>
      rw [← eo, h1] at hst
      cases h2 : fitsM t row with
      | false =>
        rw [h2] at hst k4
        simp only [Bool.false_and, Bool.and_false, Bool.false_eq_true, if_false] at hst
        (repeat' (first | (refine LW.is ?_; first | ((apply s_indexA; exact rfl; exact rfl; exact rfl; omega; exact g1; exact rfl)) | ((apply s_call0; exact rfl; exact k4; exact rfl; exact rfl)) | (refine s_nil ?_) | (apply s_mvIv; exact rfl; exact rfl) | (apply s_mvRow; exact rfl; exact rfl) | (apply s_asIv; exact rfl; exact rfl) | (apply s_loadAP; exact rfl; exact rfl; exact rfl; (focus repeat' (first | exact nl_nil rfl | (apply nl_cons; exact rfl) | exact nIm rfl | exact nSl rfl | exact nIv rfl | exact nRow rfl | exact nNil rfl | exact nPtr rfl | exact nBsh rfl | exact nBsl rfl | exact nAny rfl | exact nIIm rfl | exact nISl rfl | exact rfl)); exact rfl) | (apply s_load1E; exact rfl; exact rfl; exact rfl) | (apply s_lenSl; exact rfl; exact rfl) | (apply s_lssI; exact rfl; exact rfl; exact rfl) | (apply s_addI; exact rfl; exact rfl; exact rfl; (first | omega | decide | (dsimp only; omega)); (first | omega | decide | (dsimp only; omega))) | (apply s_gdo; exact rfl; exact rfl; (first | exact rfl | assumption)) | (apply s_gskipT; exact rfl; exact rfl; exact rfl; (first | exact rfl | assumption)) | (apply s_pickTIv; exact rfl; exact rfl; (first | exact rfl | assumption); exact rfl) | (apply s_pickFIv; exact rfl; exact rfl; (first | exact rfl | assumption); exact rfl)) | (refine DR.is ?_; first | ((apply d_call0; exact rfl; exact k1; exact rfl; exact rfl)) | ((apply d_call0; exact rfl; exact k2; exact rfl; exact rfl)) | ((apply d_call0; exact rfl; exact k3; exact rfl; exact rfl)) | (apply d_nil; kernel_rfl) | (apply d_mvIv; exact rfl; exact rfl) | (apply d_mvTup; exact rfl; exact rfl) | (apply d_asIv; exact rfl; exact rfl) | (apply d_fieldP; exact rfl; exact rfl; exact rfl) | (apply d_load1P; exact rfl; exact rfl; exact rfl; (apply n_some; exact rfl; (first | exact nIm rfl | exact nSl rfl | exact nIv rfl | exact nRow rfl | exact nNil rfl | exact nPtr rfl | exact nBsh rfl | exact nBsl rfl | exact nAny rfl | exact rfl))) | (apply d_loadAP; exact rfl; exact rfl; exact rfl; (focus repeat' (first | exact nl_nil rfl | (apply nl_cons; exact rfl) | exact nIm rfl | exact nSl rfl | exact nIv rfl | exact nRow rfl | exact nNil rfl | exact nPtr rfl | exact nBsh rfl | exact nBsl rfl | exact nAny rfl | exact nIIm rfl | exact nISl rfl | exact rfl)); exact rfl) | (apply d_extract; exact rfl; exact rfl; (apply n_some; exact rfl; (first | exact nIm rfl | exact nSl rfl | exact nIv rfl | exact nRow rfl | exact nNil rfl | exact nPtr rfl | exact nBsh rfl | exact nBsl rfl | exact nAny rfl | exact rfl)))) | (refine c_seq ?_) | (refine L.block ?_) | (refine s_region ?_) | (refine d_region ?_) | (refine L.thenN ?_) | (refine L.inN ?_) | (refine L.skip ?_) | (apply c_condT; exact rfl; (first | exact rfl | assumption)) | (apply c_condF; exact rfl; (first | exact rfl | assumption))))
        refine hK _ (i + 1) trivial (by omega) ?_
        rw [hst]
        (refine Wk.mk' (by intro id h; cases h) ?_ ?_ ?_ <;> repeat' (first | exact WkF.nil | exact WkB.nil | exact WkT.nil | (refine WkF.cons rfl (Sub.refl _) ?_) | (refine WkB.cons rfl rfl (Subs.refl _) ?_) | (refine WkT.cons rfl ?_)))
      | true =>
        rw [h2] at hst k4
        cases h3 : (getM ps (rowKeyM t.n (firstV row))).2 with
        | true =>
          rw [h3] at hst k3
          simp only [Bool.not_true, Bool.and_false, Bool.false_eq_true, if_false] at hst
          (repeat' (first | (refine LW.is ?_; first | ((apply s_indexA; exact rfl; exact rfl; exact rfl; omega; exact g1; exact rfl)) | ((apply s_call0; exact rfl; exact k4; exact rfl; exact rfl)) | (refine s_nil ?_) | (apply s_mvIv; exact rfl; exact rfl) | (apply s_mvRow; exact rfl; exact rfl) | (apply s_asIv; exact rfl; exact rfl) | (apply s_loadAP; exact rfl; exact rfl; exact rfl; (focus repeat' (first | exact nl_nil rfl | (apply nl_cons; exact rfl) | exact nIm rfl | exact nSl rfl | exact nIv rfl | exact nRow rfl | exact nNil rfl | exact nPtr rfl | exact nBsh rfl | exact nBsl rfl | exact nAny rfl | exact nIIm rfl | exact nISl rfl | exact rfl)); exact rfl) | (apply s_load1E; exact rfl; exact rfl; exact rfl) | (apply s_lenSl; exact rfl; exact rfl) | (apply s_lssI; exact rfl; exact rfl; exact rfl) | (apply s_not; exact rfl; exact rfl) | (apply s_addI; exact rfl; exact rfl; exact rfl; (first | omega | decide | (dsimp only; omega)); (first | omega | decide | (dsimp only; omega))) | (apply s_gdo; exact rfl; exact rfl; (first | exact rfl | assumption)) | (apply s_pickTIv; exact rfl; exact rfl; (first | exact rfl | assumption); exact rfl)) | (refine DR.is ?_; first | ((apply d_call0; exact rfl; exact k1; exact rfl; exact rfl)) | ((apply d_call0; exact rfl; exact k2; exact rfl; exact rfl)) | ((apply d_call0; exact rfl; exact k3; exact rfl; exact rfl)) | (apply d_nil; kernel_rfl) | (apply d_mvIv; exact rfl; exact rfl) | (apply d_mvTup; exact rfl; exact rfl) | (apply d_asIv; exact rfl; exact rfl) | (apply d_fieldP; exact rfl; exact rfl; exact rfl) | (apply d_load1P; exact rfl; exact rfl; exact rfl; (apply n_some; exact rfl; (first | exact nIm rfl | exact nSl rfl | exact nIv rfl | exact nRow rfl | exact nNil rfl | exact nPtr rfl | exact nBsh rfl | exact nBsl rfl | exact nAny rfl | exact rfl))) | (apply d_loadAP; exact rfl; exact rfl; exact rfl; (focus repeat' (first | exact nl_nil rfl | (apply nl_cons; exact rfl) | exact nIm rfl | exact nSl rfl | exact nIv rfl | exact nRow rfl | exact nNil rfl | exact nPtr rfl | exact nBsh rfl | exact nBsl rfl | exact nAny rfl | exact nIIm rfl | exact nISl rfl | exact rfl)); exact rfl) | (apply d_extract; exact rfl; exact rfl; (apply n_some; exact rfl; (first | exact nIm rfl | exact nSl rfl | exact nIv rfl | exact nRow rfl | exact nNil rfl | exact nPtr rfl | exact nBsh rfl | exact nBsl rfl | exact nAny rfl | exact rfl)))) | (refine c_seq ?_) | (refine L.block ?_) | (refine s_region ?_) | (refine d_region ?_) | (refine L.thenN ?_) | (refine L.inN ?_) | (refine L.skip ?_) | (apply c_condT; exact rfl; (first | exact rfl | assumption)) | (apply c_condF; exact rfl; (first | exact rfl | assumption))))
          refine hK _ (i + 1) trivial (by omega) ?_
          rw [hst]
          (refine Wk.mk' (by intro id h; cases h) ?_ ?_ ?_ <;> repeat' (first | exact WkF.nil | exact WkB.nil | exact WkT.nil | (refine WkF.cons rfl (Sub.refl _) ?_) | (refine WkB.cons rfl rfl (Subs.refl _) ?_) | (refine WkT.cons rfl ?_)))
        | false =>
          rw [h3] at hst k3
          simp only [Bool.not_false, Bool.and_true, if_true] at hst
          have hfr := (fits_good h2).1
          have k5 := putT_any ps c t row (by omega) (by omega) (by omega) (by omega) (by omega) (fun x hx => by have := hi2 x hx; omega)
          have hd := of_decide_eq_true h1
          have bm : (own.map rowC).length + 1 ≤ maxLen := by rw [maxL]; omega
          have bb : ((own.map rowC).length + 1) * 24 ≤ 225000000000000 := by omega
          (repeat' (first | (refine LW.is ?_; first | ((apply s_append; exact rfl; exact rfl; exact rfl; exact rfl; (focus repeat' (first | exact len_nil | apply len_app | (refine len_map (fun x => rfl)) | (refine len_cons rfl ?_) | exact len_chunks rfl | assumption)); (focus repeat' (first | exact len_nil | apply len_app | (refine len_map (fun x => rfl)) | (refine len_cons rfl ?_) | exact len_chunks rfl | assumption)); exact bm; exact bb; exact rfl; exact rfl)) | ((apply s_indexA; exact rfl; exact rfl; exact rfl; omega; exact g1; exact rfl)) | ((apply s_call0; exact rfl; exact k4; exact rfl; exact rfl)) | ((apply s_call0; exact rfl; exact k5; exact rfl; exact rfl)) | (refine s_nil ?_) | (apply s_mvIv; exact rfl; exact rfl) | (apply s_mvRow; exact rfl; exact rfl) | (apply s_asIv; exact rfl; exact rfl) | (apply s_asRow; exact rfl; exact rfl) | (apply s_loadAP; exact rfl; exact rfl; exact rfl; (focus repeat' (first | exact nl_nil rfl | (apply nl_cons; exact rfl) | exact nIm rfl | exact nSl rfl | exact nIv rfl | exact nRow rfl | exact nNil rfl | exact nPtr rfl | exact nBsh rfl | exact nBsl rfl | exact nAny rfl | exact nIIm rfl | exact nISl rfl | exact rfl)); exact rfl) | (apply s_load1E; exact rfl; exact rfl; exact rfl) | (apply s_lenSl; exact rfl; exact rfl) | (apply s_lssI; exact rfl; exact rfl; exact rfl) | (apply s_not; exact rfl; exact rfl) | (apply s_bslice; exact rfl; exact rfl; exact rfl; exact rfl; exact rfl; (apply n_some; exact rfl; (focus repeat' (first | exact nl_nil rfl | (apply nl_cons; exact rfl) | exact nIm rfl | exact nSl rfl | exact nIv rfl | exact nRow rfl | exact nNil rfl | exact nPtr rfl | exact nBsh rfl | exact nBsl rfl | exact nAny rfl | exact nIIm rfl | exact nISl rfl | exact rfl))); (apply n_some; exact rfl; (focus repeat' (first | exact nl_nil rfl | (apply nl_cons; exact rfl) | exact nIm rfl | exact nSl rfl | exact nIv rfl | exact nRow rfl | exact nNil rfl | exact nPtr rfl | exact nBsh rfl | exact nBsl rfl | exact nAny rfl | exact nIIm rfl | exact nISl rfl | exact rfl))); exact rfl; (focus repeat' (first | exact nl_nil rfl | (apply nl_cons; exact rfl) | exact nIm rfl | exact nSl rfl | exact nIv rfl | exact nRow rfl | exact nNil rfl | exact nPtr rfl | exact nBsh rfl | exact nBsl rfl | exact nAny rfl | exact nIIm rfl | exact nISl rfl | exact rfl)); exact rfl) | (apply s_store; exact rfl; exact rfl; exact rfl; exact rfl; exact rfl; exact rfl; (focus repeat' (first | exact nl_nil rfl | (apply nl_cons; exact rfl) | exact nIm rfl | exact nSl rfl | exact nIv rfl | exact nRow rfl | exact nNil rfl | exact nPtr rfl | exact nBsh rfl | exact nBsl rfl | exact nAny rfl | exact nIIm rfl | exact nISl rfl | exact rfl))) | (apply s_addI; exact rfl; exact rfl; exact rfl; (first | omega | decide | (dsimp only; omega)); (first | omega | decide | (dsimp only; omega))) | (apply s_gdo; exact rfl; exact rfl; (first | exact rfl | assumption)) | (apply s_pickTIv; exact rfl; exact rfl; (first | exact rfl | assumption); exact rfl)) | (refine DR.is ?_; first | ((apply d_call0; exact rfl; exact k1; exact rfl; exact rfl)) | ((apply d_call0; exact rfl; exact k2; exact rfl; exact rfl)) | ((apply d_call0; exact rfl; exact k3; exact rfl; exact rfl)) | (apply d_nil; kernel_rfl) | (apply d_mvIv; exact rfl; exact rfl) | (apply d_mvTup; exact rfl; exact rfl) | (apply d_asIv; exact rfl; exact rfl) | (apply d_fieldP; exact rfl; exact rfl; exact rfl) | (apply d_load1P; exact rfl; exact rfl; exact rfl; (apply n_some; exact rfl; (first | exact nIm rfl | exact nSl rfl | exact nIv rfl | exact nRow rfl | exact nNil rfl | exact nPtr rfl | exact nBsh rfl | exact nBsl rfl | exact nAny rfl | exact rfl))) | (apply d_loadAP; exact rfl; exact rfl; exact rfl; (focus repeat' (first | exact nl_nil rfl | (apply nl_cons; exact rfl) | exact nIm rfl | exact nSl rfl | exact nIv rfl | exact nRow rfl | exact nNil rfl | exact nPtr rfl | exact nBsh rfl | exact nBsl rfl | exact nAny rfl | exact nIIm rfl | exact nISl rfl | exact rfl)); exact rfl) | (apply d_extract; exact rfl; exact rfl; (apply n_some; exact rfl; (first | exact nIm rfl | exact nSl rfl | exact nIv rfl | exact nRow rfl | exact nNil rfl | exact nPtr rfl | exact nBsh rfl | exact nBsl rfl | exact nAny rfl | exact rfl)))) | (refine c_seq ?_) | (refine L.block ?_) | (refine s_region ?_) | (refine d_region ?_) | (refine L.thenN ?_) | (refine L.inN ?_) | (refine L.skip ?_) | (apply c_condT; exact rfl; (first | exact rfl | assumption))))
          refine L.onlyS [16, 15, 14, 9, 3, 4, 6, 8] [3, 4, 6, 8] rfl ?_
          refine L.retok 9 50 9 rfl rfl rfl rfl ?_
          refine hK _ (i + 1) trivial (by omega) ?_
          rw [hst]
          refine Wk.mk' (by intro id h; cases h) (.cons rfl (Sub.refl _) (.cons rfl (Sub.refl _) (.cons rfl (Sub.refl _) (.cons rfl (Sub.of_eq (congrArg (AV.row 9) (by simp [rowC]))) (.cons rfl (Sub.refl _) (.cons rfl (Sub.refl _) (.cons rfl (Sub.refl _) (.cons rfl (Sub.refl _) .nil)))))))) (.cons rfl rfl (Subs.refl _) (.cons rfl rfl (Subs.refl _) (.cons rfl rfl (Subs.refl _) (.cons rfl rfl (Subs.refl _) .nil)))) (.cons rfl .nil)
set_option maxRecDepth 100000 in
set_option maxHeartbeats 8000000 in
theorem planAll_any (c : Cat) (name : Str) (rows : List (List Val)) (hok : c.Ok) (hn : name.length ≤ 140737488355328) (hr : rows.length ≤ 140737488355328) (hrl : ∀ r ∈ rows, r.length ≤ 140737488355328) :
    CallG gs0 Tryd.prog 5 [.agg (c.c.map .iv), aS name, .iv (.sl (rows.map rowC))] [] [] [] (aB true) := by
  have kp := plans_any
  have kg := goodCat_any c hok
  have kf := findTable_any c name hok.t
  refine CallG.intro _ Tryd.func5 rfl Tryd.ntmps5 rfl (fun w0 E0 hG => ?_)
  cases hg : goodCatM c with
  | false =>
    rw [hg] at kg
    generalize findT c name = ft at *
    obtain ⟨t, ok⟩ := ft
    (repeat' (first | (refine LW.is ?_; first | ((apply s_callG; exact rfl; exact hG; exact kg; exact rfl; exact rfl)) | ((apply s_call0; exact rfl; exact kf; exact rfl; exact rfl)) | ((apply s_call0; exact rfl; exact kp; exact rfl; exact rfl)) | (refine s_nil ?_) | (apply s_mvIv; exact rfl; exact rfl) | (apply s_mvTup; exact rfl; exact rfl) | (apply s_asIv; exact rfl; exact rfl) | (apply s_loadAP; exact rfl; exact rfl; exact rfl; (focus repeat' (first | exact nl_nil rfl | (apply nl_cons; exact rfl) | exact nIm rfl | exact nSl rfl | exact nIv rfl | exact nRow rfl | exact nNil rfl | exact nPtr rfl | exact nBsh rfl | exact nBsl rfl | exact nAny rfl | exact nIIm rfl | exact nISl rfl | exact rfl)); exact rfl) | (apply s_not; exact rfl; exact rfl) | (apply s_extract; exact rfl; exact rfl; (apply n_some; exact rfl; (first | exact nIm rfl | exact nSl rfl | exact nIv rfl | exact nRow rfl | exact nNil rfl | exact nPtr rfl | exact nBsh rfl | exact nBsl rfl | exact nAny rfl | exact rfl))) | (apply s_box; exact rfl; exact rfl; exact rfl; (focus repeat' (first | exact nl_nil rfl | (apply nl_cons; exact rfl) | exact nIm rfl | exact nSl rfl | exact nIv rfl | exact nRow rfl | exact nNil rfl | exact nPtr rfl | exact nBsh rfl | exact nBsl rfl | exact nAny rfl | exact nIIm rfl | exact nISl rfl | exact rfl)); exact rfl; exact rfl) | (apply s_alloc; exact rfl; exact rfl; (focus repeat' (first | exact nl_nil rfl | (apply nl_cons; exact rfl) | exact nIm rfl | exact nSl rfl | exact nIv rfl | exact nRow rfl | exact nNil rfl | exact nPtr rfl | exact nBsh rfl | exact nBsl rfl | exact nAny rfl | exact nIIm rfl | exact nISl rfl | exact rfl)); exact rfl; exact rfl) | (apply s_store; exact rfl; exact rfl; exact rfl; exact rfl; exact rfl; exact rfl; (focus repeat' (first | exact nl_nil rfl | (apply nl_cons; exact rfl) | exact nIm rfl | exact nSl rfl | exact nIv rfl | exact nRow rfl | exact nNil rfl | exact nPtr rfl | exact nBsh rfl | exact nBsl rfl | exact nAny rfl | exact nIIm rfl | exact nISl rfl | exact rfl))) | (apply s_gskipF; exact rfl; exact rfl; exact rfl; (first | exact rfl | assumption)) | (apply s_pickTIv; exact rfl; exact rfl; (first | exact rfl | assumption); exact rfl)) | (refine c_seq ?_) | (refine s_region ?_) | (refine L.thenN ?_) | (refine L.thenR ?_) | (refine L.ret ?_) | (apply c_condT; exact rfl; (first | exact rfl | assumption))))
    all_goals (first | (apply L.ends1; exact rfl; exact rfl; exact rfl) | (apply L.ends2; exact rfl; exact rfl; exact rfl) | (apply L.ends3; exact rfl; exact rfl; exact rfl) | (apply L.ends1A; exact rfl; exact rfl; exact rfl) | (apply L.ends2A; exact rfl; exact rfl; exact rfl))
    all_goals rfl
  | true =>
  rw [hg] at kg
  cases hf : (findT c name).2 with
  | false =>
    generalize findT c name = ft at *
    obtain ⟨t, ok⟩ := ft
    dsimp only at hf; subst hf
    (repeat' (first | (refine LW.is ?_; first | ((apply s_callG; exact rfl; exact hG; exact kg; exact rfl; exact rfl)) | ((apply s_call0; exact rfl; exact kf; exact rfl; exact rfl)) | ((apply s_call0; exact rfl; exact kp; exact rfl; exact rfl)) | (refine s_nil ?_) | (apply s_mvIv; exact rfl; exact rfl) | (apply s_mvTup; exact rfl; exact rfl) | (apply s_asIv; exact rfl; exact rfl) | (apply s_loadAP; exact rfl; exact rfl; exact rfl; (focus repeat' (first | exact nl_nil rfl | (apply nl_cons; exact rfl) | exact nIm rfl | exact nSl rfl | exact nIv rfl | exact nRow rfl | exact nNil rfl | exact nPtr rfl | exact nBsh rfl | exact nBsl rfl | exact nAny rfl | exact nIIm rfl | exact nISl rfl | exact rfl)); exact rfl) | (apply s_not; exact rfl; exact rfl) | (apply s_extract; exact rfl; exact rfl; (apply n_some; exact rfl; (first | exact nIm rfl | exact nSl rfl | exact nIv rfl | exact nRow rfl | exact nNil rfl | exact nPtr rfl | exact nBsh rfl | exact nBsl rfl | exact nAny rfl | exact rfl))) | (apply s_box; exact rfl; exact rfl; exact rfl; (focus repeat' (first | exact nl_nil rfl | (apply nl_cons; exact rfl) | exact nIm rfl | exact nSl rfl | exact nIv rfl | exact nRow rfl | exact nNil rfl | exact nPtr rfl | exact nBsh rfl | exact nBsl rfl | exact nAny rfl | exact nIIm rfl | exact nISl rfl | exact rfl)); exact rfl; exact rfl) | (apply s_alloc; exact rfl; exact rfl; (focus repeat' (first | exact nl_nil rfl | (apply nl_cons; exact rfl) | exact nIm rfl | exact nSl rfl | exact nIv rfl | exact nRow rfl | exact nNil rfl | exact nPtr rfl | exact nBsh rfl | exact nBsl rfl | exact nAny rfl | exact nIIm rfl | exact nISl rfl | exact rfl)); exact rfl; exact rfl) | (apply s_store; exact rfl; exact rfl; exact rfl; exact rfl; exact rfl; exact rfl; (focus repeat' (first | exact nl_nil rfl | (apply nl_cons; exact rfl) | exact nIm rfl | exact nSl rfl | exact nIv rfl | exact nRow rfl | exact nNil rfl | exact nPtr rfl | exact nBsh rfl | exact nBsl rfl | exact nAny rfl | exact nIIm rfl | exact nISl rfl | exact rfl))) | (apply s_gdo; exact rfl; exact rfl; (first | exact rfl | assumption)) | (apply s_gskipF; exact rfl; exact rfl; exact rfl; (first | exact rfl | assumption)) | (apply s_pickTIv; exact rfl; exact rfl; (first | exact rfl | assumption); exact rfl) | (apply s_pickFIv; exact rfl; exact rfl; (first | exact rfl | assumption); exact rfl)) | (refine c_seq ?_) | (refine s_region ?_) | (refine L.thenN ?_) | (refine L.thenR ?_) | (refine L.ret ?_) | (apply c_condT; exact rfl; (first | exact rfl | assumption))))
    all_goals (first | (apply L.ends1; exact rfl; exact rfl; exact rfl) | (apply L.ends2; exact rfl; exact rfl; exact rfl) | (apply L.ends3; exact rfl; exact rfl; exact rfl) | (apply L.ends1A; exact rfl; exact rfl; exact rfl) | (apply L.ends2A; exact rfl; exact rfl; exact rfl))
    all_goals rfl
  | true =>
  obtain ⟨hm, hnm⟩ := findT_mem hf
  have hgt := goodCat_tab hg hm
  obtain ⟨hi1, hi2⟩ := goodCat_is hg
  generalize findT c name = ft at *
  obtain ⟨t, ok⟩ := ft
  dsimp only at hf hm hnm hgt kf; subst hf; subst hnm
  obtain ⟨ht1, ht0, ht2⟩ := goodTab_iff hgt
  have ht0 : t.cols.length ≠ 0 := by omega
  have kk := kept_any c t rows ht1 ht2 ht0 hi1 hi2 hr hrl
  have hkp : Kept c t (keptM c t rows) := kept_ok ht0 rows ⟨Holds.nil c t, by simp, by simp⟩
  generalize keptM c t rows = s at *
  obtain ⟨ps, own⟩ := s
  obtain ⟨hH, hn20, hpl⟩ := hkp
  dsimp only at hH hn20 hpl kk
  have hpl2 : ps.length ≤ 100 := Nat.le_trans hpl (Nat.le_trans (Nat.mul_le_mul hn20 (Nat.add_le_add_right hi1 1)) (by decide))
  have ka := allW_any t.n (by omega)
  have kr := rowsT_any ps t (allW t.n) (by omega) (holds_small hH ht1 ht2 hi2) (by omega) (by simp [allW])
  have kgt := goodtree_any ps (by omega)
  rw [hH.good] at kgt
  obtain ⟨hperm, hsort⟩ := rows_all hH
  have hz := drops_all hH ht0 hperm
  have hfit : ∀ r ∈ rowsT ps t (allW t.n), r.length = t.cols.length := fun r hr => (hH.fit r (hperm.mem_iff.1 hr)).1
  have hlen := hperm.length_eq
  generalize hA : rowsT ps t (allW t.n) = A at *
  generalize allW t.n = w at *
  have e1 : ((((A.map rowC).length : Nat) : Int) != (((own.map rowC).length : Nat) : Int)) = false := by simp [hlen]
  (repeat' (first | (refine LW.is ?_; first | ((apply s_callG; exact rfl; exact hG; exact kg; exact rfl; exact rfl)) | ((apply s_call0; exact rfl; exact kf; exact rfl; exact rfl)) | ((apply s_call0; exact rfl; exact kp; exact rfl; exact rfl)) | ((apply s_call0; exact rfl; exact kk; exact rfl; exact rfl)) | ((apply s_call0; exact rfl; exact kgt; exact rfl; exact rfl)) | (refine s_nil ?_) | (apply s_mvIv; exact rfl; exact rfl) | (apply s_mvTup; exact rfl; exact rfl) | (apply s_asIv; exact rfl; exact rfl) | (apply s_loadAP; exact rfl; exact rfl; exact rfl; (focus repeat' (first | exact nl_nil rfl | (apply nl_cons; exact rfl) | exact nIm rfl | exact nSl rfl | exact nIv rfl | exact nRow rfl | exact nNil rfl | exact nPtr rfl | exact nBsh rfl | exact nBsl rfl | exact nAny rfl | exact nIIm rfl | exact nISl rfl | exact rfl)); exact rfl) | (apply s_lenSl; exact rfl; exact rfl) | (apply s_neqI; exact rfl; exact rfl; exact rfl) | (apply s_not; exact rfl; exact rfl) | (apply s_extract; exact rfl; exact rfl; (apply n_some; exact rfl; (first | exact nIm rfl | exact nSl rfl | exact nIv rfl | exact nRow rfl | exact nNil rfl | exact nPtr rfl | exact nBsh rfl | exact nBsl rfl | exact nAny rfl | exact rfl))) | (apply s_box; exact rfl; exact rfl; exact rfl; (focus repeat' (first | exact nl_nil rfl | (apply nl_cons; exact rfl) | exact nIm rfl | exact nSl rfl | exact nIv rfl | exact nRow rfl | exact nNil rfl | exact nPtr rfl | exact nBsh rfl | exact nBsl rfl | exact nAny rfl | exact nIIm rfl | exact nISl rfl | exact rfl)); exact rfl; exact rfl) | (apply s_alloc; exact rfl; exact rfl; (focus repeat' (first | exact nl_nil rfl | (apply nl_cons; exact rfl) | exact nIm rfl | exact nSl rfl | exact nIv rfl | exact nRow rfl | exact nNil rfl | exact nPtr rfl | exact nBsh rfl | exact nBsl rfl | exact nAny rfl | exact nIIm rfl | exact nISl rfl | exact rfl)); exact rfl; exact rfl) | (apply s_store; exact rfl; exact rfl; exact rfl; exact rfl; exact rfl; exact rfl; (focus repeat' (first | exact nl_nil rfl | (apply nl_cons; exact rfl) | exact nIm rfl | exact nSl rfl | exact nIv rfl | exact nRow rfl | exact nNil rfl | exact nPtr rfl | exact nBsh rfl | exact nBsl rfl | exact nAny rfl | exact nIIm rfl | exact nISl rfl | exact rfl))) | (apply s_gdo; exact rfl; exact rfl; (first | exact rfl | assumption)) | (apply s_pickFIv; exact rfl; exact rfl; (first | exact rfl | assumption); exact rfl)) | (refine DR.is ?_; first | ((apply d_call0; exact rfl; exact ka; exact rfl; exact rfl)) | ((apply d_call0; exact rfl; exact kr; exact rfl; exact rfl)) | (apply d_nil; kernel_rfl) | (apply d_mvIv; exact rfl; exact rfl) | (apply d_asIv; exact rfl; exact rfl) | (apply d_loadAP; exact rfl; exact rfl; exact rfl; (focus repeat' (first | exact nl_nil rfl | (apply nl_cons; exact rfl) | exact nIm rfl | exact nSl rfl | exact nIv rfl | exact nRow rfl | exact nNil rfl | exact nPtr rfl | exact nBsh rfl | exact nBsl rfl | exact nAny rfl | exact nIIm rfl | exact nISl rfl | exact rfl)); exact rfl)) | (refine c_seq ?_) | (refine L.block ?_) | (refine s_region ?_) | (refine d_region ?_) | (refine L.thenN ?_) | (refine L.skip ?_) | (apply c_condF; exact rfl; (first | exact rfl | assumption))))
  refine L.loopP (ι := Nat) (fun i => ⟨[(56, aI (i : Int)), (55, aI ((A.map rowC).length : Int)), (54, .iv (.sl (A.map rowC))), (11, .iv (.sl (A.map rowC))), (9, .ptr 9 0), (3, .ptr 3 0), (7, .ptr 7 0)],
      [(9, ⟨61, .l [.iv (.sl (((A.take i).foldl (fun ps r => dropT ps c t r) ps).map Pg.c))]⟩), (3, ⟨25, .l [.iv (.sl (c.ts.map Tab.c)), .iv (.sl (c.is.map Idx.c))]⟩), (7, ⟨43, .l [aS t.n, .iv (.sl (t.cols.map Col.c))]⟩)], []⟩) (fun i => A.length - i) (fun i => ((A.take i).foldl (fun ps r => dropT ps c t r) ps).length ≤ 100) (i0 := 0) ?_ hpl2 ?_
  · (refine Wk.mk' (by intro id h; cases h) ?_ ?_ ?_ <;> repeat' (first | exact WkF.nil | exact WkB.nil | exact WkT.nil | (refine WkF.cons rfl (Sub.refl _) ?_) | (refine WkB.cons rfl rfl (Subs.refl _) ?_) | (refine WkT.cons rfl ?_)))
  intro i hI K hK
  cases hx : A[i]? with
  | none =>
    have hlt := ltF (l := A.map rowC) (getFN hx)
    rw [take_all hx] at hI ⊢
    have ks := size_any (A.foldl (fun ps r => dropT ps c t r) ps) (by omega) (by rw [hz]; decide)
    rw [hz] at ks
    (repeat' (first | (refine LW.is ?_; first | ((apply s_call0; exact rfl; exact ks; exact rfl; exact rfl)) | (refine s_nil ?_) | (apply s_asIv; exact rfl; exact rfl) | (apply s_loadAP; exact rfl; exact rfl; exact rfl; (focus repeat' (first | exact nl_nil rfl | (apply nl_cons; exact rfl) | exact nIm rfl | exact nSl rfl | exact nIv rfl | exact nRow rfl | exact nNil rfl | exact nPtr rfl | exact nBsh rfl | exact nBsl rfl | exact nAny rfl | exact nIIm rfl | exact nISl rfl | exact rfl)); exact rfl) | (apply s_eqlI; exact rfl; exact rfl; exact rfl) | (apply s_lssI; exact rfl; exact rfl; exact rfl)) | (refine c_seq ?_) | (refine s_region ?_) | (refine L.thenN ?_) | (refine L.thenE ?_) | (refine L.inE ?_) | (refine L.ret ?_) | (refine L.exit ?_) | (apply c_condF; exact rfl; (first | exact rfl | assumption))))
    all_goals (first | (apply L.ends1; exact rfl; exact rfl; exact rfl) | (apply L.ends2; exact rfl; exact rfl; exact rfl) | (apply L.ends3; exact rfl; exact rfl; exact rfl) | (apply L.ends1A; exact rfl; exact rfl; exact rfl) | (apply L.ends2A; exact rfl; exact rfl; exact rfl))
    all_goals rfl
  | some row =>
    have hlt := ltT (l := A.map rowC) (getF (f := rowC) hx)
    have hlt' := ltN hx
    have g1 : (A.map rowC)[((i : Nat) : Int).toNat]? = some [.sl (row.map Val.c)] := by rw [Int.toNat_natCast, List.getElem?_map, hx]; rfl
    have hst := foldl_step (fun ps r => dropT ps c t r) ps hx
    have hrl' := hfit row (List.mem_of_getElem? hx)
    have g0 : (row.map Val.c)[(0 : Int).toNat]? = some [I (row.getD 0 nilV).k, I (row.getD 0 nilV).n, S (row.getD 0 nilV).s] := by rw [show (0 : Int).toNat = 0 from rfl, List.getElem?_map, getD_some nilV (show 0 < row.length by omega)]; rfl
    generalize (A.take i).foldl (fun ps r => dropT ps c t r) ps = Q at *
    have kd := dropT_any Q c t row (by omega) (by omega) (by omega) (by omega) (by omega) (fun x hx => by have := hi2 x hx; omega)
    have hql := dropT_len Q c t row
    by_cases hi0 : i = 0
    · have d0 : decide ((0 : Int) < (i : Int)) = false := by simp [hi0]
      (repeat' (first | (refine LW.is ?_; first | ((apply s_indexA; exact rfl; exact rfl; exact rfl; omega; exact g1; exact rfl)) | ((apply s_call0; exact rfl; exact kd; exact rfl; exact rfl)) | (refine s_nil ?_) | (apply s_mvIv; exact rfl; exact rfl) | (apply s_asIv; exact rfl; exact rfl) | (apply s_loadAP; exact rfl; exact rfl; exact rfl; (focus repeat' (first | exact nl_nil rfl | (apply nl_cons; exact rfl) | exact nIm rfl | exact nSl rfl | exact nIv rfl | exact nRow rfl | exact nNil rfl | exact nPtr rfl | exact nBsh rfl | exact nBsl rfl | exact nAny rfl | exact nIIm rfl | exact nISl rfl | exact rfl)); exact rfl) | (apply s_load1E; exact rfl; exact rfl; exact rfl) | (apply s_lssI; exact rfl; exact rfl; exact rfl) | (apply s_store; exact rfl; exact rfl; exact rfl; exact rfl; exact rfl; exact rfl; (focus repeat' (first | exact nl_nil rfl | (apply nl_cons; exact rfl) | exact nIm rfl | exact nSl rfl | exact nIv rfl | exact nRow rfl | exact nNil rfl | exact nPtr rfl | exact nBsh rfl | exact nBsl rfl | exact nAny rfl | exact nIIm rfl | exact nISl rfl | exact rfl))) | (apply s_addI; exact rfl; exact rfl; exact rfl; (first | omega | decide | (dsimp only; omega)); (first | omega | decide | (dsimp only; omega)))) | (refine DR.is ?_; first | (apply d_nil; kernel_rfl) | (apply d_mvIv; exact rfl; exact rfl) | (apply d_gtrI; exact rfl; exact rfl; exact rfl) | (apply d_gskipT; exact rfl; exact rfl; exact rfl; (first | exact rfl | assumption)) | (apply d_pickFIv; exact rfl; exact rfl; (first | exact rfl | assumption); exact rfl)) | (refine c_seq ?_) | (refine L.block ?_) | (refine s_region ?_) | (refine d_region ?_) | (refine L.thenN ?_) | (refine L.inN ?_) | (refine L.skip ?_) | (apply c_condT; exact rfl; (first | exact rfl | assumption)) | (apply c_condF; exact rfl; (first | exact rfl | assumption))))
      refine hK _ (i + 1) (by rw [hst]; omega) (by omega) ?_
      rw [hst]
      (refine Wk.mk' (by intro id h; cases h) ?_ ?_ ?_ <;> repeat' (first | exact WkF.nil | exact WkB.nil | exact WkT.nil | (refine WkF.cons rfl (Sub.refl _) ?_) | (refine WkB.cons rfl rfl (Subs.refl _) ?_) | (refine WkT.cons rfl ?_)))
    · have d0 : decide ((0 : Int) < (i : Int)) = true := by simp; omega
      have hpi : i - 1 < A.length := by omega
      have g2 : (A.map rowC)[((i : Int) - 1).toNat]? = some [.sl ((A.getD (i - 1) []).map Val.c)] := by rw [show ((i : Int) - 1).toNat = i - 1 by omega, List.getElem?_map, getD_some [] hpi]; rfl
      have hpl' := hfit _ (List.mem_of_getElem? (getD_some [] hpi))
      have hcmp : cmpM ((A.getD (i - 1) []).getD 0 nilV) (row.getD 0 nilV) = -1 := by
        have h1 : A[i - 1]? = some (A.getD (i - 1) []) := getD_some [] hpi
        have e1 := (List.getElem?_eq_some_iff.1 h1).2
        have e2 := (List.getElem?_eq_some_iff.1 hx).2
        have := List.pairwise_iff_getElem.1 hsort (i - 1) i hpi hlt' (by omega)
        rw [e1, e2] at this; exact this
      generalize A.getD (i - 1) [] = prev at *
      have g3 : (prev.map Val.c)[(0 : Int).toNat]? = some [I (prev.getD 0 nilV).k, I (prev.getD 0 nilV).n, S (prev.getD 0 nilV).s] := by rw [show (0 : Int).toNat = 0 from rfl, List.getElem?_map, getD_some nilV (show 0 < prev.length by omega)]; rfl
      have kc := cmp_any (prev.getD 0 nilV) (row.getD 0 nilV)
      rw [hcmp] at kc
      (repeat' (first | (refine LW.is ?_; first | ((apply s_indexA; exact rfl; exact rfl; exact rfl; (first | omega | decide); (first | exact g1 | exact g2 | exact g0 | exact g3); exact rfl)) | ((apply s_call0; exact rfl; exact kd; exact rfl; exact rfl)) | (refine s_nil ?_) | (apply s_mvIv; exact rfl; exact rfl) | (apply s_asIv; exact rfl; exact rfl) | (apply s_loadAP; exact rfl; exact rfl; exact rfl; (focus repeat' (first | exact nl_nil rfl | (apply nl_cons; exact rfl) | exact nIm rfl | exact nSl rfl | exact nIv rfl | exact nRow rfl | exact nNil rfl | exact nPtr rfl | exact nBsh rfl | exact nBsl rfl | exact nAny rfl | exact nIIm rfl | exact nISl rfl | exact rfl)); exact rfl) | (apply s_load1E; exact rfl; exact rfl; exact rfl) | (apply s_lssI; exact rfl; exact rfl; exact rfl) | (apply s_store; exact rfl; exact rfl; exact rfl; exact rfl; exact rfl; exact rfl; (focus repeat' (first | exact nl_nil rfl | (apply nl_cons; exact rfl) | exact nIm rfl | exact nSl rfl | exact nIv rfl | exact nRow rfl | exact nNil rfl | exact nPtr rfl | exact nBsh rfl | exact nBsl rfl | exact nAny rfl | exact nIIm rfl | exact nISl rfl | exact rfl))) | (apply s_addI; exact rfl; exact rfl; exact rfl; (first | omega | decide | (dsimp only; omega)); (first | omega | decide | (dsimp only; omega)))) | (refine DR.is ?_; first | ((apply d_indexA; exact rfl; exact rfl; exact rfl; (first | omega | decide); (first | exact g1 | exact g2 | exact g0 | exact g3); exact rfl)) | ((apply d_call0; exact rfl; exact kc; exact rfl; exact rfl)) | (apply d_nil; kernel_rfl) | (apply d_mvIv; exact rfl; exact rfl) | (apply d_load1E; exact rfl; exact rfl; exact rfl) | (apply d_loadAE; exact rfl; exact rfl; (focus repeat' (first | exact nl_nil rfl | (apply nl_cons; exact rfl) | exact nIm rfl | exact nSl rfl | exact nIv rfl | exact nRow rfl | exact nNil rfl | exact nPtr rfl | exact nBsh rfl | exact nBsl rfl | exact nAny rfl | exact nIIm rfl | exact nISl rfl | exact rfl)); exact rfl) | (apply d_gtrI; exact rfl; exact rfl; exact rfl) | (apply d_geqI; exact rfl; exact rfl; exact rfl) | (apply d_subI; exact rfl; exact rfl; exact rfl; (first | omega | decide | (dsimp only; omega)); (first | omega | decide | (dsimp only; omega))) | (apply d_gdo; exact rfl; exact rfl; (first | exact rfl | assumption)) | (apply d_pickTIv; exact rfl; exact rfl; (first | exact rfl | assumption); exact rfl)) | (refine c_seq ?_) | (refine L.block ?_) | (refine s_region ?_) | (refine d_region ?_) | (refine L.thenN ?_) | (refine L.inN ?_) | (refine L.skip ?_) | (apply c_condT; exact rfl; (first | exact rfl | assumption)) | (apply c_condF; exact rfl; (first | exact rfl | assumption))))
      refine hK _ (i + 1) (by rw [hst]; omega) (by omega) ?_
      rw [hst]
      (refine Wk.mk' (by intro id h; cases h) ?_ ?_ ?_ <;> repeat' (first | exact WkF.nil | exact WkB.nil | exact WkT.nil | (refine WkF.cons rfl (Sub.refl _) ?_) | (refine WkB.cons rfl rfl (Subs.refl _) ?_) | (refine WkT.cons rfl ?_)))
end Go.Proofs.YthkobnpogigkiaaDoor
/- A logic of abstract states, part 27: a law's call where package variables are laid. Conditions: the premises. -/
namespace Go.Abs
open Go.RowKit (Below)
set_option linter.unusedVariables false
theorem law_callsG {P : Program} {gs : Globs} {f : FuncId} {avs : List AV} (hc : CallG gs P f avs [] [] [] (aB true)) {W : World} {us : List Value} (φ : Nat → Nat) (hφ : ∀ b, W.heap.size ≤ b → φ b = 0) (hG : Glob gs (lawEnv φ) W) (hr : RelL (lawEnv φ) W avs us) :
    Calls P f us.toArray W fun e w' => e = .returned (.bool true) ∧ Below W.heap.size W w' := by
  refine (hc (lawEnv φ) W us hr ?_ hG).mono ?_
  · exact ⟨fun id b h => by simp at h, fun id t h => by simp at h, fun i j b b' h => by simp at h, fun i j t t' g h => by simp at h, fun i j b t h => by simp at h, fun i b h => by simp at h, fun i t g h => by simp at h,
      hφ, fun b _ => rfl, fun id h => by simp [keys] at h, KeptBut.refl _ _⟩
  · rintro e w' ⟨u, E', he, hu, hh⟩
    have hv := hu.iv_im
    subst hv
    refine ⟨he, ?_⟩
    have hk := hh.kept
    exact ⟨hk.os, hk.tape, hk.output, hk.size, fun k hlt => hk.block k hlt (fun ⟨id, hid, _⟩ => by simp [keys] at hid)⟩
theorem laid_strs {P : Program} {W : World} {n : String} {g : Nat} {t e : TypeId} {cs : Array Value} {fuel : Nat} {p : List MemPlace} {ws : List (List UInt8)} (hg : P.globalNamed n = some g) (hv : W.var? P n = some cs) (ht : P.underlying t = some (.slice e)) (he : P.underlying e = some .string) (hce : P.cellsOf e = 1) (hne : ws ≠ [])
    (hd : DataW.trod (fun _ => ()) P W 0 (fun _ => true) false fuel t cs.toList = some (.slice (ws.map fun s => .lit (.string s)) [], p)) :
    ∀ (i : Nat) (x : IV), [IV.sl (ws.map fun s => [S s])][i]? = some x → i < sizes W g ∧ ∃ v, W.cell? ⟨g, i, none⟩ = some v ∧ RepI (sizes W) W x v := by
  intro i x hx
  cases i with
  | succ i => simp at hx
  | zero =>
    simp only [List.getElem?_cons_zero, Option.some.injEq] at hx
    subst hx
    rcases DataW.trod_slice ht hd with ⟨_, h⟩ | ⟨a, len, cap, elems, rest, n', _, hcs, hxe, _, hlc, hcm, hel, hget, _, _⟩
    · simp at h
    · simp only [Prod.mk.injEq, DataW.slice.injEq] at hxe
      obtain ⟨⟨hm, hr⟩, _⟩ := hxe
      have hlen : len = ws.length := by rw [← hel]; have := congrArg List.length hm; simpa using this.symm
      have hcell : W.cell? ⟨g, 0, none⟩ = some (.slice (some a) len cap) := by
        rw [World.var?_cell hg hv 0, ← Array.getElem?_toList, hcs]; rfl
      have each : ∀ j s, ws[j]? = some s → W.cell? ((a.add j).add 0) = some (.string ⟨s.toArray⟩) := by
        intro j s hs
        have hj : j < ws.length := (List.getElem?_eq_some_iff.1 hs).1
        have h1 := hget j (by omega)
        rw [hce, Nat.mul_one] at h1
        have hje : elems[j]? = some elems[j] := List.getElem?_eq_getElem (by omega)
        rw [hje] at h1
        obtain ⟨c1, hc1, hc2⟩ := Option.bind_eq_some_iff.1 h1
        obtain ⟨b, rfl, hb, _⟩ := DataW.trod_string he hc2
        obtain ⟨_, hc3, hc4⟩ := World.cells?_some hc1
        have h0 := hc4 0 (by decide)
        have hmj := congrArg (fun l => l[j]?) hm
        simp only [List.getElem?_map, hs, hje, Option.map_some, Option.some.injEq] at hmj
        rw [hb] at hmj
        simp only [DataW.lit.injEq, Lit.string.injEq] at hmj
        rw [h0, hmj]
        rfl
      refine ⟨sizes_cell hcell, _, hcell, ?_⟩
      obtain ⟨b, o, spot⟩ := a
      obtain ⟨s0, hs0⟩ : ∃ s0, ws[0]? = some s0 := ⟨_, List.getElem?_eq_getElem (List.length_pos_iff.2 hne)⟩
      have hsp : spot = none := by simpa [Addr.add] using World.cell?_spot (each 0 s0 hs0)
      subst hsp
      have hl2 : len = (ws.map fun s => [S s]).length := by rw [hlen, List.length_map]
      rw [hl2]
      refine .sl (k := 1) (fun i j => .string ⟨(ws.getD i []).toArray⟩) (by omega) hcm ?_ ?_ ?_ ?_
      · intro i e' he'
        simp only [List.getElem?_map, Option.map_eq_some_iff] at he'
        obtain ⟨s, _, rfl⟩ := he'
        rfl
      all_goals
        intro i e' j x' he' hx'
        simp only [List.getElem?_map, Option.map_eq_some_iff] at he'
        obtain ⟨s, hs, rfl⟩ := he'
        have hj : j = 0 := by have := (List.getElem?_eq_some_iff.1 hx').1; simp at this; omega
        subst hj
        have hc := each i s hs
        rw [Addr.add_none, Addr.add_none] at hc
        have hgd : ws.getD i [] = s := by rw [List.getD_eq_getElem?_getD, hs]; rfl
        simp only [List.getElem?_cons_zero, Option.some.injEq] at hx'
        subst hx'
        try rw [hgd]
        first
          | (have := sizes_cell hc; omega)
          | (rw [show o + i * 1 + 0 = o + i + 0 by omega]; exact hc)
          | exact .im rfl
end Go.Abs
