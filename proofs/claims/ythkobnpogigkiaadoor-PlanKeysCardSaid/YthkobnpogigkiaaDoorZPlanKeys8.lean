/- Several texts in one, each with its own sentence ahead of it. Conditions: each one says its own. -/
import Derived.Test.YthkobnpogigkiaaDoorZPlanKeys7
/- Ways to rows: what plan.Put, plan.Drop and plan.Rows compute. Conditions: how much there is of what comes in. -/
namespace Go.Proofs.YthkobnpogigkiaaDoor
open Go.Abs
attribute [local irreducible] L Code.wp bodyPost Exit.then Exit.inBlock
set_option linter.unusedVariables false
set_option linter.unusedSimpArgs false
theorem idx_in {α : Type} {p : α → Bool} {l : List α} (h : 0 ≤ idxM p l) : (idxM p l).toNat < l.length := by
  unfold idxM at h ⊢
  cases hf : l.findIdx? p with
  | none => rw [hf] at h; simp only at h; omega
  | some i => have := (List.findIdx?_eq_some_iff_getElem.1 hf).1; simpa using this
theorem foldl_step {α β : Type} (f : β → α → β) (b : β) {l : List α} {i : Nat} {x : α} (h : l[i]? = some x) : (l.take (i + 1)).foldl f b = f ((l.take i).foldl f b) x := by
  rw [List.take_add_one, h, List.foldl_append]; rfl
def putIx (t : Tab) (row : List Val) (ps : List Pg) (x : Idx) : List Pg :=
  if x.tb == t.n && decide (0 ≤ colM t x.co) then putM ps (indexKeyM x.n (row.getD (colM t x.co).toNat nilV) (row.getD 0 nilV)) [] else ps
def putT (ps : List Pg) (c : Cat) (t : Tab) (row : List Val) : List Pg :=
  if row.length = 0 ∨ row.length ≠ t.cols.length then ps else c.is.foldl (putIx t row) (putM ps (rowKeyM t.n (row.getD 0 nilV)) (keyS row))
def dropIx (t : Tab) (row : List Val) (ps : List Pg) (x : Idx) : List Pg :=
  if x.tb == t.n && decide (0 ≤ colM t x.co) then dropM ps (indexKeyM x.n (row.getD (colM t x.co).toNat nilV) (row.getD 0 nilV)) else ps
def dropT (ps : List Pg) (c : Cat) (t : Tab) (row : List Val) : List Pg :=
  if row.length = 0 ∨ row.length ≠ t.cols.length then ps else c.is.foldl (dropIx t row) (dropM ps (rowKeyM t.n (row.getD 0 nilV)))
theorem putIx_len (t : Tab) (row : List Val) (ps : List Pg) (x : Idx) : (putIx t row ps x).length ≤ ps.length + 1 := by
  unfold putIx; split
  · exact put_len
  · omega
theorem dropIx_len (t : Tab) (row : List Val) (ps : List Pg) (x : Idx) : (dropIx t row ps x).length ≤ ps.length := by
  unfold dropIx; split
  · exact drop_len
  · omega
theorem putIxs_len (t : Tab) (row : List Val) : ∀ (l : List Idx) (ps : List Pg), (l.foldl (putIx t row) ps).length ≤ ps.length + l.length
  | [], ps => by simp
  | x :: l, ps => by
    have := putIxs_len t row l (putIx t row ps x)
    have := putIx_len t row ps x
    simp only [List.foldl_cons, List.length_cons]; omega
theorem dropIxs_len (t : Tab) (row : List Val) : ∀ (l : List Idx) (ps : List Pg), (l.foldl (dropIx t row) ps).length ≤ ps.length
  | [], ps => by simp
  | x :: l, ps => by
    have := dropIxs_len t row l (dropIx t row ps x)
    have := dropIx_len t row ps x
    simp only [List.foldl_cons]; omega
theorem putT_len (ps : List Pg) (c : Cat) (t : Tab) (row : List Val) : (putT ps c t row).length ≤ ps.length + c.is.length + 1 := by
  unfold putT; split
  · omega
  · have := putIxs_len t row c.is (putM ps (rowKeyM t.n (row.getD 0 nilV)) (keyS row))
    have := put_len (ps := ps) (key := rowKeyM t.n (row.getD 0 nilV)) (val := keyS row)
    omega
theorem dropT_len (ps : List Pg) (c : Cat) (t : Tab) (row : List Val) : (dropT ps c t row).length ≤ ps.length := by
  unfold dropT; split
  · omega
  · have := dropIxs_len t row c.is (dropM ps (rowKeyM t.n (row.getD 0 nilV)))
    have := drop_len (ps := ps) (key := rowKeyM t.n (row.getD 0 nilV))
    omega
set_option maxRecDepth 100000 in
set_option maxHeartbeats 8000000 in
theorem putT_any (ps : List Pg) (c : Cat) (t : Tab) (row : List Val) (hps : ps.length + c.is.length + 2 ≤ 2932031007402) (hrow : row.length ≤ 14073748835532) (htn : t.n.length ≤ 140737488355328) (htl : t.cols.length ≤ 140737488355328) (hil : c.is.length ≤ 140737488355328) (hin : ∀ x ∈ c.is, x.n.length ≤ 140737488355328) :
    CallA Tryd.prog 35 [.agg [.iv (.sl (ps.map Pg.c))], .agg (c.c.map .iv), .agg (t.c.map .iv), .iv (.sl (row.map Val.c))] [] [] [] (.agg [.iv (.sl ((putT ps c t row).map Pg.c))]) := by
  have er : ((row.map Val.c).length : Int) = (row.length : Int) := by simp
  have ec : ((t.cols.map Col.c).length : Int) = (t.cols.length : Int) := by simp
  by_cases hz : row.length = 0
  · have b1 : ((((row.map Val.c).length : Nat) : Int) == 0) = true := by rw [er]; simp; exact List.length_eq_zero_iff.1 hz
    have e : putT ps c t row = ps := by rw [putT, if_pos (.inl hz)]
    rw [e]
    refine CallA.intro _ Tryd.func35 rfl Tryd.ntmps35 rfl (fun w0 E0 => ?_)
    (repeat' (first | (refine LW.is ?_; first | (refine s_nil ?_) | (apply s_mvIv; exact rfl; exact rfl) | (apply s_loadAP; exact rfl; exact rfl; exact rfl; (focus repeat' (first | exact nl_nil rfl | (apply nl_cons; exact rfl) | exact nIm rfl | exact nSl rfl | exact nIv rfl | exact nRow rfl | exact nNil rfl | exact nPtr rfl | exact nBsh rfl | exact nBsl rfl | exact nAny rfl | exact nIIm rfl | exact nISl rfl | exact rfl)); exact rfl) | (apply s_lenSl; exact rfl; exact rfl) | (apply s_eqlI; exact rfl; exact rfl; exact rfl) | (apply s_box; exact rfl; exact rfl; exact rfl; (focus repeat' (first | exact nl_nil rfl | (apply nl_cons; exact rfl) | exact nIm rfl | exact nSl rfl | exact nIv rfl | exact nRow rfl | exact nNil rfl | exact nPtr rfl | exact nBsh rfl | exact nBsl rfl | exact nAny rfl | exact nIIm rfl | exact nISl rfl | exact rfl)); exact rfl; exact rfl) | (apply s_alloc; exact rfl; exact rfl; (focus repeat' (first | exact nl_nil rfl | (apply nl_cons; exact rfl) | exact nIm rfl | exact nSl rfl | exact nIv rfl | exact nRow rfl | exact nNil rfl | exact nPtr rfl | exact nBsh rfl | exact nBsl rfl | exact nAny rfl | exact nIIm rfl | exact nISl rfl | exact rfl)); exact rfl; exact rfl) | (apply s_store; exact rfl; exact rfl; exact rfl; exact rfl; exact rfl; exact rfl; (focus repeat' (first | exact nl_nil rfl | (apply nl_cons; exact rfl) | exact nIm rfl | exact nSl rfl | exact nIv rfl | exact nRow rfl | exact nNil rfl | exact nPtr rfl | exact nBsh rfl | exact nBsl rfl | exact nAny rfl | exact nIIm rfl | exact nISl rfl | exact rfl))) | (apply s_gskipF; exact rfl; exact rfl; exact rfl; (first | exact rfl | assumption)) | (apply s_pickTIv; exact rfl; exact rfl; (first | exact rfl | assumption); exact rfl)) | (refine c_seq ?_) | (refine s_region ?_) | (refine L.thenN ?_) | (refine L.thenR ?_) | (refine L.ret ?_) | (apply c_condT; exact rfl; (first | exact rfl | assumption))))
    all_goals (first | (apply L.ends1; exact rfl; exact rfl; exact rfl) | (apply L.ends2; exact rfl; exact rfl; exact rfl) | (apply L.ends3; exact rfl; exact rfl; exact rfl) | (apply L.ends1A; exact rfl; exact rfl; exact rfl) | (apply L.ends2A; exact rfl; exact rfl; exact rfl))
    all_goals rfl
  have b1 : ((((row.map Val.c).length : Nat) : Int) == 0) = false := by rw [er]; simp; intro h; rw [h] at hz; simp at hz
  by_cases hn : row.length ≠ t.cols.length
  · have b2 : ((((row.map Val.c).length : Nat) : Int) != (((t.cols.map Col.c).length : Nat) : Int)) = true := by rw [er, ec]; simp; omega
    have e : putT ps c t row = ps := by rw [putT, if_pos (.inr hn)]
    rw [e]
    refine CallA.intro _ Tryd.func35 rfl Tryd.ntmps35 rfl (fun w0 E0 => ?_)
    (repeat' (first | (refine LW.is ?_; first | (refine s_nil ?_) | (apply s_mvIv; exact rfl; exact rfl) | (apply s_fieldP; exact rfl; exact rfl; exact rfl) | (apply s_load1P; exact rfl; exact rfl; exact rfl; (apply n_some; exact rfl; (first | exact nIm rfl | exact nSl rfl | exact nIv rfl | exact nRow rfl | exact nNil rfl | exact nPtr rfl | exact nBsh rfl | exact nBsl rfl | exact nAny rfl | exact rfl))) | (apply s_loadAP; exact rfl; exact rfl; exact rfl; (focus repeat' (first | exact nl_nil rfl | (apply nl_cons; exact rfl) | exact nIm rfl | exact nSl rfl | exact nIv rfl | exact nRow rfl | exact nNil rfl | exact nPtr rfl | exact nBsh rfl | exact nBsl rfl | exact nAny rfl | exact nIIm rfl | exact nISl rfl | exact rfl)); exact rfl) | (apply s_lenSl; exact rfl; exact rfl) | (apply s_eqlI; exact rfl; exact rfl; exact rfl) | (apply s_neqI; exact rfl; exact rfl; exact rfl) | (apply s_box; exact rfl; exact rfl; exact rfl; (focus repeat' (first | exact nl_nil rfl | (apply nl_cons; exact rfl) | exact nIm rfl | exact nSl rfl | exact nIv rfl | exact nRow rfl | exact nNil rfl | exact nPtr rfl | exact nBsh rfl | exact nBsl rfl | exact nAny rfl | exact nIIm rfl | exact nISl rfl | exact rfl)); exact rfl; exact rfl) | (apply s_alloc; exact rfl; exact rfl; (focus repeat' (first | exact nl_nil rfl | (apply nl_cons; exact rfl) | exact nIm rfl | exact nSl rfl | exact nIv rfl | exact nRow rfl | exact nNil rfl | exact nPtr rfl | exact nBsh rfl | exact nBsl rfl | exact nAny rfl | exact nIIm rfl | exact nISl rfl | exact rfl)); exact rfl; exact rfl) | (apply s_store; exact rfl; exact rfl; exact rfl; exact rfl; exact rfl; exact rfl; (focus repeat' (first | exact nl_nil rfl | (apply nl_cons; exact rfl) | exact nIm rfl | exact nSl rfl | exact nIv rfl | exact nRow rfl | exact nNil rfl | exact nPtr rfl | exact nBsh rfl | exact nBsl rfl | exact nAny rfl | exact nIIm rfl | exact nISl rfl | exact rfl))) | (apply s_gdo; exact rfl; exact rfl; (first | exact rfl | assumption)) | (apply s_pickFIv; exact rfl; exact rfl; (first | exact rfl | assumption); exact rfl)) | (refine c_seq ?_) | (refine s_region ?_) | (refine L.thenN ?_) | (refine L.thenR ?_) | (refine L.ret ?_) | (apply c_condT; exact rfl; (first | exact rfl | assumption))))
    all_goals (first | (apply L.ends1; exact rfl; exact rfl; exact rfl) | (apply L.ends2; exact rfl; exact rfl; exact rfl) | (apply L.ends3; exact rfl; exact rfl; exact rfl) | (apply L.ends1A; exact rfl; exact rfl; exact rfl) | (apply L.ends2A; exact rfl; exact rfl; exact rfl))
    all_goals rfl
  have hn : row.length = t.cols.length := Classical.not_not.1 hn
  have b2 : ((((row.map Val.c).length : Nat) : Int) != (((t.cols.map Col.c).length : Nat) : Int)) = false := by rw [er, ec, hn]; simp
  have e : putT ps c t row = c.is.foldl (putIx t row) (putM ps (rowKeyM t.n (row.getD 0 nilV)) (keyS row)) := by rw [putT, if_neg (by omega)]
  rw [e]
  have g0 : (row.map Val.c)[(0 : Int).toNat]? = some [I (row.getD 0 nilV).k, I (row.getD 0 nilV).n, S (row.getD 0 nilV).s] := by rw [show (0 : Int).toNat = 0 from rfl, List.getElem?_map, getD_some nilV (show 0 < row.length by omega)]; rfl
  have kr := rowKey_any t.n (row.getD 0 nilV) htn
  have kk := keyP_any row (by omega)
  have kp := put_any ps (rowKeyM t.n (row.getD 0 nilV)) (keyS row) (by omega)
  have hsl := put_len (ps := ps) (key := rowKeyM t.n (row.getD 0 nilV)) (val := keyS row)
  generalize (putM ps (rowKeyM t.n (row.getD 0 nilV)) (keyS row)) = P0 at *
  refine CallA.intro _ Tryd.func35 rfl Tryd.ntmps35 rfl (fun w0 E0 => ?_)
  (repeat' (first | (refine LW.is ?_; first | (refine s_nil ?_) | (apply s_mvIv; exact rfl; exact rfl) | (apply s_fieldP; exact rfl; exact rfl; exact rfl) | (apply s_load1P; exact rfl; exact rfl; exact rfl; (apply n_some; exact rfl; (first | exact nIm rfl | exact nSl rfl | exact nIv rfl | exact nRow rfl | exact nNil rfl | exact nPtr rfl | exact nBsh rfl | exact nBsl rfl | exact nAny rfl | exact rfl))) | (apply s_lenSl; exact rfl; exact rfl) | (apply s_eqlI; exact rfl; exact rfl; exact rfl) | (apply s_neqI; exact rfl; exact rfl; exact rfl) | (apply s_box; exact rfl; exact rfl; exact rfl; (focus repeat' (first | exact nl_nil rfl | (apply nl_cons; exact rfl) | exact nIm rfl | exact nSl rfl | exact nIv rfl | exact nRow rfl | exact nNil rfl | exact nPtr rfl | exact nBsh rfl | exact nBsl rfl | exact nAny rfl | exact nIIm rfl | exact nISl rfl | exact rfl)); exact rfl; exact rfl) | (apply s_alloc; exact rfl; exact rfl; (focus repeat' (first | exact nl_nil rfl | (apply nl_cons; exact rfl) | exact nIm rfl | exact nSl rfl | exact nIv rfl | exact nRow rfl | exact nNil rfl | exact nPtr rfl | exact nBsh rfl | exact nBsl rfl | exact nAny rfl | exact nIIm rfl | exact nISl rfl | exact rfl)); exact rfl; exact rfl) | (apply s_gdo; exact rfl; exact rfl; (first | exact rfl | assumption)) | (apply s_pickFIv; exact rfl; exact rfl; (first | exact rfl | assumption); exact rfl)) | (refine DR.is ?_; first | ((apply d_indexA; exact rfl; exact rfl; exact rfl; decide; exact g0; exact rfl)) | ((apply d_call0; exact rfl; exact kr; exact rfl; exact rfl)) | ((apply d_call0; exact rfl; exact kk; exact rfl; exact rfl)) | ((apply d_call0; exact rfl; exact kp; exact rfl; exact rfl)) | (apply d_nil; kernel_rfl) | (apply d_mvIv; exact rfl; exact rfl) | (apply d_fieldP; exact rfl; exact rfl; exact rfl) | (apply d_load1P; exact rfl; exact rfl; exact rfl; (apply n_some; exact rfl; (first | exact nIm rfl | exact nSl rfl | exact nIv rfl | exact nRow rfl | exact nNil rfl | exact nPtr rfl | exact nBsh rfl | exact nBsl rfl | exact nAny rfl | exact rfl))) | (apply d_loadAP; exact rfl; exact rfl; exact rfl; (focus repeat' (first | exact nl_nil rfl | (apply nl_cons; exact rfl) | exact nIm rfl | exact nSl rfl | exact nIv rfl | exact nRow rfl | exact nNil rfl | exact nPtr rfl | exact nBsh rfl | exact nBsl rfl | exact nAny rfl | exact nIIm rfl | exact nISl rfl | exact rfl)); exact rfl) | (apply d_loadAE; exact rfl; exact rfl; (focus repeat' (first | exact nl_nil rfl | (apply nl_cons; exact rfl) | exact nIm rfl | exact nSl rfl | exact nIv rfl | exact nRow rfl | exact nNil rfl | exact nPtr rfl | exact nBsh rfl | exact nBsl rfl | exact nAny rfl | exact nIIm rfl | exact nISl rfl | exact rfl)); exact rfl) | (apply d_store; exact rfl; exact rfl; exact rfl; exact rfl; exact rfl; exact rfl; (focus repeat' (first | exact nl_nil rfl | (apply nl_cons; exact rfl) | exact nIm rfl | exact nSl rfl | exact nIv rfl | exact nRow rfl | exact nNil rfl | exact nPtr rfl | exact nBsh rfl | exact nBsl rfl | exact nAny rfl | exact nIIm rfl | exact nISl rfl | exact rfl)))) | (refine c_seq ?_) | (refine L.block ?_) | (refine s_region ?_) | (refine d_region ?_) | (refine L.thenN ?_) | (refine L.skip ?_) | (apply c_condF; exact rfl; (first | exact rfl | assumption))))
  refine L.loopP (ι := Nat) (fun i => ⟨[(37, aI (i : Int)), (36, aI ((c.is.map Idx.c).length : Int)), (35, .iv (.sl (c.is.map Idx.c))), (3, .iv (.sl (row.map Val.c))), (4, .ptr 4 0), (6, .ptr 6 0), (8, .ptr 8 0)], [(4, ⟨61, .l [.iv (.sl (((c.is.take i).foldl (putIx t row) P0).map Pg.c))]⟩), (6, ⟨43, .l [aS t.n, .iv (.sl (t.cols.map Col.c))]⟩), (8, ⟨61, .l [.nils]⟩)], []⟩) (fun i => c.is.length - i) (fun i => True) (i0 := 0) ?_ trivial ?_
  · (refine Wk.mk' (by intro id h; cases h) ?_ ?_ ?_ <;> repeat' (first | exact WkF.nil | exact WkB.nil | exact WkT.nil | (refine WkF.cons rfl (Sub.refl _) ?_) | (refine WkB.cons rfl rfl (Subs.refl _) ?_) | (refine WkT.cons rfl ?_)))
  intro i _ K hK
  cases hx : c.is[i]? with
  | none =>
    have hlt := ltF (l := c.is.map Idx.c) (getFN hx)
    rw [take_all hx]
    (repeat' (first | (refine LW.is ?_; first | (refine s_nil ?_) | (apply s_loadAP; exact rfl; exact rfl; exact rfl; (focus repeat' (first | exact nl_nil rfl | (apply nl_cons; exact rfl) | exact nIm rfl | exact nSl rfl | exact nIv rfl | exact nRow rfl | exact nNil rfl | exact nPtr rfl | exact nBsh rfl | exact nBsl rfl | exact nAny rfl | exact nIIm rfl | exact nISl rfl | exact rfl)); exact rfl) | (apply s_lssI; exact rfl; exact rfl; exact rfl) | (apply s_store; exact rfl; exact rfl; exact rfl; exact rfl; exact rfl; exact rfl; (focus repeat' (first | exact nl_nil rfl | (apply nl_cons; exact rfl) | exact nIm rfl | exact nSl rfl | exact nIv rfl | exact nRow rfl | exact nNil rfl | exact nPtr rfl | exact nBsh rfl | exact nBsl rfl | exact nAny rfl | exact nIIm rfl | exact nISl rfl | exact rfl)))) | (refine c_seq ?_) | (refine s_region ?_) | (refine L.thenN ?_) | (refine L.thenE ?_) | (refine L.inE ?_) | (refine L.ret ?_) | (refine L.exit ?_) | (apply c_condF; exact rfl; (first | exact rfl | assumption))))
    all_goals (first | (apply L.ends1; exact rfl; exact rfl; exact rfl) | (apply L.ends2; exact rfl; exact rfl; exact rfl) | (apply L.ends3; exact rfl; exact rfl; exact rfl) | (apply L.ends1A; exact rfl; exact rfl; exact rfl) | (apply L.ends2A; exact rfl; exact rfl; exact rfl))
    all_goals rfl
  | some x =>
    have hlt := ltT (l := c.is.map Idx.c) (getF (f := Idx.c) hx)
    have hlt' := ltN hx
    have g1 : (c.is.map Idx.c)[((i : Nat) : Int).toNat]? = some [S x.n, S x.tb, S x.co] := by rw [Int.toNat_natCast, List.getElem?_map, hx]; rfl
    have kf := findCol_any t x.co htl
    have hst := foldl_step (putIx t row) P0 hx
    have hql := putIxs_len t row (c.is.take i) P0
    have htk : (c.is.take i).length ≤ c.is.length := by simp; omega
    generalize (c.is.take i).foldl (putIx t row) P0 = Q at *
    have hxn := hin x (List.mem_of_getElem? hx)
    cases h1 : (x.tb == t.n) with
    | false =>
      rw [show putIx t row Q x = Q by rw [putIx, h1]; rfl] at hst
      (repeat' (first | (refine LW.is ?_; first | ((apply s_indexA; exact rfl; exact rfl; exact rfl; omega; exact g1; exact rfl)) | ((apply s_call0; exact rfl; exact kf; exact rfl; exact rfl)) | (refine s_nil ?_) | (apply s_mvIv; exact rfl; exact rfl) | (apply s_asIv; exact rfl; exact rfl) | (apply s_fieldP; exact rfl; exact rfl; exact rfl) | (apply s_load1P; exact rfl; exact rfl; exact rfl; (apply n_some; exact rfl; (first | exact nIm rfl | exact nSl rfl | exact nIv rfl | exact nRow rfl | exact nNil rfl | exact nPtr rfl | exact nBsh rfl | exact nBsl rfl | exact nAny rfl | exact rfl))) | (apply s_loadAP; exact rfl; exact rfl; exact rfl; (focus repeat' (first | exact nl_nil rfl | (apply nl_cons; exact rfl) | exact nIm rfl | exact nSl rfl | exact nIv rfl | exact nRow rfl | exact nNil rfl | exact nPtr rfl | exact nBsh rfl | exact nBsl rfl | exact nAny rfl | exact nIIm rfl | exact nISl rfl | exact rfl)); exact rfl) | (apply s_loadAE; exact rfl; exact rfl; (focus repeat' (first | exact nl_nil rfl | (apply nl_cons; exact rfl) | exact nIm rfl | exact nSl rfl | exact nIv rfl | exact nRow rfl | exact nNil rfl | exact nPtr rfl | exact nBsh rfl | exact nBsl rfl | exact nAny rfl | exact nIIm rfl | exact nISl rfl | exact rfl)); exact rfl) | (apply s_lssI; exact rfl; exact rfl; exact rfl) | (apply s_eqlS; exact rfl; exact rfl; exact rfl) | (apply s_alloc; exact rfl; exact rfl; (focus repeat' (first | exact nl_nil rfl | (apply nl_cons; exact rfl) | exact nIm rfl | exact nSl rfl | exact nIv rfl | exact nRow rfl | exact nNil rfl | exact nPtr rfl | exact nBsh rfl | exact nBsl rfl | exact nAny rfl | exact nIIm rfl | exact nISl rfl | exact rfl)); exact rfl; exact rfl) | (apply s_store; exact rfl; exact rfl; exact rfl; exact rfl; exact rfl; exact rfl; (focus repeat' (first | exact nl_nil rfl | (apply nl_cons; exact rfl) | exact nIm rfl | exact nSl rfl | exact nIv rfl | exact nRow rfl | exact nNil rfl | exact nPtr rfl | exact nBsh rfl | exact nBsl rfl | exact nAny rfl | exact nIIm rfl | exact nISl rfl | exact rfl))) | (apply s_addI; exact rfl; exact rfl; exact rfl; (first | omega | decide | (dsimp only; omega)); (first | omega | decide | (dsimp only; omega))) | (apply s_gskipT; exact rfl; exact rfl; exact rfl; (first | exact rfl | assumption)) | (apply s_pickFIv; exact rfl; exact rfl; (first | exact rfl | assumption); exact rfl)) | (refine c_seq ?_) | (refine L.block ?_) | (refine s_region ?_) | (refine L.thenN ?_) | (refine L.inN ?_) | (refine L.skip ?_) | (apply c_condT; exact rfl; (first | exact rfl | assumption)) | (apply c_condF; exact rfl; (first | exact rfl | assumption))))
      refine hK _ (i + 1) trivial (by omega) ?_
      rw [hst]
      (refine Wk.mk' (by intro id h; cases h) ?_ ?_ ?_ <;> repeat' (first | exact WkF.nil | exact WkB.nil | exact WkT.nil | (refine WkF.cons rfl (Sub.refl _) ?_) | (refine WkB.cons rfl rfl (Subs.refl _) ?_) | (refine WkT.cons rfl ?_)))
    | true =>
      cases h2 : decide ((0 : Int) ≤ colM t x.co) with
      | false =>
        rw [show putIx t row Q x = Q by rw [putIx, h1, h2]; rfl] at hst
        (repeat' (first | (refine LW.is ?_; first | ((apply s_indexA; exact rfl; exact rfl; exact rfl; omega; exact g1; exact rfl)) | ((apply s_call0; exact rfl; exact kf; exact rfl; exact rfl)) | (refine s_nil ?_) | (apply s_mvIv; exact rfl; exact rfl) | (apply s_asIv; exact rfl; exact rfl) | (apply s_fieldP; exact rfl; exact rfl; exact rfl) | (apply s_load1P; exact rfl; exact rfl; exact rfl; (apply n_some; exact rfl; (first | exact nIm rfl | exact nSl rfl | exact nIv rfl | exact nRow rfl | exact nNil rfl | exact nPtr rfl | exact nBsh rfl | exact nBsl rfl | exact nAny rfl | exact rfl))) | (apply s_loadAP; exact rfl; exact rfl; exact rfl; (focus repeat' (first | exact nl_nil rfl | (apply nl_cons; exact rfl) | exact nIm rfl | exact nSl rfl | exact nIv rfl | exact nRow rfl | exact nNil rfl | exact nPtr rfl | exact nBsh rfl | exact nBsl rfl | exact nAny rfl | exact nIIm rfl | exact nISl rfl | exact rfl)); exact rfl) | (apply s_loadAE; exact rfl; exact rfl; (focus repeat' (first | exact nl_nil rfl | (apply nl_cons; exact rfl) | exact nIm rfl | exact nSl rfl | exact nIv rfl | exact nRow rfl | exact nNil rfl | exact nPtr rfl | exact nBsh rfl | exact nBsl rfl | exact nAny rfl | exact nIIm rfl | exact nISl rfl | exact rfl)); exact rfl) | (apply s_lssI; exact rfl; exact rfl; exact rfl) | (apply s_geqI; exact rfl; exact rfl; exact rfl) | (apply s_eqlS; exact rfl; exact rfl; exact rfl) | (apply s_alloc; exact rfl; exact rfl; (focus repeat' (first | exact nl_nil rfl | (apply nl_cons; exact rfl) | exact nIm rfl | exact nSl rfl | exact nIv rfl | exact nRow rfl | exact nNil rfl | exact nPtr rfl | exact nBsh rfl | exact nBsl rfl | exact nAny rfl | exact nIIm rfl | exact nISl rfl | exact rfl)); exact rfl; exact rfl) | (apply s_store; exact rfl; exact rfl; exact rfl; exact rfl; exact rfl; exact rfl; (focus repeat' (first | exact nl_nil rfl | (apply nl_cons; exact rfl) | exact nIm rfl | exact nSl rfl | exact nIv rfl | exact nRow rfl | exact nNil rfl | exact nPtr rfl | exact nBsh rfl | exact nBsl rfl | exact nAny rfl | exact nIIm rfl | exact nISl rfl | exact rfl))) | (apply s_addI; exact rfl; exact rfl; exact rfl; (first | omega | decide | (dsimp only; omega)); (first | omega | decide | (dsimp only; omega))) | (apply s_gdo; exact rfl; exact rfl; (first | exact rfl | assumption)) | (apply s_pickTIv; exact rfl; exact rfl; (first | exact rfl | assumption); exact rfl)) | (refine c_seq ?_) | (refine L.block ?_) | (refine s_region ?_) | (refine L.thenN ?_) | (refine L.inN ?_) | (refine L.skip ?_) | (apply c_condT; exact rfl; (first | exact rfl | assumption)) | (apply c_condF; exact rfl; (first | exact rfl | assumption))))
        refine hK _ (i + 1) trivial (by omega) ?_
        rw [hst]
        (refine Wk.mk' (by intro id h; cases h) ?_ ?_ ?_ <;> repeat' (first | exact WkF.nil | exact WkB.nil | exact WkT.nil | (refine WkF.cons rfl (Sub.refl _) ?_) | (refine WkB.cons rfl rfl (Subs.refl _) ?_) | (refine WkT.cons rfl ?_)))
      | true =>
        have h0 : 0 ≤ colM t x.co := of_decide_eq_true h2
        have hki : (colM t x.co).toNat < t.cols.length := idx_in h0
        have g2 : (row.map Val.c)[(colM t x.co).toNat]? = some [I (row.getD (colM t x.co).toNat nilV).k, I (row.getD (colM t x.co).toNat nilV).n, S (row.getD (colM t x.co).toNat nilV).s] := by rw [List.getElem?_map, getD_some nilV (show (colM t x.co).toNat < row.length by omega)]; rfl
        rw [show putIx t row Q x = putM Q (indexKeyM x.n (row.getD (colM t x.co).toNat nilV) (row.getD 0 nilV)) [] by rw [putIx, h1, h2]; rfl] at hst
        generalize row.getD (colM t x.co).toNat nilV = v at *
        have ki := indexKey_any x.n v (row.getD 0 nilV) hxn
        have kq := put_any Q (indexKeyM x.n v (row.getD 0 nilV)) [] (by omega)
        (repeat' (first | (refine LW.is ?_; first | ((apply s_indexA; exact rfl; exact rfl; exact rfl; (first | omega | exact h0 | decide); (first | exact g1 | exact g2 | exact g0); exact rfl)) | ((apply s_call0; exact rfl; exact kf; exact rfl; exact rfl)) | (refine s_nil ?_) | (apply s_mvIv; exact rfl; exact rfl) | (apply s_asIv; exact rfl; exact rfl) | (apply s_fieldP; exact rfl; exact rfl; exact rfl) | (apply s_load1P; exact rfl; exact rfl; exact rfl; (apply n_some; exact rfl; (first | exact nIm rfl | exact nSl rfl | exact nIv rfl | exact nRow rfl | exact nNil rfl | exact nPtr rfl | exact nBsh rfl | exact nBsl rfl | exact nAny rfl | exact rfl))) | (apply s_loadAP; exact rfl; exact rfl; exact rfl; (focus repeat' (first | exact nl_nil rfl | (apply nl_cons; exact rfl) | exact nIm rfl | exact nSl rfl | exact nIv rfl | exact nRow rfl | exact nNil rfl | exact nPtr rfl | exact nBsh rfl | exact nBsl rfl | exact nAny rfl | exact nIIm rfl | exact nISl rfl | exact rfl)); exact rfl) | (apply s_loadAE; exact rfl; exact rfl; (focus repeat' (first | exact nl_nil rfl | (apply nl_cons; exact rfl) | exact nIm rfl | exact nSl rfl | exact nIv rfl | exact nRow rfl | exact nNil rfl | exact nPtr rfl | exact nBsh rfl | exact nBsl rfl | exact nAny rfl | exact nIIm rfl | exact nISl rfl | exact rfl)); exact rfl) | (apply s_lssI; exact rfl; exact rfl; exact rfl) | (apply s_geqI; exact rfl; exact rfl; exact rfl) | (apply s_eqlS; exact rfl; exact rfl; exact rfl) | (apply s_alloc; exact rfl; exact rfl; (focus repeat' (first | exact nl_nil rfl | (apply nl_cons; exact rfl) | exact nIm rfl | exact nSl rfl | exact nIv rfl | exact nRow rfl | exact nNil rfl | exact nPtr rfl | exact nBsh rfl | exact nBsl rfl | exact nAny rfl | exact nIIm rfl | exact nISl rfl | exact rfl)); exact rfl; exact rfl) | (apply s_store; exact rfl; exact rfl; exact rfl; exact rfl; exact rfl; exact rfl; (focus repeat' (first | exact nl_nil rfl | (apply nl_cons; exact rfl) | exact nIm rfl | exact nSl rfl | exact nIv rfl | exact nRow rfl | exact nNil rfl | exact nPtr rfl | exact nBsh rfl | exact nBsl rfl | exact nAny rfl | exact nIIm rfl | exact nISl rfl | exact rfl))) | (apply s_addI; exact rfl; exact rfl; exact rfl; (first | omega | decide | (dsimp only; omega)); (first | omega | decide | (dsimp only; omega))) | (apply s_gdo; exact rfl; exact rfl; (first | exact rfl | assumption)) | (apply s_pickTIv; exact rfl; exact rfl; (first | exact rfl | assumption); exact rfl)) | (refine DR.is ?_; first | ((apply d_indexA; exact rfl; exact rfl; exact rfl; (first | omega | exact h0 | decide); (first | exact g1 | exact g2 | exact g0); exact rfl)) | ((apply d_call0; exact rfl; exact ki; exact rfl; exact rfl)) | ((apply d_call0; exact rfl; exact kq; exact rfl; exact rfl)) | (apply d_nil; kernel_rfl) | (apply d_mvIv; exact rfl; exact rfl) | (apply d_fieldP; exact rfl; exact rfl; exact rfl) | (apply d_load1P; exact rfl; exact rfl; exact rfl; (apply n_some; exact rfl; (first | exact nIm rfl | exact nSl rfl | exact nIv rfl | exact nRow rfl | exact nNil rfl | exact nPtr rfl | exact nBsh rfl | exact nBsl rfl | exact nAny rfl | exact rfl))) | (apply d_loadAP; exact rfl; exact rfl; exact rfl; (focus repeat' (first | exact nl_nil rfl | (apply nl_cons; exact rfl) | exact nIm rfl | exact nSl rfl | exact nIv rfl | exact nRow rfl | exact nNil rfl | exact nPtr rfl | exact nBsh rfl | exact nBsl rfl | exact nAny rfl | exact nIIm rfl | exact nISl rfl | exact rfl)); exact rfl) | (apply d_loadAE; exact rfl; exact rfl; (focus repeat' (first | exact nl_nil rfl | (apply nl_cons; exact rfl) | exact nIm rfl | exact nSl rfl | exact nIv rfl | exact nRow rfl | exact nNil rfl | exact nPtr rfl | exact nBsh rfl | exact nBsl rfl | exact nAny rfl | exact nIIm rfl | exact nISl rfl | exact rfl)); exact rfl) | (apply d_store; exact rfl; exact rfl; exact rfl; exact rfl; exact rfl; exact rfl; (focus repeat' (first | exact nl_nil rfl | (apply nl_cons; exact rfl) | exact nIm rfl | exact nSl rfl | exact nIv rfl | exact nRow rfl | exact nNil rfl | exact nPtr rfl | exact nBsh rfl | exact nBsl rfl | exact nAny rfl | exact nIIm rfl | exact nISl rfl | exact rfl)))) | (refine c_seq ?_) | (refine L.block ?_) | (refine s_region ?_) | (refine d_region ?_) | (refine L.thenN ?_) | (refine L.inN ?_) | (refine L.skip ?_) | (apply c_condT; exact rfl; (first | exact rfl | assumption))))
        refine hK _ (i + 1) trivial (by omega) ?_
        rw [hst]
        (refine Wk.mk' (by intro id h; cases h) ?_ ?_ ?_ <;> repeat' (first | exact WkF.nil | exact WkB.nil | exact WkT.nil | (refine WkF.cons rfl (Sub.refl _) ?_) | (refine WkB.cons rfl rfl (Subs.refl _) ?_) | (refine WkT.cons rfl ?_)))
set_option maxRecDepth 100000 in
set_option maxHeartbeats 8000000 in
theorem dropT_any (ps : List Pg) (c : Cat) (t : Tab) (row : List Val) (hps : ps.length ≤ 2932031007402) (hrow : row.length ≤ 14073748835532) (htn : t.n.length ≤ 140737488355328) (htl : t.cols.length ≤ 140737488355328) (hil : c.is.length ≤ 140737488355328) (hin : ∀ x ∈ c.is, x.n.length ≤ 140737488355328) :
    CallA Tryd.prog 23 [.agg [.iv (.sl (ps.map Pg.c))], .agg (c.c.map .iv), .agg (t.c.map .iv), .iv (.sl (row.map Val.c))] [] [] [] (.agg [.iv (.sl ((dropT ps c t row).map Pg.c))]) := by
  have er : ((row.map Val.c).length : Int) = (row.length : Int) := by simp
  have ec : ((t.cols.map Col.c).length : Int) = (t.cols.length : Int) := by simp
  by_cases hz : row.length = 0
  · have b1 : ((((row.map Val.c).length : Nat) : Int) == 0) = true := by rw [er]; simp; exact List.length_eq_zero_iff.1 hz
    have e : dropT ps c t row = ps := by rw [dropT, if_pos (.inl hz)]
    rw [e]
    refine CallA.intro _ Tryd.func23 rfl Tryd.ntmps23 rfl (fun w0 E0 => ?_)
    (repeat' (first | (refine LW.is ?_; first | (refine s_nil ?_) | (apply s_mvIv; exact rfl; exact rfl) | (apply s_loadAP; exact rfl; exact rfl; exact rfl; (focus repeat' (first | exact nl_nil rfl | (apply nl_cons; exact rfl) | exact nIm rfl | exact nSl rfl | exact nIv rfl | exact nRow rfl | exact nNil rfl | exact nPtr rfl | exact nBsh rfl | exact nBsl rfl | exact nAny rfl | exact nIIm rfl | exact nISl rfl | exact rfl)); exact rfl) | (apply s_lenSl; exact rfl; exact rfl) | (apply s_eqlI; exact rfl; exact rfl; exact rfl) | (apply s_box; exact rfl; exact rfl; exact rfl; (focus repeat' (first | exact nl_nil rfl | (apply nl_cons; exact rfl) | exact nIm rfl | exact nSl rfl | exact nIv rfl | exact nRow rfl | exact nNil rfl | exact nPtr rfl | exact nBsh rfl | exact nBsl rfl | exact nAny rfl | exact nIIm rfl | exact nISl rfl | exact rfl)); exact rfl; exact rfl) | (apply s_alloc; exact rfl; exact rfl; (focus repeat' (first | exact nl_nil rfl | (apply nl_cons; exact rfl) | exact nIm rfl | exact nSl rfl | exact nIv rfl | exact nRow rfl | exact nNil rfl | exact nPtr rfl | exact nBsh rfl | exact nBsl rfl | exact nAny rfl | exact nIIm rfl | exact nISl rfl | exact rfl)); exact rfl; exact rfl) | (apply s_store; exact rfl; exact rfl; exact rfl; exact rfl; exact rfl; exact rfl; (focus repeat' (first | exact nl_nil rfl | (apply nl_cons; exact rfl) | exact nIm rfl | exact nSl rfl | exact nIv rfl | exact nRow rfl | exact nNil rfl | exact nPtr rfl | exact nBsh rfl | exact nBsl rfl | exact nAny rfl | exact nIIm rfl | exact nISl rfl | exact rfl))) | (apply s_gskipF; exact rfl; exact rfl; exact rfl; (first | exact rfl | assumption)) | (apply s_pickTIv; exact rfl; exact rfl; (first | exact rfl | assumption); exact rfl)) | (refine c_seq ?_) | (refine s_region ?_) | (refine L.thenN ?_) | (refine L.thenR ?_) | (refine L.ret ?_) | (apply c_condT; exact rfl; (first | exact rfl | assumption))))
    all_goals (first | (apply L.ends1; exact rfl; exact rfl; exact rfl) | (apply L.ends2; exact rfl; exact rfl; exact rfl) | (apply L.ends3; exact rfl; exact rfl; exact rfl) | (apply L.ends1A; exact rfl; exact rfl; exact rfl) | (apply L.ends2A; exact rfl; exact rfl; exact rfl))
    all_goals rfl
  have b1 : ((((row.map Val.c).length : Nat) : Int) == 0) = false := by rw [er]; simp; intro h; rw [h] at hz; simp at hz
  by_cases hn : row.length ≠ t.cols.length
  · have b2 : ((((row.map Val.c).length : Nat) : Int) != (((t.cols.map Col.c).length : Nat) : Int)) = true := by rw [er, ec]; simp; omega
    have e : dropT ps c t row = ps := by rw [dropT, if_pos (.inr hn)]
    rw [e]
    refine CallA.intro _ Tryd.func23 rfl Tryd.ntmps23 rfl (fun w0 E0 => ?_)
    (repeat' (first | (refine LW.is ?_; first | (refine s_nil ?_) | (apply s_mvIv; exact rfl; exact rfl) | (apply s_fieldP; exact rfl; exact rfl; exact rfl) | (apply s_load1P; exact rfl; exact rfl; exact rfl; (apply n_some; exact rfl; (first | exact nIm rfl | exact nSl rfl | exact nIv rfl | exact nRow rfl | exact nNil rfl | exact nPtr rfl | exact nBsh rfl | exact nBsl rfl | exact nAny rfl | exact rfl))) | (apply s_loadAP; exact rfl; exact rfl; exact rfl; (focus repeat' (first | exact nl_nil rfl | (apply nl_cons; exact rfl) | exact nIm rfl | exact nSl rfl | exact nIv rfl | exact nRow rfl | exact nNil rfl | exact nPtr rfl | exact nBsh rfl | exact nBsl rfl | exact nAny rfl | exact nIIm rfl | exact nISl rfl | exact rfl)); exact rfl) | (apply s_lenSl; exact rfl; exact rfl) | (apply s_eqlI; exact rfl; exact rfl; exact rfl) | (apply s_neqI; exact rfl; exact rfl; exact rfl) | (apply s_box; exact rfl; exact rfl; exact rfl; (focus repeat' (first | exact nl_nil rfl | (apply nl_cons; exact rfl) | exact nIm rfl | exact nSl rfl | exact nIv rfl | exact nRow rfl | exact nNil rfl | exact nPtr rfl | exact nBsh rfl | exact nBsl rfl | exact nAny rfl | exact nIIm rfl | exact nISl rfl | exact rfl)); exact rfl; exact rfl) | (apply s_alloc; exact rfl; exact rfl; (focus repeat' (first | exact nl_nil rfl | (apply nl_cons; exact rfl) | exact nIm rfl | exact nSl rfl | exact nIv rfl | exact nRow rfl | exact nNil rfl | exact nPtr rfl | exact nBsh rfl | exact nBsl rfl | exact nAny rfl | exact nIIm rfl | exact nISl rfl | exact rfl)); exact rfl; exact rfl) | (apply s_store; exact rfl; exact rfl; exact rfl; exact rfl; exact rfl; exact rfl; (focus repeat' (first | exact nl_nil rfl | (apply nl_cons; exact rfl) | exact nIm rfl | exact nSl rfl | exact nIv rfl | exact nRow rfl | exact nNil rfl | exact nPtr rfl | exact nBsh rfl | exact nBsl rfl | exact nAny rfl | exact nIIm rfl | exact nISl rfl | exact rfl))) | (apply s_gdo; exact rfl; exact rfl; (first | exact rfl | assumption)) | (apply s_pickFIv; exact rfl; exact rfl; (first | exact rfl | assumption); exact rfl)) | (refine c_seq ?_) | (refine s_region ?_) | (refine L.thenN ?_) | (refine L.thenR ?_) | (refine L.ret ?_) | (apply c_condT; exact rfl; (first | exact rfl | assumption))))
    all_goals (first | (apply L.ends1; exact rfl; exact rfl; exact rfl) | (apply L.ends2; exact rfl; exact rfl; exact rfl) | (apply L.ends3; exact rfl; exact rfl; exact rfl) | (apply L.ends1A; exact rfl; exact rfl; exact rfl) | (apply L.ends2A; exact rfl; exact rfl; exact rfl))
    all_goals rfl
  have hn : row.length = t.cols.length := Classical.not_not.1 hn
  have b2 : ((((row.map Val.c).length : Nat) : Int) != (((t.cols.map Col.c).length : Nat) : Int)) = false := by rw [er, ec, hn]; simp
  have e : dropT ps c t row = c.is.foldl (dropIx t row) (dropM ps (rowKeyM t.n (row.getD 0 nilV))) := by rw [dropT, if_neg (by omega)]
  rw [e]
  have g0 : (row.map Val.c)[(0 : Int).toNat]? = some [I (row.getD 0 nilV).k, I (row.getD 0 nilV).n, S (row.getD 0 nilV).s] := by rw [show (0 : Int).toNat = 0 from rfl, List.getElem?_map, getD_some nilV (show 0 < row.length by omega)]; rfl
  have kr := rowKey_any t.n (row.getD 0 nilV) htn
  have kk := keyP_any row (by omega)
  have kp := drop_any ps (rowKeyM t.n (row.getD 0 nilV)) (by omega)
  have hsl := drop_len (ps := ps) (key := rowKeyM t.n (row.getD 0 nilV))
  generalize (dropM ps (rowKeyM t.n (row.getD 0 nilV))) = P0 at *
  refine CallA.intro _ Tryd.func23 rfl Tryd.ntmps23 rfl (fun w0 E0 => ?_)
  (repeat' (first | (refine LW.is ?_; first | (refine s_nil ?_) | (apply s_mvIv; exact rfl; exact rfl) | (apply s_fieldP; exact rfl; exact rfl; exact rfl) | (apply s_load1P; exact rfl; exact rfl; exact rfl; (apply n_some; exact rfl; (first | exact nIm rfl | exact nSl rfl | exact nIv rfl | exact nRow rfl | exact nNil rfl | exact nPtr rfl | exact nBsh rfl | exact nBsl rfl | exact nAny rfl | exact rfl))) | (apply s_lenSl; exact rfl; exact rfl) | (apply s_eqlI; exact rfl; exact rfl; exact rfl) | (apply s_neqI; exact rfl; exact rfl; exact rfl) | (apply s_box; exact rfl; exact rfl; exact rfl; (focus repeat' (first | exact nl_nil rfl | (apply nl_cons; exact rfl) | exact nIm rfl | exact nSl rfl | exact nIv rfl | exact nRow rfl | exact nNil rfl | exact nPtr rfl | exact nBsh rfl | exact nBsl rfl | exact nAny rfl | exact nIIm rfl | exact nISl rfl | exact rfl)); exact rfl; exact rfl) | (apply s_alloc; exact rfl; exact rfl; (focus repeat' (first | exact nl_nil rfl | (apply nl_cons; exact rfl) | exact nIm rfl | exact nSl rfl | exact nIv rfl | exact nRow rfl | exact nNil rfl | exact nPtr rfl | exact nBsh rfl | exact nBsl rfl | exact nAny rfl | exact nIIm rfl | exact nISl rfl | exact rfl)); exact rfl; exact rfl) | (apply s_gdo; exact rfl; exact rfl; (first | exact rfl | assumption)) | (apply s_pickFIv; exact rfl; exact rfl; (first | exact rfl | assumption); exact rfl)) | (refine DR.is ?_; first | ((apply d_indexA; exact rfl; exact rfl; exact rfl; decide; exact g0; exact rfl)) | ((apply d_call0; exact rfl; exact kr; exact rfl; exact rfl)) | ((apply d_call0; exact rfl; exact kp; exact rfl; exact rfl)) | (apply d_nil; kernel_rfl) | (apply d_mvIv; exact rfl; exact rfl) | (apply d_fieldP; exact rfl; exact rfl; exact rfl) | (apply d_load1P; exact rfl; exact rfl; exact rfl; (apply n_some; exact rfl; (first | exact nIm rfl | exact nSl rfl | exact nIv rfl | exact nRow rfl | exact nNil rfl | exact nPtr rfl | exact nBsh rfl | exact nBsl rfl | exact nAny rfl | exact rfl))) | (apply d_loadAP; exact rfl; exact rfl; exact rfl; (focus repeat' (first | exact nl_nil rfl | (apply nl_cons; exact rfl) | exact nIm rfl | exact nSl rfl | exact nIv rfl | exact nRow rfl | exact nNil rfl | exact nPtr rfl | exact nBsh rfl | exact nBsl rfl | exact nAny rfl | exact nIIm rfl | exact nISl rfl | exact rfl)); exact rfl) | (apply d_loadAE; exact rfl; exact rfl; (focus repeat' (first | exact nl_nil rfl | (apply nl_cons; exact rfl) | exact nIm rfl | exact nSl rfl | exact nIv rfl | exact nRow rfl | exact nNil rfl | exact nPtr rfl | exact nBsh rfl | exact nBsl rfl | exact nAny rfl | exact nIIm rfl | exact nISl rfl | exact rfl)); exact rfl) | (apply d_store; exact rfl; exact rfl; exact rfl; exact rfl; exact rfl; exact rfl; (focus repeat' (first | exact nl_nil rfl | (apply nl_cons; exact rfl) | exact nIm rfl | exact nSl rfl | exact nIv rfl | exact nRow rfl | exact nNil rfl | exact nPtr rfl | exact nBsh rfl | exact nBsl rfl | exact nAny rfl | exact nIIm rfl | exact nISl rfl | exact rfl)))) | (refine c_seq ?_) | (refine L.block ?_) | (refine s_region ?_) | (refine d_region ?_) | (refine L.thenN ?_) | (refine L.skip ?_) | (apply c_condF; exact rfl; (first | exact rfl | assumption))))
  refine L.loopP (ι := Nat) (fun i => ⟨[(35, aI (i : Int)), (34, aI ((c.is.map Idx.c).length : Int)), (33, .iv (.sl (c.is.map Idx.c))), (3, .iv (.sl (row.map Val.c))), (4, .ptr 4 0), (6, .ptr 6 0), (8, .ptr 8 0)], [(4, ⟨61, .l [.iv (.sl (((c.is.take i).foldl (dropIx t row) P0).map Pg.c))]⟩), (6, ⟨43, .l [aS t.n, .iv (.sl (t.cols.map Col.c))]⟩), (8, ⟨61, .l [.nils]⟩)], []⟩) (fun i => c.is.length - i) (fun i => True) (i0 := 0) ?_ trivial ?_
  · (refine Wk.mk' (by intro id h; cases h) ?_ ?_ ?_ <;> repeat' (first | exact WkF.nil | exact WkB.nil | exact WkT.nil | (refine WkF.cons rfl (Sub.refl _) ?_) | (refine WkB.cons rfl rfl (Subs.refl _) ?_) | (refine WkT.cons rfl ?_)))
  intro i _ K hK
  cases hx : c.is[i]? with
  | none =>
    have hlt := ltF (l := c.is.map Idx.c) (getFN hx)
    rw [take_all hx]
    (repeat' (first | (refine LW.is ?_; first | (refine s_nil ?_) | (apply s_loadAP; exact rfl; exact rfl; exact rfl; (focus repeat' (first | exact nl_nil rfl | (apply nl_cons; exact rfl) | exact nIm rfl | exact nSl rfl | exact nIv rfl | exact nRow rfl | exact nNil rfl | exact nPtr rfl | exact nBsh rfl | exact nBsl rfl | exact nAny rfl | exact nIIm rfl | exact nISl rfl | exact rfl)); exact rfl) | (apply s_lssI; exact rfl; exact rfl; exact rfl) | (apply s_store; exact rfl; exact rfl; exact rfl; exact rfl; exact rfl; exact rfl; (focus repeat' (first | exact nl_nil rfl | (apply nl_cons; exact rfl) | exact nIm rfl | exact nSl rfl | exact nIv rfl | exact nRow rfl | exact nNil rfl | exact nPtr rfl | exact nBsh rfl | exact nBsl rfl | exact nAny rfl | exact nIIm rfl | exact nISl rfl | exact rfl)))) | (refine c_seq ?_) | (refine s_region ?_) | (refine L.thenN ?_) | (refine L.thenE ?_) | (refine L.inE ?_) | (refine L.ret ?_) | (refine L.exit ?_) | (apply c_condF; exact rfl; (first | exact rfl | assumption))))
    all_goals (first | (apply L.ends1; exact rfl; exact rfl; exact rfl) | (apply L.ends2; exact rfl; exact rfl; exact rfl) | (apply L.ends3; exact rfl; exact rfl; exact rfl) | (apply L.ends1A; exact rfl; exact rfl; exact rfl) | (apply L.ends2A; exact rfl; exact rfl; exact rfl))
    all_goals rfl
  | some x =>
    have hlt := ltT (l := c.is.map Idx.c) (getF (f := Idx.c) hx)
    have hlt' := ltN hx
    have g1 : (c.is.map Idx.c)[((i : Nat) : Int).toNat]? = some [S x.n, S x.tb, S x.co] := by rw [Int.toNat_natCast, List.getElem?_map, hx]; rfl
    have kf := findCol_any t x.co htl
    have hst := foldl_step (dropIx t row) P0 hx
    have hql := dropIxs_len t row (c.is.take i) P0
    have htk : (c.is.take i).length ≤ c.is.length := by simp; omega
    generalize (c.is.take i).foldl (dropIx t row) P0 = Q at *
    have hxn := hin x (List.mem_of_getElem? hx)
    cases h1 : (x.tb == t.n) with
    | false =>
      rw [show dropIx t row Q x = Q by rw [dropIx, h1]; rfl] at hst
      (repeat' (first | (refine LW.is ?_; first | ((apply s_indexA; exact rfl; exact rfl; exact rfl; omega; exact g1; exact rfl)) | ((apply s_call0; exact rfl; exact kf; exact rfl; exact rfl)) | (refine s_nil ?_) | (apply s_mvIv; exact rfl; exact rfl) | (apply s_asIv; exact rfl; exact rfl) | (apply s_fieldP; exact rfl; exact rfl; exact rfl) | (apply s_load1P; exact rfl; exact rfl; exact rfl; (apply n_some; exact rfl; (first | exact nIm rfl | exact nSl rfl | exact nIv rfl | exact nRow rfl | exact nNil rfl | exact nPtr rfl | exact nBsh rfl | exact nBsl rfl | exact nAny rfl | exact rfl))) | (apply s_loadAP; exact rfl; exact rfl; exact rfl; (focus repeat' (first | exact nl_nil rfl | (apply nl_cons; exact rfl) | exact nIm rfl | exact nSl rfl | exact nIv rfl | exact nRow rfl | exact nNil rfl | exact nPtr rfl | exact nBsh rfl | exact nBsl rfl | exact nAny rfl | exact nIIm rfl | exact nISl rfl | exact rfl)); exact rfl) | (apply s_loadAE; exact rfl; exact rfl; (focus repeat' (first | exact nl_nil rfl | (apply nl_cons; exact rfl) | exact nIm rfl | exact nSl rfl | exact nIv rfl | exact nRow rfl | exact nNil rfl | exact nPtr rfl | exact nBsh rfl | exact nBsl rfl | exact nAny rfl | exact nIIm rfl | exact nISl rfl | exact rfl)); exact rfl) | (apply s_lssI; exact rfl; exact rfl; exact rfl) | (apply s_eqlS; exact rfl; exact rfl; exact rfl) | (apply s_alloc; exact rfl; exact rfl; (focus repeat' (first | exact nl_nil rfl | (apply nl_cons; exact rfl) | exact nIm rfl | exact nSl rfl | exact nIv rfl | exact nRow rfl | exact nNil rfl | exact nPtr rfl | exact nBsh rfl | exact nBsl rfl | exact nAny rfl | exact nIIm rfl | exact nISl rfl | exact rfl)); exact rfl; exact rfl) | (apply s_store; exact rfl; exact rfl; exact rfl; exact rfl; exact rfl; exact rfl; (focus repeat' (first | exact nl_nil rfl | (apply nl_cons; exact rfl) | exact nIm rfl | exact nSl rfl | exact nIv rfl | exact nRow rfl | exact nNil rfl | exact nPtr rfl | exact nBsh rfl | exact nBsl rfl | exact nAny rfl | exact nIIm rfl | exact nISl rfl | exact rfl))) | (apply s_addI; exact rfl; exact rfl; exact rfl; (first | omega | decide | (dsimp only; omega)); (first | omega | decide | (dsimp only; omega))) | (apply s_gskipT; exact rfl; exact rfl; exact rfl; (first | exact rfl | assumption)) | (apply s_pickFIv; exact rfl; exact rfl; (first | exact rfl | assumption); exact rfl)) | (refine c_seq ?_) | (refine L.block ?_) | (refine s_region ?_) | (refine L.thenN ?_) | (refine L.inN ?_) | (refine L.skip ?_) | (apply c_condT; exact rfl; (first | exact rfl | assumption)) | (apply c_condF; exact rfl; (first | exact rfl | assumption))))
      refine hK _ (i + 1) trivial (by omega) ?_
      rw [hst]
      (refine Wk.mk' (by intro id h; cases h) ?_ ?_ ?_ <;> repeat' (first | exact WkF.nil | exact WkB.nil | exact WkT.nil | (refine WkF.cons rfl (Sub.refl _) ?_) | (refine WkB.cons rfl rfl (Subs.refl _) ?_) | (refine WkT.cons rfl ?_)))
    | true =>
      cases h2 : decide ((0 : Int) ≤ colM t x.co) with
      | false =>
        rw [show dropIx t row Q x = Q by rw [dropIx, h1, h2]; rfl] at hst
        (repeat' (first | (refine LW.is ?_; first | ((apply s_indexA; exact rfl; exact rfl; exact rfl; omega; exact g1; exact rfl)) | ((apply s_call0; exact rfl; exact kf; exact rfl; exact rfl)) | (refine s_nil ?_) | (apply s_mvIv; exact rfl; exact rfl) | (apply s_asIv; exact rfl; exact rfl) | (apply s_fieldP; exact rfl; exact rfl; exact rfl) | (apply s_load1P; exact rfl; exact rfl; exact rfl; (apply n_some; exact rfl; (first | exact nIm rfl | exact nSl rfl | exact nIv rfl | exact nRow rfl | exact nNil rfl | exact nPtr rfl | exact nBsh rfl | exact nBsl rfl | exact nAny rfl | exact rfl))) | (apply s_loadAP; exact rfl; exact rfl; exact rfl; (focus repeat' (first | exact nl_nil rfl | (apply nl_cons; exact rfl) | exact nIm rfl | exact nSl rfl | exact nIv rfl | exact nRow rfl | exact nNil rfl | exact nPtr rfl | exact nBsh rfl | exact nBsl rfl | exact nAny rfl | exact nIIm rfl | exact nISl rfl | exact rfl)); exact rfl) | (apply s_loadAE; exact rfl; exact rfl; (focus repeat' (first | exact nl_nil rfl | (apply nl_cons; exact rfl) | exact nIm rfl | exact nSl rfl | exact nIv rfl | exact nRow rfl | exact nNil rfl | exact nPtr rfl | exact nBsh rfl | exact nBsl rfl | exact nAny rfl | exact nIIm rfl | exact nISl rfl | exact rfl)); exact rfl) | (apply s_lssI; exact rfl; exact rfl; exact rfl) | (apply s_geqI; exact rfl; exact rfl; exact rfl) | (apply s_eqlS; exact rfl; exact rfl; exact rfl) | (apply s_alloc; exact rfl; exact rfl; (focus repeat' (first | exact nl_nil rfl | (apply nl_cons; exact rfl) | exact nIm rfl | exact nSl rfl | exact nIv rfl | exact nRow rfl | exact nNil rfl | exact nPtr rfl | exact nBsh rfl | exact nBsl rfl | exact nAny rfl | exact nIIm rfl | exact nISl rfl | exact rfl)); exact rfl; exact rfl) | (apply s_store; exact rfl; exact rfl; exact rfl; exact rfl; exact rfl; exact rfl; (focus repeat' (first | exact nl_nil rfl | (apply nl_cons; exact rfl) | exact nIm rfl | exact nSl rfl | exact nIv rfl | exact nRow rfl | exact nNil rfl | exact nPtr rfl | exact nBsh rfl | exact nBsl rfl | exact nAny rfl | exact nIIm rfl | exact nISl rfl | exact rfl))) | (apply s_addI; exact rfl; exact rfl; exact rfl; (first | omega | decide | (dsimp only; omega)); (first | omega | decide | (dsimp only; omega))) | (apply s_gdo; exact rfl; exact rfl; (first | exact rfl | assumption)) | (apply s_pickTIv; exact rfl; exact rfl; (first | exact rfl | assumption); exact rfl)) | (refine c_seq ?_) | (refine L.block ?_) | (refine s_region ?_) | (refine L.thenN ?_) | (refine L.inN ?_) | (refine L.skip ?_) | (apply c_condT; exact rfl; (first | exact rfl | assumption)) | (apply c_condF; exact rfl; (first | exact rfl | assumption))))
        refine hK _ (i + 1) trivial (by omega) ?_
        rw [hst]
        (refine Wk.mk' (by intro id h; cases h) ?_ ?_ ?_ <;> repeat' (first | exact WkF.nil | exact WkB.nil | exact WkT.nil | (refine WkF.cons rfl (Sub.refl _) ?_) | (refine WkB.cons rfl rfl (Subs.refl _) ?_) | (refine WkT.cons rfl ?_)))
      | true =>
        have h0 : 0 ≤ colM t x.co := of_decide_eq_true h2
        have hki : (colM t x.co).toNat < t.cols.length := idx_in h0
        have g2 : (row.map Val.c)[(colM t x.co).toNat]? = some [I (row.getD (colM t x.co).toNat nilV).k, I (row.getD (colM t x.co).toNat nilV).n, S (row.getD (colM t x.co).toNat nilV).s] := by rw [List.getElem?_map, getD_some nilV (show (colM t x.co).toNat < row.length by omega)]; rfl
        rw [show dropIx t row Q x = dropM Q (indexKeyM x.n (row.getD (colM t x.co).toNat nilV) (row.getD 0 nilV)) by rw [dropIx, h1, h2]; rfl] at hst
        generalize row.getD (colM t x.co).toNat nilV = v at *
        have ki := indexKey_any x.n v (row.getD 0 nilV) hxn
        have kq := drop_any Q (indexKeyM x.n v (row.getD 0 nilV)) (by omega)
        (repeat' (first | (refine LW.is ?_; first | ((apply s_indexA; exact rfl; exact rfl; exact rfl; (first | omega | exact h0 | decide); (first | exact g1 | exact g2 | exact g0); exact rfl)) | ((apply s_call0; exact rfl; exact kf; exact rfl; exact rfl)) | (refine s_nil ?_) | (apply s_mvIv; exact rfl; exact rfl) | (apply s_asIv; exact rfl; exact rfl) | (apply s_fieldP; exact rfl; exact rfl; exact rfl) | (apply s_load1P; exact rfl; exact rfl; exact rfl; (apply n_some; exact rfl; (first | exact nIm rfl | exact nSl rfl | exact nIv rfl | exact nRow rfl | exact nNil rfl | exact nPtr rfl | exact nBsh rfl | exact nBsl rfl | exact nAny rfl | exact rfl))) | (apply s_loadAP; exact rfl; exact rfl; exact rfl; (focus repeat' (first | exact nl_nil rfl | (apply nl_cons; exact rfl) | exact nIm rfl | exact nSl rfl | exact nIv rfl | exact nRow rfl | exact nNil rfl | exact nPtr rfl | exact nBsh rfl | exact nBsl rfl | exact nAny rfl | exact nIIm rfl | exact nISl rfl | exact rfl)); exact rfl) | (apply s_loadAE; exact rfl; exact rfl; (focus repeat' (first | exact nl_nil rfl | (apply nl_cons; exact rfl) | exact nIm rfl | exact nSl rfl | exact nIv rfl | exact nRow rfl | exact nNil rfl | exact nPtr rfl | exact nBsh rfl | exact nBsl rfl | exact nAny rfl | exact nIIm rfl | exact nISl rfl | exact rfl)); exact rfl) | (apply s_lssI; exact rfl; exact rfl; exact rfl) | (apply s_geqI; exact rfl; exact rfl; exact rfl) | (apply s_eqlS; exact rfl; exact rfl; exact rfl) | (apply s_alloc; exact rfl; exact rfl; (focus repeat' (first | exact nl_nil rfl | (apply nl_cons; exact rfl) | exact nIm rfl | exact nSl rfl | exact nIv rfl | exact nRow rfl | exact nNil rfl | exact nPtr rfl | exact nBsh rfl | exact nBsl rfl | exact nAny rfl | exact nIIm rfl | exact nISl rfl | exact rfl)); exact rfl; exact rfl) | (apply s_store; exact rfl; exact rfl; exact rfl; exact rfl; exact rfl; exact rfl; (focus repeat' (first | exact nl_nil rfl | (apply nl_cons; exact rfl) | exact nIm rfl | exact nSl rfl | exact nIv rfl | exact nRow rfl | exact nNil rfl | exact nPtr rfl | exact nBsh rfl | exact nBsl rfl | exact nAny rfl | exact nIIm rfl | exact nISl rfl | exact rfl))) | (apply s_addI; exact rfl; exact rfl; exact rfl; (first | omega | decide | (dsimp only; omega)); (first | omega | decide | (dsimp only; omega))) | (apply s_gdo; exact rfl; exact rfl; (first | exact rfl | assumption)) | (apply s_pickTIv; exact rfl; exact rfl; (first | exact rfl | assumption); exact rfl)) | (refine DR.is ?_; first | ((apply d_indexA; exact rfl; exact rfl; exact rfl; (first | omega | exact h0 | decide); (first | exact g1 | exact g2 | exact g0); exact rfl)) | ((apply d_call0; exact rfl; exact ki; exact rfl; exact rfl)) | ((apply d_call0; exact rfl; exact kq; exact rfl; exact rfl)) | (apply d_nil; kernel_rfl) | (apply d_mvIv; exact rfl; exact rfl) | (apply d_fieldP; exact rfl; exact rfl; exact rfl) | (apply d_load1P; exact rfl; exact rfl; exact rfl; (apply n_some; exact rfl; (first | exact nIm rfl | exact nSl rfl | exact nIv rfl | exact nRow rfl | exact nNil rfl | exact nPtr rfl | exact nBsh rfl | exact nBsl rfl | exact nAny rfl | exact rfl))) | (apply d_loadAP; exact rfl; exact rfl; exact rfl; (focus repeat' (first | exact nl_nil rfl | (apply nl_cons; exact rfl) | exact nIm rfl | exact nSl rfl | exact nIv rfl | exact nRow rfl | exact nNil rfl | exact nPtr rfl | exact nBsh rfl | exact nBsl rfl | exact nAny rfl | exact nIIm rfl | exact nISl rfl | exact rfl)); exact rfl) | (apply d_loadAE; exact rfl; exact rfl; (focus repeat' (first | exact nl_nil rfl | (apply nl_cons; exact rfl) | exact nIm rfl | exact nSl rfl | exact nIv rfl | exact nRow rfl | exact nNil rfl | exact nPtr rfl | exact nBsh rfl | exact nBsl rfl | exact nAny rfl | exact nIIm rfl | exact nISl rfl | exact rfl)); exact rfl) | (apply d_store; exact rfl; exact rfl; exact rfl; exact rfl; exact rfl; exact rfl; (focus repeat' (first | exact nl_nil rfl | (apply nl_cons; exact rfl) | exact nIm rfl | exact nSl rfl | exact nIv rfl | exact nRow rfl | exact nNil rfl | exact nPtr rfl | exact nBsh rfl | exact nBsl rfl | exact nAny rfl | exact nIIm rfl | exact nISl rfl | exact rfl)))) | (refine c_seq ?_) | (refine L.block ?_) | (refine s_region ?_) | (refine d_region ?_) | (refine L.thenN ?_) | (refine L.inN ?_) | (refine L.skip ?_) | (apply c_condT; exact rfl; (first | exact rfl | assumption))))
        refine hK _ (i + 1) trivial (by omega) ?_
        rw [hst]
        (refine Wk.mk' (by intro id h; cases h) ?_ ?_ ?_ <;> repeat' (first | exact WkF.nil | exact WkB.nil | exact WkT.nil | (refine WkF.cons rfl (Sub.refl _) ?_) | (refine WkB.cons rfl rfl (Subs.refl _) ?_) | (refine WkT.cons rfl ?_)))
end Go.Proofs.YthkobnpogigkiaaDoor
/- Ways to rows: what plan.Rows computes. Conditions: how much there is of what comes in. -/
namespace Go.Proofs.YthkobnpogigkiaaDoor
open Go.Abs
attribute [local irreducible] L Code.wp bodyPost Exit.then Exit.inBlock
set_option linter.unusedVariables false
set_option linter.unusedSimpArgs false
def rowC (r : List Val) : List IV := [.sl (r.map Val.c)]
def entryM (w : Way) (k : Str) : Option (List Val) := match valsM (k.drop (if (k.length : Int) < ((entriesK w.i).length : Int) then (k.length : Int) else ((entriesK w.i).length : Int)).toNat) with
  | some l => if l.length = 2 then some l else none
  | none => none
def rowOf (t : Tab) (s : Str) : Option (List Val) := match valsM s with
  | some l => if l.length = t.cols.length then some l else none
  | none => none
def pickR (ps : List Pg) (t : Tab) (w : Way) (x : Pr) : Option (List Val) :=
  if w.i = [] then rowOf t x.2 else match entryM w x.1 with
    | some l => rowOf t (getM ps (rowKeyM t.n (l.getD 1 nilV))).1
    | none => none
def rowsT (ps : List Pg) (t : Tab) (w : Way) : List (List Val) := (rangeM ps w.lo w.hi).filterMap (pickR ps t w)
theorem filterMap_step {α β : Type} (f : α → Option β) {l : List α} {i : Nat} {x : α} (h : l[i]? = some x) : (l.take (i + 1)).filterMap f = (l.take i).filterMap f ++ (f x).toList := by
  rw [List.take_add_one, h, List.filterMap_append]
  cases hp : f x <;> simp [hp]
theorem filterMap_len {α β : Type} (f : α → Option β) (l : List α) (i : Nat) : ((l.take i).filterMap f).length ≤ l.length := Nat.le_trans (List.length_filterMap_le _ _) (by simp; omega)
theorem fromP_sub {ps : List Pg} {i k : Nat} {x : Pr} (h : x ∈ fromP ps i k) : x ∈ flatP ps := by
  unfold fromP at h
  cases hp : ps[i]? with
  | none => rw [hp] at h; simp at h
  | some p =>
    rw [hp] at h
    rw [flat_at hp]
    rcases List.mem_append.1 h with h | h
    · exact List.mem_append.2 (.inr (List.mem_append.2 (.inl (List.mem_of_mem_drop h))))
    · exact List.mem_append.2 (.inr (List.mem_append.2 (.inr h)))
theorem range_sub {ps : List Pg} {lo hi : Str} {x : Pr} (h : x ∈ rangeM ps lo hi) : x ∈ flatP ps := by
  unfold rangeM at h
  split at h
  · exact fromP_sub (List.takeWhile_subset _ h)
  · simp at h
theorem get_sub (ps : List Pg) (k : Str) : (getM ps k).1 = [] ∨ ∃ x ∈ flatP ps, x.2 = (getM ps k).1 := by
  cases hg : goodTree ps with
  | false => left; simp [getM, hg]
  | true =>
    rw [get_flat hg, findF]
    cases hf : (flatP ps).find? (fun x => x.1 == k) with
    | none => left; rfl
    | some x => right; exact ⟨x, List.mem_of_find?_eq_some hf, rfl⟩
def SmallT (ps : List Pg) : Prop := ∀ x ∈ flatP ps, x.1.length ≤ 4398046511104 ∧ x.2.length ≤ 4398046511104
set_option maxRecDepth 100000 in
set_option maxHeartbeats 8000000 in
theorem rowsT_any (ps : List Pg) (t : Tab) (w : Way) (hps : ps.length ≤ 1000000000000) (hsm : SmallT ps) (htn : t.n.length ≤ 140737488355328) (hwi : w.i.length ≤ 140737488355328) :
    CallA Tryd.prog 19 [.agg [.iv (.sl (ps.map Pg.c))], .agg (t.c.map .iv), .agg (w.c.map .iv)] [] [] [] (.iv (.sl ((rowsT ps t w).map rowC))) := by
  have kr := range_any ps w.lo w.hi (by omega)
  have hR : ∀ x ∈ rangeM ps w.lo w.hi, x.1.length ≤ 4398046511104 ∧ x.2.length ≤ 4398046511104 := fun x hx => hsm x (range_sub hx)
  have hl := range_len ps w.lo w.hi
  unfold rowsT
  generalize rangeM ps w.lo w.hi = R at *
  refine CallA.intro _ Tryd.func19 rfl Tryd.ntmps19 rfl (fun w0 E0 => ?_)
  (repeat' (first | (refine LW.is ?_; first | ((apply s_call0; exact rfl; exact kr; exact rfl; exact rfl)) | (refine s_nil ?_) | (apply s_mvIv; exact rfl; exact rfl) | (apply s_mvTup; exact rfl; exact rfl) | (apply s_asIv; exact rfl; exact rfl) | (apply s_asNil; exact rfl; exact rfl) | (apply s_fieldP; exact rfl; exact rfl; exact rfl) | (apply s_load1P; exact rfl; exact rfl; exact rfl; (apply n_some; exact rfl; (first | exact nIm rfl | exact nSl rfl | exact nIv rfl | exact nRow rfl | exact nNil rfl | exact nPtr rfl | exact nBsh rfl | exact nBsl rfl | exact nAny rfl | exact rfl))) | (apply s_loadAP; exact rfl; exact rfl; exact rfl; (focus repeat' (first | exact nl_nil rfl | (apply nl_cons; exact rfl) | exact nIm rfl | exact nSl rfl | exact nIv rfl | exact nRow rfl | exact nNil rfl | exact nPtr rfl | exact nBsh rfl | exact nBsl rfl | exact nAny rfl | exact nIIm rfl | exact nISl rfl | exact rfl)); exact rfl) | (apply s_lenSl; exact rfl; exact rfl) | (apply s_extract; exact rfl; exact rfl; (apply n_some; exact rfl; (first | exact nIm rfl | exact nSl rfl | exact nIv rfl | exact nRow rfl | exact nNil rfl | exact nPtr rfl | exact nBsh rfl | exact nBsl rfl | exact nAny rfl | exact rfl))) | (apply s_box; exact rfl; exact rfl; exact rfl; (focus repeat' (first | exact nl_nil rfl | (apply nl_cons; exact rfl) | exact nIm rfl | exact nSl rfl | exact nIv rfl | exact nRow rfl | exact nNil rfl | exact nPtr rfl | exact nBsh rfl | exact nBsl rfl | exact nAny rfl | exact nIIm rfl | exact nISl rfl | exact rfl)); exact rfl; exact rfl)) | (refine c_seq ?_) | (refine L.block ?_) | (refine s_region ?_) | (refine L.thenN ?_)))
  refine L.adopt 9 (s := 9) (t := 37) (k := 1) rfl rfl rfl ?_
  refine L.loopP (ι := Nat) (fun i => ⟨[(28, aI (i : Int)), (27, aI ((R.map fun x => Str.c x.1).length : Int)), (7, .iv (.sl (R.map fun x => Str.c x.1))), (8, .iv (.sl (R.map fun x => Str.c x.2))), (9, .row 9 (((R.take i).filterMap (pickR ps t w)).map rowC)), (3, .ptr 3 0), (4, .ptr 4 0), (5, .ptr 5 0)], [(3, ⟨61, .l [.iv (.sl (ps.map Pg.c))]⟩), (4, ⟨43, .l [aS t.n, .iv (.sl (t.cols.map Col.c))]⟩), (5, ⟨66, .l [aS w.i, aS w.lo, aS w.hi]⟩)], [(9, ⟨37, 1⟩)]⟩) (fun i => R.length - i) (fun i => True) (i0 := 0) ?_ trivial ?_
  · (refine Wk.mk' (by intro id h; cases h) ?_ ?_ ?_ <;> repeat' (first | exact WkF.nil | exact WkB.nil | exact WkT.nil | (refine WkF.cons rfl (Sub.refl _) ?_) | (refine WkB.cons rfl rfl (Subs.refl _) ?_) | (refine WkT.cons rfl ?_)))
  intro i _ K hK
  cases hx : R[i]? with
  | none =>
    have hlt := ltF (l := R.map fun x => Str.c x.1) (getFN hx)
    rw [take_all hx]
    (repeat' (first | (refine LW.is ?_; first | (refine s_nil ?_) | (apply s_mvRow; exact rfl; exact rfl) | (apply s_asRow; exact rfl; exact rfl) | (apply s_lssI; exact rfl; exact rfl; exact rfl)) | (refine c_seq ?_) | (refine s_region ?_) | (refine L.thenN ?_) | (refine L.thenE ?_) | (refine L.inE ?_) | (refine L.ret ?_) | (refine L.exit ?_) | (apply c_condF; exact rfl; (first | exact rfl | assumption))))
    all_goals (first | (apply L.ends1; exact rfl; exact rfl; exact rfl) | (apply L.ends2; exact rfl; exact rfl; exact rfl) | (apply L.ends3; exact rfl; exact rfl; exact rfl) | (apply L.ends1A; exact rfl; exact rfl; exact rfl) | (apply L.ends2A; exact rfl; exact rfl; exact rfl))
    all_goals rfl
  | some x =>
    have hlt := ltT (l := R.map fun x => Str.c x.1) (getF (f := fun x => Str.c x.1) hx)
    have hlt' := ltN hx
    have g1 : (R.map fun x => Str.c x.1)[((i : Nat) : Int).toNat]? = some [S x.1] := by rw [Int.toNat_natCast, List.getElem?_map, hx]; rfl
    have g2 : (R.map fun x => Str.c x.2)[((i : Nat) : Int).toNat]? = some [S x.2] := by rw [Int.toNat_natCast, List.getElem?_map, hx]; rfl
    have hst := filterMap_step (pickR ps t w) hx
    have hfl := filterMap_len (pickR ps t w) R i
    obtain ⟨hx1, hx2⟩ := hR x (List.mem_of_getElem? hx)
    have bm : (((R.take i).filterMap (pickR ps t w)).map rowC).length + 1 ≤ maxLen := by rw [maxL, List.length_map]; omega
    have bb : ((((R.take i).filterMap (pickR ps t w)).map rowC).length + 1) * 24 ≤ 225000000000000 := by rw [List.length_map]; omega
    generalize hF : (R.take i).filterMap (pickR ps t w) = F at *
    clear hF
    by_cases hw : w.i = []
    · have q1 : (!(w.i == [])) = false := by rw [hw]; rfl
      have hp : pickR ps t w x = rowOf t x.2 := by rw [pickR, if_pos hw]
      rw [hp] at hst
      have kv := vals_any x.2 (by omega)
      cases hu : valsM (x.2) with
      | none =>
        rw [show valsR (x.2) = ([], 1) by rw [valsR, hu]] at kv
        rw [show rowOf t (x.2) = none by rw [rowOf, hu]] at hst
        (repeat' (first | (refine LW.is ?_; first | ((apply s_indexA; exact rfl; exact rfl; exact rfl; omega; (first | exact g1 | exact g2); exact rfl)) | ((apply s_call0; exact rfl; exact kv; exact rfl; exact rfl)) | (refine s_nil ?_) | (apply s_mvIv; exact rfl; exact rfl) | (apply s_mvTup; exact rfl; exact rfl) | (apply s_asIv; exact rfl; exact rfl) | (apply s_fieldP; exact rfl; exact rfl; exact rfl) | (apply s_load1P; exact rfl; exact rfl; exact rfl; (apply n_some; exact rfl; (first | exact nIm rfl | exact nSl rfl | exact nIv rfl | exact nRow rfl | exact nNil rfl | exact nPtr rfl | exact nBsh rfl | exact nBsl rfl | exact nAny rfl | exact rfl))) | (apply s_load1E; exact rfl; exact rfl; exact rfl) | (apply s_eqlI; exact rfl; exact rfl; exact rfl) | (apply s_lssI; exact rfl; exact rfl; exact rfl) | (apply s_neqS; exact rfl; exact rfl; exact rfl) | (apply s_extract; exact rfl; exact rfl; (apply n_some; exact rfl; (first | exact nIm rfl | exact nSl rfl | exact nIv rfl | exact nRow rfl | exact nNil rfl | exact nPtr rfl | exact nBsh rfl | exact nBsl rfl | exact nAny rfl | exact rfl))) | (apply s_addI; exact rfl; exact rfl; exact rfl; (first | omega | decide | (dsimp only; omega)); (first | omega | decide | (dsimp only; omega))) | (apply s_gskipT; exact rfl; exact rfl; exact rfl; (first | exact rfl | assumption)) | (apply s_pickFIv; exact rfl; exact rfl; (first | exact rfl | assumption); exact rfl)) | (refine c_seq ?_) | (refine L.block ?_) | (refine s_region ?_) | (refine L.thenN ?_) | (refine L.inN ?_) | (refine L.skip ?_) | (apply c_condT; exact rfl; (first | exact rfl | assumption)) | (apply c_condF; exact rfl; (first | exact rfl | assumption))))
        refine hK _ (i + 1) trivial (by omega) ?_
        rw [hst, show (Option.toList (none : Option (List Val))) = [] from rfl, List.append_nil]
        (refine Wk.mk' (by intro id h; cases h) ?_ ?_ ?_ <;> repeat' (first | exact WkF.nil | exact WkB.nil | exact WkT.nil | (refine WkF.cons rfl (Sub.refl _) ?_) | (refine WkB.cons rfl rfl (Subs.refl _) ?_) | (refine WkT.cons rfl ?_)))
      | some r =>
        rw [show valsR (x.2) = (r, 0) by rw [valsR, hu]] at kv
        by_cases hrl : r.length = t.cols.length
        · have q3 : ((((r.map Val.c).length : Nat) : Int) == (((t.cols.map Col.c).length : Nat) : Int)) = true := by simp [hrl]
          rw [show rowOf t (x.2) = some r by rw [rowOf, hu]; exact if_pos hrl] at hst
          (repeat' (first | (refine LW.is ?_; first | ((apply s_append; exact rfl; exact rfl; exact rfl; exact rfl; (focus repeat' (first | exact len_nil | apply len_app | (refine len_map (fun x => rfl)) | (refine len_cons rfl ?_) | exact len_chunks rfl | assumption)); (focus repeat' (first | exact len_nil | apply len_app | (refine len_map (fun x => rfl)) | (refine len_cons rfl ?_) | exact len_chunks rfl | assumption)); exact bm; exact bb; exact rfl; exact rfl)) | ((apply s_indexA; exact rfl; exact rfl; exact rfl; omega; (first | exact g1 | exact g2); exact rfl)) | ((apply s_call0; exact rfl; exact kv; exact rfl; exact rfl)) | (refine s_nil ?_) | (apply s_mvIv; exact rfl; exact rfl) | (apply s_mvRow; exact rfl; exact rfl) | (apply s_mvTup; exact rfl; exact rfl) | (apply s_asIv; exact rfl; exact rfl) | (apply s_asRow; exact rfl; exact rfl) | (apply s_fieldP; exact rfl; exact rfl; exact rfl) | (apply s_load1P; exact rfl; exact rfl; exact rfl; (apply n_some; exact rfl; (first | exact nIm rfl | exact nSl rfl | exact nIv rfl | exact nRow rfl | exact nNil rfl | exact nPtr rfl | exact nBsh rfl | exact nBsl rfl | exact nAny rfl | exact rfl))) | (apply s_load1E; exact rfl; exact rfl; exact rfl) | (apply s_lenSl; exact rfl; exact rfl) | (apply s_eqlI; exact rfl; exact rfl; exact rfl) | (apply s_lssI; exact rfl; exact rfl; exact rfl) | (apply s_neqS; exact rfl; exact rfl; exact rfl) | (apply s_extract; exact rfl; exact rfl; (apply n_some; exact rfl; (first | exact nIm rfl | exact nSl rfl | exact nIv rfl | exact nRow rfl | exact nNil rfl | exact nPtr rfl | exact nBsh rfl | exact nBsl rfl | exact nAny rfl | exact rfl))) | (apply s_bslice; exact rfl; exact rfl; exact rfl; exact rfl; exact rfl; (apply n_some; exact rfl; (focus repeat' (first | exact nl_nil rfl | (apply nl_cons; exact rfl) | exact nIm rfl | exact nSl rfl | exact nIv rfl | exact nRow rfl | exact nNil rfl | exact nPtr rfl | exact nBsh rfl | exact nBsl rfl | exact nAny rfl | exact nIIm rfl | exact nISl rfl | exact rfl))); (apply n_some; exact rfl; (focus repeat' (first | exact nl_nil rfl | (apply nl_cons; exact rfl) | exact nIm rfl | exact nSl rfl | exact nIv rfl | exact nRow rfl | exact nNil rfl | exact nPtr rfl | exact nBsh rfl | exact nBsl rfl | exact nAny rfl | exact nIIm rfl | exact nISl rfl | exact rfl))); exact rfl; (focus repeat' (first | exact nl_nil rfl | (apply nl_cons; exact rfl) | exact nIm rfl | exact nSl rfl | exact nIv rfl | exact nRow rfl | exact nNil rfl | exact nPtr rfl | exact nBsh rfl | exact nBsl rfl | exact nAny rfl | exact nIIm rfl | exact nISl rfl | exact rfl)); exact rfl) | (apply s_addI; exact rfl; exact rfl; exact rfl; (first | omega | decide | (dsimp only; omega)); (first | omega | decide | (dsimp only; omega))) | (apply s_gdo; exact rfl; exact rfl; (first | exact rfl | assumption)) | (apply s_pickTIv; exact rfl; exact rfl; (first | exact rfl | assumption); exact rfl)) | (refine c_seq ?_) | (refine L.block ?_) | (refine s_region ?_) | (refine L.thenN ?_) | (refine L.inN ?_) | (refine L.skip ?_) | (apply c_condT; exact rfl; (first | exact rfl | assumption)) | (apply c_condF; exact rfl; (first | exact rfl | assumption))))
          refine L.onlyS [28, 27, 7, 8, 9, 3, 4, 5] [3, 4, 5] rfl ?_
          refine L.retok 9 94 9 rfl rfl rfl rfl ?_
          refine hK _ (i + 1) trivial (by omega) ?_
          refine Wk.mk' (by intro id h; cases h) (.cons rfl (Sub.refl _) (.cons rfl (Sub.refl _) (.cons rfl (Sub.refl _) (.cons rfl (Sub.refl _) (.cons rfl (Sub.of_eq (congrArg (AV.row 9) (by rw [hst]; simp [rowC]))) (.cons rfl (Sub.refl _) (.cons rfl (Sub.refl _) (.cons rfl (Sub.refl _) .nil)))))))) (.cons rfl rfl (Subs.refl _) (.cons rfl rfl (Subs.refl _) (.cons rfl rfl (Subs.refl _) .nil))) (.cons rfl .nil)
        · have q3 : ((((r.map Val.c).length : Nat) : Int) == (((t.cols.map Col.c).length : Nat) : Int)) = false := by simp; omega
          rw [show rowOf t (x.2) = none by rw [rowOf, hu]; exact if_neg hrl] at hst
          (repeat' (first | (refine LW.is ?_; first | ((apply s_indexA; exact rfl; exact rfl; exact rfl; omega; (first | exact g1 | exact g2); exact rfl)) | ((apply s_call0; exact rfl; exact kv; exact rfl; exact rfl)) | (refine s_nil ?_) | (apply s_mvIv; exact rfl; exact rfl) | (apply s_mvTup; exact rfl; exact rfl) | (apply s_asIv; exact rfl; exact rfl) | (apply s_fieldP; exact rfl; exact rfl; exact rfl) | (apply s_load1P; exact rfl; exact rfl; exact rfl; (apply n_some; exact rfl; (first | exact nIm rfl | exact nSl rfl | exact nIv rfl | exact nRow rfl | exact nNil rfl | exact nPtr rfl | exact nBsh rfl | exact nBsl rfl | exact nAny rfl | exact rfl))) | (apply s_load1E; exact rfl; exact rfl; exact rfl) | (apply s_lenSl; exact rfl; exact rfl) | (apply s_eqlI; exact rfl; exact rfl; exact rfl) | (apply s_lssI; exact rfl; exact rfl; exact rfl) | (apply s_neqS; exact rfl; exact rfl; exact rfl) | (apply s_extract; exact rfl; exact rfl; (apply n_some; exact rfl; (first | exact nIm rfl | exact nSl rfl | exact nIv rfl | exact nRow rfl | exact nNil rfl | exact nPtr rfl | exact nBsh rfl | exact nBsl rfl | exact nAny rfl | exact rfl))) | (apply s_addI; exact rfl; exact rfl; exact rfl; (first | omega | decide | (dsimp only; omega)); (first | omega | decide | (dsimp only; omega))) | (apply s_gdo; exact rfl; exact rfl; (first | exact rfl | assumption)) | (apply s_pickTIv; exact rfl; exact rfl; (first | exact rfl | assumption); exact rfl)) | (refine c_seq ?_) | (refine L.block ?_) | (refine s_region ?_) | (refine L.thenN ?_) | (refine L.inN ?_) | (refine L.skip ?_) | (apply c_condT; exact rfl; (first | exact rfl | assumption)) | (apply c_condF; exact rfl; (first | exact rfl | assumption))))
          refine hK _ (i + 1) trivial (by omega) ?_
          rw [hst, show (Option.toList (none : Option (List Val))) = [] from rfl, List.append_nil]
          (refine Wk.mk' (by intro id h; cases h) ?_ ?_ ?_ <;> repeat' (first | exact WkF.nil | exact WkB.nil | exact WkT.nil | (refine WkF.cons rfl (Sub.refl _) ?_) | (refine WkB.cons rfl rfl (Subs.refl _) ?_) | (refine WkT.cons rfl ?_)))
    · have q1 : (!(w.i == [])) = true := by simp [hw]
      have ke := entries_any w.i hwi
      have kv := vals_any (x.1.drop (if (x.1.length : Int) < ((entriesK w.i).length : Int) then (x.1.length : Int) else ((entriesK w.i).length : Int)).toNat) (by rw [List.length_drop]; omega)
      have d0 : 0 ≤ (if (x.1.length : Int) < ((entriesK w.i).length : Int) then (x.1.length : Int) else ((entriesK w.i).length : Int)) := by split <;> omega
      have d1 : (if (x.1.length : Int) < ((entriesK w.i).length : Int) then (x.1.length : Int) else ((entriesK w.i).length : Int)) ≤ (x.1.length : Int) := by split <;> omega
      have hp : pickR ps t w x = match entryM w x.1 with | some l => rowOf t (getM ps (rowKeyM t.n (l.getD 1 nilV))).1 | none => none := by rw [pickR, if_neg hw]
      rw [hp, entryM] at hst
      generalize hdr : x.1.drop (if (x.1.length : Int) < ((entriesK w.i).length : Int) then (x.1.length : Int) else ((entriesK w.i).length : Int)).toNat = dr at *
      cases hv : valsM dr with
      | none =>
        rw [show valsR dr = ([], 1) by rw [valsR, hv]] at kv
        rw [hv] at hst
        (repeat' (first | (refine LW.is ?_; first | ((apply s_indexA; exact rfl; exact rfl; exact rfl; omega; (first | exact g1 | exact g2); exact rfl)) | ((apply s_call0; exact rfl; exact ke; exact rfl; exact rfl)) | (refine s_nil ?_) | (apply s_mvIv; exact rfl; exact rfl) | (apply s_asIv; exact rfl; exact rfl) | (apply s_fieldP; exact rfl; exact rfl; exact rfl) | (apply s_load1P; exact rfl; exact rfl; exact rfl; (apply n_some; exact rfl; (first | exact nIm rfl | exact nSl rfl | exact nIv rfl | exact nRow rfl | exact nNil rfl | exact nPtr rfl | exact nBsh rfl | exact nBsl rfl | exact nAny rfl | exact rfl))) | (apply s_load1E; exact rfl; exact rfl; exact rfl) | (apply s_lenS; exact rfl; exact rfl) | (apply s_neqI; exact rfl; exact rfl; exact rfl) | (apply s_lssI; exact rfl; exact rfl; exact rfl) | (apply s_neqS; exact rfl; exact rfl; exact rfl) | (apply s_addI; exact rfl; exact rfl; exact rfl; (first | omega | decide | (dsimp only; omega)); (first | omega | decide | (dsimp only; omega))) | (apply s_gskipF; exact rfl; exact rfl; exact rfl; (first | exact rfl | assumption)) | (apply s_pickTIv; exact rfl; exact rfl; (first | exact rfl | assumption); exact rfl)) | (refine DR.is ?_; first | ((apply d_indexA; exact rfl; exact rfl; exact rfl; omega; (first | exact g1 | exact g2); exact rfl)) | ((apply d_call0; exact rfl; exact kv; exact rfl; exact rfl)) | ((apply d_sliceSl; exact rfl; exact rfl; exact rfl; exact d0; exact d1; exact hdr)) | (apply d_nil; kernel_rfl) | (apply d_mvIv; exact rfl; exact rfl) | (apply d_mvTup; exact rfl; exact rfl) | (apply d_asIv; exact rfl; exact rfl) | (apply d_load1E; exact rfl; exact rfl; exact rfl) | (apply d_lenS; exact rfl; exact rfl) | (apply d_extract; exact rfl; exact rfl; (apply n_some; exact rfl; (first | exact nIm rfl | exact nSl rfl | exact nIv rfl | exact nRow rfl | exact nNil rfl | exact nPtr rfl | exact nBsh rfl | exact nBsl rfl | exact nAny rfl | exact rfl))) | (apply d_min2; exact rfl; exact rfl; exact rfl)) | (refine c_seq ?_) | (refine L.block ?_) | (refine s_region ?_) | (refine d_region ?_) | (refine L.thenN ?_) | (refine L.thenE ?_) | (refine L.inE ?_) | (refine L.exit ?_) | (refine L.skip ?_) | (apply c_condT; exact rfl; (first | exact rfl | assumption))))
        refine hK _ (i + 1) trivial (by omega) ?_
        rw [hst, show (Option.toList (none : Option (List Val))) = [] from rfl, List.append_nil]
        (refine Wk.mk' (by intro id h; cases h) ?_ ?_ ?_ <;> repeat' (first | exact WkF.nil | exact WkB.nil | exact WkT.nil | (refine WkF.cons rfl (Sub.refl _) ?_) | (refine WkB.cons rfl rfl (Subs.refl _) ?_) | (refine WkT.cons rfl ?_)))
      | some l =>
        rw [show valsR dr = (l, 0) by rw [valsR, hv]] at kv
        rw [hv] at hst
        by_cases hl2 : l.length = 2
        · have hst : (R.take (i + 1)).filterMap (pickR ps t w) = F ++ (rowOf t (getM ps (rowKeyM t.n (l.getD 1 nilV))).1).toList := by rw [hst]; simp only [if_pos hl2]
          have q2 : ((((l.map Val.c).length : Nat) : Int) != 2) = false := by simp [hl2]
          have g5 : (l.map Val.c)[(1 : Int).toNat]? = some [I (l.getD 1 nilV).k, I (l.getD 1 nilV).n, S (l.getD 1 nilV).s] := by rw [show (1 : Int).toNat = 1 from rfl, List.getElem?_map, getD_some nilV (show 1 < l.length by omega)]; rfl
          have kk := rowKey_any t.n (l.getD 1 nilV) htn
          have kg := get_any ps (rowKeyM t.n (l.getD 1 nilV)) (by omega)
          have hsz : (getM ps (rowKeyM t.n (l.getD 1 nilV))).1.length ≤ 4398046511104 := by
            rcases get_sub ps (rowKeyM t.n (l.getD 1 nilV)) with h | ⟨y, hy, h⟩
            · rw [h]; simp
            · rw [← h]; exact (hsm y hy).2
          generalize l.getD 1 nilV = id at *
          generalize getM ps (rowKeyM t.n id) = gt at *
          obtain ⟨gs, gb⟩ := gt
          dsimp only at hst hsz kg
          have kw := vals_any gs (by omega)
          cases hu : valsM (gs) with
          | none =>
            rw [show valsR (gs) = ([], 1) by rw [valsR, hu]] at kw
            rw [show rowOf t (gs) = none by rw [rowOf, hu]] at hst
            (repeat' (first | (refine LW.is ?_; first | ((apply s_indexA; exact rfl; exact rfl; exact rfl; omega; (first | exact g1 | exact g2); exact rfl)) | ((apply s_call0; exact rfl; exact ke; exact rfl; exact rfl)) | ((apply s_call0; exact rfl; exact kw; exact rfl; exact rfl)) | (refine s_nil ?_) | (apply s_mvIv; exact rfl; exact rfl) | (apply s_mvTup; exact rfl; exact rfl) | (apply s_asIv; exact rfl; exact rfl) | (apply s_fieldP; exact rfl; exact rfl; exact rfl) | (apply s_load1P; exact rfl; exact rfl; exact rfl; (apply n_some; exact rfl; (first | exact nIm rfl | exact nSl rfl | exact nIv rfl | exact nRow rfl | exact nNil rfl | exact nPtr rfl | exact nBsh rfl | exact nBsl rfl | exact nAny rfl | exact rfl))) | (apply s_load1E; exact rfl; exact rfl; exact rfl) | (apply s_lenS; exact rfl; exact rfl) | (apply s_lenSl; exact rfl; exact rfl) | (apply s_eqlI; exact rfl; exact rfl; exact rfl) | (apply s_neqI; exact rfl; exact rfl; exact rfl) | (apply s_lssI; exact rfl; exact rfl; exact rfl) | (apply s_neqS; exact rfl; exact rfl; exact rfl) | (apply s_extract; exact rfl; exact rfl; (apply n_some; exact rfl; (first | exact nIm rfl | exact nSl rfl | exact nIv rfl | exact nRow rfl | exact nNil rfl | exact nPtr rfl | exact nBsh rfl | exact nBsl rfl | exact nAny rfl | exact rfl))) | (apply s_addI; exact rfl; exact rfl; exact rfl; (first | omega | decide | (dsimp only; omega)); (first | omega | decide | (dsimp only; omega))) | (apply s_gdo; exact rfl; exact rfl; (first | exact rfl | assumption)) | (apply s_gskipT; exact rfl; exact rfl; exact rfl; (first | exact rfl | assumption)) | (apply s_pickFIv; exact rfl; exact rfl; (first | exact rfl | assumption); exact rfl)) | (refine DR.is ?_; first | ((apply d_indexA; exact rfl; exact rfl; exact rfl; omega; (first | exact g1 | exact g2); exact rfl)) | ((apply d_call0; exact rfl; exact kv; exact rfl; exact rfl)) | ((apply d_sliceSl; exact rfl; exact rfl; exact rfl; exact d0; exact d1; exact hdr)) | ((apply d_indexA; exact rfl; exact rfl; exact rfl; decide; exact g5; exact rfl)) | ((apply d_call0; exact rfl; exact kk; exact rfl; exact rfl)) | ((apply d_call0; exact rfl; exact kg; exact rfl; exact rfl)) | (apply d_nil; kernel_rfl) | (apply d_mvIv; exact rfl; exact rfl) | (apply d_mvTup; exact rfl; exact rfl) | (apply d_asIv; exact rfl; exact rfl) | (apply d_fieldP; exact rfl; exact rfl; exact rfl) | (apply d_load1P; exact rfl; exact rfl; exact rfl; (apply n_some; exact rfl; (first | exact nIm rfl | exact nSl rfl | exact nIv rfl | exact nRow rfl | exact nNil rfl | exact nPtr rfl | exact nBsh rfl | exact nBsl rfl | exact nAny rfl | exact rfl))) | (apply d_loadAP; exact rfl; exact rfl; exact rfl; (focus repeat' (first | exact nl_nil rfl | (apply nl_cons; exact rfl) | exact nIm rfl | exact nSl rfl | exact nIv rfl | exact nRow rfl | exact nNil rfl | exact nPtr rfl | exact nBsh rfl | exact nBsl rfl | exact nAny rfl | exact nIIm rfl | exact nISl rfl | exact rfl)); exact rfl) | (apply d_load1E; exact rfl; exact rfl; exact rfl) | (apply d_loadAE; exact rfl; exact rfl; (focus repeat' (first | exact nl_nil rfl | (apply nl_cons; exact rfl) | exact nIm rfl | exact nSl rfl | exact nIv rfl | exact nRow rfl | exact nNil rfl | exact nPtr rfl | exact nBsh rfl | exact nBsl rfl | exact nAny rfl | exact nIIm rfl | exact nISl rfl | exact rfl)); exact rfl) | (apply d_lenS; exact rfl; exact rfl) | (apply d_extract; exact rfl; exact rfl; (apply n_some; exact rfl; (first | exact nIm rfl | exact nSl rfl | exact nIv rfl | exact nRow rfl | exact nNil rfl | exact nPtr rfl | exact nBsh rfl | exact nBsl rfl | exact nAny rfl | exact rfl))) | (apply d_min2; exact rfl; exact rfl; exact rfl)) | (refine c_seq ?_) | (refine L.block ?_) | (refine s_region ?_) | (refine d_region ?_) | (refine L.thenN ?_) | (refine L.inN ?_) | (refine L.skip ?_) | (apply c_condT; exact rfl; (first | exact rfl | assumption)) | (apply c_condF; exact rfl; (first | exact rfl | assumption))))
            refine hK _ (i + 1) trivial (by omega) ?_
            rw [hst, show (Option.toList (none : Option (List Val))) = [] from rfl, List.append_nil]
            (refine Wk.mk' (by intro id h; cases h) ?_ ?_ ?_ <;> repeat' (first | exact WkF.nil | exact WkB.nil | exact WkT.nil | (refine WkF.cons rfl (Sub.refl _) ?_) | (refine WkB.cons rfl rfl (Subs.refl _) ?_) | (refine WkT.cons rfl ?_)))
          | some r =>
            rw [show valsR (gs) = (r, 0) by rw [valsR, hu]] at kw
            by_cases hrl : r.length = t.cols.length
            · have q3 : ((((r.map Val.c).length : Nat) : Int) == (((t.cols.map Col.c).length : Nat) : Int)) = true := by simp [hrl]
              rw [show rowOf t (gs) = some r by rw [rowOf, hu]; exact if_pos hrl] at hst
              (repeat' (first | (refine LW.is ?_; first | ((apply s_append; exact rfl; exact rfl; exact rfl; exact rfl; (focus repeat' (first | exact len_nil | apply len_app | (refine len_map (fun x => rfl)) | (refine len_cons rfl ?_) | exact len_chunks rfl | assumption)); (focus repeat' (first | exact len_nil | apply len_app | (refine len_map (fun x => rfl)) | (refine len_cons rfl ?_) | exact len_chunks rfl | assumption)); exact bm; exact bb; exact rfl; exact rfl)) | ((apply s_indexA; exact rfl; exact rfl; exact rfl; omega; (first | exact g1 | exact g2); exact rfl)) | ((apply s_call0; exact rfl; exact ke; exact rfl; exact rfl)) | ((apply s_call0; exact rfl; exact kw; exact rfl; exact rfl)) | (refine s_nil ?_) | (apply s_mvIv; exact rfl; exact rfl) | (apply s_mvRow; exact rfl; exact rfl) | (apply s_mvTup; exact rfl; exact rfl) | (apply s_asIv; exact rfl; exact rfl) | (apply s_asRow; exact rfl; exact rfl) | (apply s_fieldP; exact rfl; exact rfl; exact rfl) | (apply s_load1P; exact rfl; exact rfl; exact rfl; (apply n_some; exact rfl; (first | exact nIm rfl | exact nSl rfl | exact nIv rfl | exact nRow rfl | exact nNil rfl | exact nPtr rfl | exact nBsh rfl | exact nBsl rfl | exact nAny rfl | exact rfl))) | (apply s_load1E; exact rfl; exact rfl; exact rfl) | (apply s_lenS; exact rfl; exact rfl) | (apply s_lenSl; exact rfl; exact rfl) | (apply s_eqlI; exact rfl; exact rfl; exact rfl) | (apply s_neqI; exact rfl; exact rfl; exact rfl) | (apply s_lssI; exact rfl; exact rfl; exact rfl) | (apply s_neqS; exact rfl; exact rfl; exact rfl) | (apply s_extract; exact rfl; exact rfl; (apply n_some; exact rfl; (first | exact nIm rfl | exact nSl rfl | exact nIv rfl | exact nRow rfl | exact nNil rfl | exact nPtr rfl | exact nBsh rfl | exact nBsl rfl | exact nAny rfl | exact rfl))) | (apply s_bslice; exact rfl; exact rfl; exact rfl; exact rfl; exact rfl; (apply n_some; exact rfl; (focus repeat' (first | exact nl_nil rfl | (apply nl_cons; exact rfl) | exact nIm rfl | exact nSl rfl | exact nIv rfl | exact nRow rfl | exact nNil rfl | exact nPtr rfl | exact nBsh rfl | exact nBsl rfl | exact nAny rfl | exact nIIm rfl | exact nISl rfl | exact rfl))); (apply n_some; exact rfl; (focus repeat' (first | exact nl_nil rfl | (apply nl_cons; exact rfl) | exact nIm rfl | exact nSl rfl | exact nIv rfl | exact nRow rfl | exact nNil rfl | exact nPtr rfl | exact nBsh rfl | exact nBsl rfl | exact nAny rfl | exact nIIm rfl | exact nISl rfl | exact rfl))); exact rfl; (focus repeat' (first | exact nl_nil rfl | (apply nl_cons; exact rfl) | exact nIm rfl | exact nSl rfl | exact nIv rfl | exact nRow rfl | exact nNil rfl | exact nPtr rfl | exact nBsh rfl | exact nBsl rfl | exact nAny rfl | exact nIIm rfl | exact nISl rfl | exact rfl)); exact rfl) | (apply s_addI; exact rfl; exact rfl; exact rfl; (first | omega | decide | (dsimp only; omega)); (first | omega | decide | (dsimp only; omega))) | (apply s_gdo; exact rfl; exact rfl; (first | exact rfl | assumption)) | (apply s_pickTIv; exact rfl; exact rfl; (first | exact rfl | assumption); exact rfl) | (apply s_pickFIv; exact rfl; exact rfl; (first | exact rfl | assumption); exact rfl)) | (refine DR.is ?_; first | ((apply d_indexA; exact rfl; exact rfl; exact rfl; omega; (first | exact g1 | exact g2); exact rfl)) | ((apply d_call0; exact rfl; exact kv; exact rfl; exact rfl)) | ((apply d_sliceSl; exact rfl; exact rfl; exact rfl; exact d0; exact d1; exact hdr)) | ((apply d_indexA; exact rfl; exact rfl; exact rfl; decide; exact g5; exact rfl)) | ((apply d_call0; exact rfl; exact kk; exact rfl; exact rfl)) | ((apply d_call0; exact rfl; exact kg; exact rfl; exact rfl)) | (apply d_nil; kernel_rfl) | (apply d_mvIv; exact rfl; exact rfl) | (apply d_mvTup; exact rfl; exact rfl) | (apply d_asIv; exact rfl; exact rfl) | (apply d_fieldP; exact rfl; exact rfl; exact rfl) | (apply d_load1P; exact rfl; exact rfl; exact rfl; (apply n_some; exact rfl; (first | exact nIm rfl | exact nSl rfl | exact nIv rfl | exact nRow rfl | exact nNil rfl | exact nPtr rfl | exact nBsh rfl | exact nBsl rfl | exact nAny rfl | exact rfl))) | (apply d_loadAP; exact rfl; exact rfl; exact rfl; (focus repeat' (first | exact nl_nil rfl | (apply nl_cons; exact rfl) | exact nIm rfl | exact nSl rfl | exact nIv rfl | exact nRow rfl | exact nNil rfl | exact nPtr rfl | exact nBsh rfl | exact nBsl rfl | exact nAny rfl | exact nIIm rfl | exact nISl rfl | exact rfl)); exact rfl) | (apply d_load1E; exact rfl; exact rfl; exact rfl) | (apply d_loadAE; exact rfl; exact rfl; (focus repeat' (first | exact nl_nil rfl | (apply nl_cons; exact rfl) | exact nIm rfl | exact nSl rfl | exact nIv rfl | exact nRow rfl | exact nNil rfl | exact nPtr rfl | exact nBsh rfl | exact nBsl rfl | exact nAny rfl | exact nIIm rfl | exact nISl rfl | exact rfl)); exact rfl) | (apply d_lenS; exact rfl; exact rfl) | (apply d_extract; exact rfl; exact rfl; (apply n_some; exact rfl; (first | exact nIm rfl | exact nSl rfl | exact nIv rfl | exact nRow rfl | exact nNil rfl | exact nPtr rfl | exact nBsh rfl | exact nBsl rfl | exact nAny rfl | exact rfl))) | (apply d_min2; exact rfl; exact rfl; exact rfl)) | (refine c_seq ?_) | (refine L.block ?_) | (refine s_region ?_) | (refine d_region ?_) | (refine L.thenN ?_) | (refine L.inN ?_) | (refine L.skip ?_) | (apply c_condT; exact rfl; (first | exact rfl | assumption)) | (apply c_condF; exact rfl; (first | exact rfl | assumption))))
              refine L.onlyS [28, 27, 7, 8, 9, 3, 4, 5] [3, 4, 5] rfl ?_
              refine L.retok 9 94 9 rfl rfl rfl rfl ?_
              refine hK _ (i + 1) trivial (by omega) ?_
              refine Wk.mk' (by intro id h; cases h) (.cons rfl (Sub.refl _) (.cons rfl (Sub.refl _) (.cons rfl (Sub.refl _) (.cons rfl (Sub.refl _) (.cons rfl (Sub.of_eq (congrArg (AV.row 9) (by rw [hst]; simp [rowC]))) (.cons rfl (Sub.refl _) (.cons rfl (Sub.refl _) (.cons rfl (Sub.refl _) .nil)))))))) (.cons rfl rfl (Subs.refl _) (.cons rfl rfl (Subs.refl _) (.cons rfl rfl (Subs.refl _) .nil))) (.cons rfl .nil)
            · have q3 : ((((r.map Val.c).length : Nat) : Int) == (((t.cols.map Col.c).length : Nat) : Int)) = false := by simp; omega
              rw [show rowOf t (gs) = none by rw [rowOf, hu]; exact if_neg hrl] at hst
              (repeat' (first | (refine LW.is ?_; first | ((apply s_indexA; exact rfl; exact rfl; exact rfl; omega; (first | exact g1 | exact g2); exact rfl)) | ((apply s_call0; exact rfl; exact ke; exact rfl; exact rfl)) | ((apply s_call0; exact rfl; exact kw; exact rfl; exact rfl)) | (refine s_nil ?_) | (apply s_mvIv; exact rfl; exact rfl) | (apply s_mvTup; exact rfl; exact rfl) | (apply s_asIv; exact rfl; exact rfl) | (apply s_fieldP; exact rfl; exact rfl; exact rfl) | (apply s_load1P; exact rfl; exact rfl; exact rfl; (apply n_some; exact rfl; (first | exact nIm rfl | exact nSl rfl | exact nIv rfl | exact nRow rfl | exact nNil rfl | exact nPtr rfl | exact nBsh rfl | exact nBsl rfl | exact nAny rfl | exact rfl))) | (apply s_load1E; exact rfl; exact rfl; exact rfl) | (apply s_lenS; exact rfl; exact rfl) | (apply s_lenSl; exact rfl; exact rfl) | (apply s_eqlI; exact rfl; exact rfl; exact rfl) | (apply s_neqI; exact rfl; exact rfl; exact rfl) | (apply s_lssI; exact rfl; exact rfl; exact rfl) | (apply s_neqS; exact rfl; exact rfl; exact rfl) | (apply s_extract; exact rfl; exact rfl; (apply n_some; exact rfl; (first | exact nIm rfl | exact nSl rfl | exact nIv rfl | exact nRow rfl | exact nNil rfl | exact nPtr rfl | exact nBsh rfl | exact nBsl rfl | exact nAny rfl | exact rfl))) | (apply s_addI; exact rfl; exact rfl; exact rfl; (first | omega | decide | (dsimp only; omega)); (first | omega | decide | (dsimp only; omega))) | (apply s_gdo; exact rfl; exact rfl; (first | exact rfl | assumption)) | (apply s_pickTIv; exact rfl; exact rfl; (first | exact rfl | assumption); exact rfl) | (apply s_pickFIv; exact rfl; exact rfl; (first | exact rfl | assumption); exact rfl)) | (refine DR.is ?_; first | ((apply d_indexA; exact rfl; exact rfl; exact rfl; omega; (first | exact g1 | exact g2); exact rfl)) | ((apply d_call0; exact rfl; exact kv; exact rfl; exact rfl)) | ((apply d_sliceSl; exact rfl; exact rfl; exact rfl; exact d0; exact d1; exact hdr)) | ((apply d_indexA; exact rfl; exact rfl; exact rfl; decide; exact g5; exact rfl)) | ((apply d_call0; exact rfl; exact kk; exact rfl; exact rfl)) | ((apply d_call0; exact rfl; exact kg; exact rfl; exact rfl)) | (apply d_nil; kernel_rfl) | (apply d_mvIv; exact rfl; exact rfl) | (apply d_mvTup; exact rfl; exact rfl) | (apply d_asIv; exact rfl; exact rfl) | (apply d_fieldP; exact rfl; exact rfl; exact rfl) | (apply d_load1P; exact rfl; exact rfl; exact rfl; (apply n_some; exact rfl; (first | exact nIm rfl | exact nSl rfl | exact nIv rfl | exact nRow rfl | exact nNil rfl | exact nPtr rfl | exact nBsh rfl | exact nBsl rfl | exact nAny rfl | exact rfl))) | (apply d_loadAP; exact rfl; exact rfl; exact rfl; (focus repeat' (first | exact nl_nil rfl | (apply nl_cons; exact rfl) | exact nIm rfl | exact nSl rfl | exact nIv rfl | exact nRow rfl | exact nNil rfl | exact nPtr rfl | exact nBsh rfl | exact nBsl rfl | exact nAny rfl | exact nIIm rfl | exact nISl rfl | exact rfl)); exact rfl) | (apply d_load1E; exact rfl; exact rfl; exact rfl) | (apply d_loadAE; exact rfl; exact rfl; (focus repeat' (first | exact nl_nil rfl | (apply nl_cons; exact rfl) | exact nIm rfl | exact nSl rfl | exact nIv rfl | exact nRow rfl | exact nNil rfl | exact nPtr rfl | exact nBsh rfl | exact nBsl rfl | exact nAny rfl | exact nIIm rfl | exact nISl rfl | exact rfl)); exact rfl) | (apply d_lenS; exact rfl; exact rfl) | (apply d_extract; exact rfl; exact rfl; (apply n_some; exact rfl; (first | exact nIm rfl | exact nSl rfl | exact nIv rfl | exact nRow rfl | exact nNil rfl | exact nPtr rfl | exact nBsh rfl | exact nBsl rfl | exact nAny rfl | exact rfl))) | (apply d_min2; exact rfl; exact rfl; exact rfl)) | (refine c_seq ?_) | (refine L.block ?_) | (refine s_region ?_) | (refine d_region ?_) | (refine L.thenN ?_) | (refine L.inN ?_) | (refine L.skip ?_) | (apply c_condT; exact rfl; (first | exact rfl | assumption)) | (apply c_condF; exact rfl; (first | exact rfl | assumption))))
              refine hK _ (i + 1) trivial (by omega) ?_
              rw [hst, show (Option.toList (none : Option (List Val))) = [] from rfl, List.append_nil]
              (refine Wk.mk' (by intro id h; cases h) ?_ ?_ ?_ <;> repeat' (first | exact WkF.nil | exact WkB.nil | exact WkT.nil | (refine WkF.cons rfl (Sub.refl _) ?_) | (refine WkB.cons rfl rfl (Subs.refl _) ?_) | (refine WkT.cons rfl ?_)))
        · have hst : (R.take (i + 1)).filterMap (pickR ps t w) = F ++ (none : Option (List Val)).toList := by rw [hst]; simp only [if_neg hl2]
          have q2 : ((((l.map Val.c).length : Nat) : Int) != 2) = true := by simp; omega
          (repeat' (first | (refine LW.is ?_; first | ((apply s_indexA; exact rfl; exact rfl; exact rfl; omega; (first | exact g1 | exact g2); exact rfl)) | ((apply s_call0; exact rfl; exact ke; exact rfl; exact rfl)) | (refine s_nil ?_) | (apply s_mvIv; exact rfl; exact rfl) | (apply s_asIv; exact rfl; exact rfl) | (apply s_fieldP; exact rfl; exact rfl; exact rfl) | (apply s_load1P; exact rfl; exact rfl; exact rfl; (apply n_some; exact rfl; (first | exact nIm rfl | exact nSl rfl | exact nIv rfl | exact nRow rfl | exact nNil rfl | exact nPtr rfl | exact nBsh rfl | exact nBsl rfl | exact nAny rfl | exact rfl))) | (apply s_load1E; exact rfl; exact rfl; exact rfl) | (apply s_lenS; exact rfl; exact rfl) | (apply s_lenSl; exact rfl; exact rfl) | (apply s_neqI; exact rfl; exact rfl; exact rfl) | (apply s_lssI; exact rfl; exact rfl; exact rfl) | (apply s_neqS; exact rfl; exact rfl; exact rfl) | (apply s_addI; exact rfl; exact rfl; exact rfl; (first | omega | decide | (dsimp only; omega)); (first | omega | decide | (dsimp only; omega))) | (apply s_gdo; exact rfl; exact rfl; (first | exact rfl | assumption)) | (apply s_pickFIv; exact rfl; exact rfl; (first | exact rfl | assumption); exact rfl)) | (refine DR.is ?_; first | ((apply d_indexA; exact rfl; exact rfl; exact rfl; omega; (first | exact g1 | exact g2); exact rfl)) | ((apply d_call0; exact rfl; exact kv; exact rfl; exact rfl)) | ((apply d_sliceSl; exact rfl; exact rfl; exact rfl; exact d0; exact d1; exact hdr)) | (apply d_nil; kernel_rfl) | (apply d_mvIv; exact rfl; exact rfl) | (apply d_mvTup; exact rfl; exact rfl) | (apply d_asIv; exact rfl; exact rfl) | (apply d_load1E; exact rfl; exact rfl; exact rfl) | (apply d_lenS; exact rfl; exact rfl) | (apply d_extract; exact rfl; exact rfl; (apply n_some; exact rfl; (first | exact nIm rfl | exact nSl rfl | exact nIv rfl | exact nRow rfl | exact nNil rfl | exact nPtr rfl | exact nBsh rfl | exact nBsl rfl | exact nAny rfl | exact rfl))) | (apply d_min2; exact rfl; exact rfl; exact rfl)) | (refine c_seq ?_) | (refine L.block ?_) | (refine s_region ?_) | (refine d_region ?_) | (refine L.thenN ?_) | (refine L.thenE ?_) | (refine L.inE ?_) | (refine L.exit ?_) | (refine L.skip ?_) | (apply c_condT; exact rfl; (first | exact rfl | assumption))))
          refine hK _ (i + 1) trivial (by omega) ?_
          rw [hst, show (Option.toList (none : Option (List Val))) = [] from rfl, List.append_nil]
          (refine Wk.mk' (by intro id h; cases h) ?_ ?_ ?_ <;> repeat' (first | exact WkF.nil | exact WkB.nil | exact WkT.nil | (refine WkF.cons rfl (Sub.refl _) ?_) | (refine WkB.cons rfl rfl (Subs.refl _) ?_) | (refine WkT.cons rfl ?_)))
end Go.Proofs.YthkobnpogigkiaaDoor
/- Values, plain laws: keys are ordered as values are. Conditions: none. -/
namespace Go.Proofs.YthkobnpogigkiaaDoor
open Go.Abs
set_option linter.unusedVariables false
set_option linter.unusedSimpArgs false
theorem u8_lt {a b : UInt8} : a < b ↔ a.toNat < b.toNat := UInt8.lt_iff_toNat_lt
theorem be4_less {a b : Int} (h0 : 0 ≤ a) (h1 : a < b) (h2 : b < 4294967296) (x y : List UInt8) : Op.bytesLess (be4 a ++ x) (be4 b ++ y) = true := by
  have a0 := u8_nat (n := a / 16777216) (by omega)
  have a1 := u8_nat (n := a / 65536) (by omega)
  have a2 := u8_nat (n := a / 256) (by omega)
  have a3 := u8_nat (n := a) (by omega)
  have b0 := u8_nat (n := b / 16777216) (by omega)
  have b1 := u8_nat (n := b / 65536) (by omega)
  have b2 := u8_nat (n := b / 256) (by omega)
  have b3 := u8_nat (n := b) (by omega)
  simp only [be4, List.cons_append, List.nil_append, Op.bytesLess]
  generalize u8 (a / 16777216) = c0 at *
  generalize u8 (a / 65536) = c1 at *
  generalize u8 (a / 256) = c2 at *
  generalize u8 a = c3 at *
  generalize u8 (b / 16777216) = d0 at *
  generalize u8 (b / 65536) = d1 at *
  generalize u8 (b / 256) = d2 at *
  generalize u8 b = d3 at *
  have ha : a = 16777216 * (c0.toNat : Int) + 65536 * c1.toNat + 256 * c2.toNat + c3.toNat := by omega
  have hb : b = 16777216 * (d0.toNat : Int) + 65536 * d1.toNat + 256 * d2.toNat + d3.toNat := by omega
  clear a0 a1 a2 a3 b0 b1 b2 b3
  have e0 := c0.toNat_lt
  have e1 := c1.toNat_lt
  have e2 := c2.toNat_lt
  have e3 := c3.toNat_lt
  have g0 := d0.toNat_lt
  have g1 := d1.toNat_lt
  have g2 := d2.toNat_lt
  have g3 := d3.toNat_lt
  have key : c0.toNat < d0.toNat ∨ c0.toNat = d0.toNat ∧ (c1.toNat < d1.toNat ∨ c1.toNat = d1.toNat ∧ (c2.toNat < d2.toNat ∨ c2.toNat = d2.toNat ∧ c3.toNat < d3.toNat)) := by omega
  simp only [Bool.or_eq_true, Bool.and_eq_true, decide_eq_true_eq, beq_iff_eq, u8_lt]
  rcases key with h | ⟨h, h' | ⟨h', h'' | ⟨h'', h3⟩⟩⟩
  · exact .inl h
  · exact .inr ⟨UInt8.toNat_inj.1 h, .inl h'⟩
  · exact .inr ⟨UInt8.toNat_inj.1 h, .inr ⟨UInt8.toNat_inj.1 h', .inl h''⟩⟩
  · exact .inr ⟨UInt8.toNat_inj.1 h, .inr ⟨UInt8.toNat_inj.1 h', .inr ⟨UInt8.toNat_inj.1 h'', .inl h3⟩⟩⟩
theorem text_less : ∀ {s t : List UInt8}, t.all charOk = true → Op.bytesLess s t = true → ∀ x y, Op.bytesLess (s ++ 0 :: x) (t ++ 0 :: y) = true
  | _, [], _, h, x, y => by simp [Op.bytesLess] at h
  | [], b :: t, ht, _, x, y => by
    simp only [List.all_cons, Bool.and_eq_true] at ht
    have hb : (0 : UInt8) < b := by
      rw [u8_lt]
      have := ht.1
      simp [charOk] at this
      have e : (0 : UInt8).toNat = 0 := rfl
      omega
    simp [Op.bytesLess, hb]
  | a :: s, b :: t, ht, h, x, y => by
    simp only [List.all_cons, Bool.and_eq_true] at ht
    simp only [Op.bytesLess, Bool.or_eq_true, Bool.and_eq_true, List.cons_append] at h ⊢
    exact h.imp id (fun ⟨h1, h2⟩ => ⟨h1, text_less ht.2 h2 x y⟩)
theorem less_irrefl (x : List UInt8) : Op.bytesLess x x = false := by rw [less_lt]; simp [List.lt_irrefl]
theorem less_asymm {x y : List UInt8} (h : Op.bytesLess x y = true) : Op.bytesLess y x = false := by
  rw [less_lt] at h ⊢
  simp only [decide_eq_true_eq, decide_eq_false_iff_not] at h ⊢
  exact List.lt_asymm h
theorem less_tri {x y : List UInt8} (h : Op.bytesLess x y = false) (h' : Op.bytesLess y x = false) : x = y := by
  rw [less_lt] at h h'
  simp only [decide_eq_false_iff_not] at h h'
  exact List.le_antisymm (List.not_lt.1 h') (List.not_lt.1 h)
theorem less_app (z : List UInt8) {x y : List UInt8} : Op.bytesLess (z ++ x) (z ++ y) = Op.bytesLess x y := by
  induction z with
  | nil => rfl
  | cons a z ih =>
    simp only [List.cons_append, Op.bytesLess, ih]
    have : ¬ a < a := by rw [u8_lt]; omega
    simp [this]
theorem cmpI_self (a : Int) : cmpI a a = 0 := by simp [cmpI]
theorem cmpS_self (a : List UInt8) : cmpS a a = 0 := by simp [cmpS, less_irrefl]
theorem cmp_one {v w : Val} (hv : goodM v = true) (hw : goodM w = true) : v = w ∧ cmpM v w = 0 ∨ (cmpM v w = -1 ∧ ∀ x y, Op.bytesLess (keyOne v ++ x) (keyOne w ++ y) = true) ∨ (cmpM v w = 1 ∧ ∀ x y, Op.bytesLess (keyOne w ++ y) (keyOne v ++ x) = true) := by
  rcases good_cases hv with rfl | ⟨n, rfl, h0, h1⟩ | ⟨s, rfl, hl, hs⟩ <;> rcases good_cases hw with rfl | ⟨m, rfl, k0, k1⟩ | ⟨t, rfl, kl, ks⟩
  · left; exact ⟨rfl, by simp [cmpM, cmpI_self, cmpS_self, orL]⟩
  · right; left; rw [keyOne0, keyOne1]
    exact ⟨by simp [cmpM, orL, cmpI], fun x y => by simp [Op.bytesLess]⟩
  · right; left; rw [keyOne0, keyOne2]
    exact ⟨by simp [cmpM, orL, cmpI], fun x y => by simp [Op.bytesLess]⟩
  · right; right; rw [keyOne0, keyOne1]
    exact ⟨by simp [cmpM, orL, cmpI], fun x y => by simp [Op.bytesLess]⟩
  · rw [keyOne1, keyOne1]
    by_cases h : n = m
    · subst h; left; exact ⟨rfl, by simp [cmpM, cmpI_self, cmpS_self, orL]⟩
    · by_cases h' : n < m
      · right; left
        refine ⟨by simp [cmpM, orL, cmpI, h'], fun x y => ?_⟩
        have := be4_less (a := n + 1073741824) (b := m + 1073741824) (by omega) (by omega) (by omega) x y
        simp only [List.cons_append, Op.bytesLess, this]; simp
      · right; right
        have h'' : m < n := by omega
        refine ⟨by simp [cmpM, orL, cmpI, h', h''], fun x y => ?_⟩
        have := be4_less (a := m + 1073741824) (b := n + 1073741824) (by omega) (by omega) (by omega) y x
        simp only [List.cons_append, Op.bytesLess, this]; simp
  · right; left; rw [keyOne1, keyOne2]
    exact ⟨by simp [cmpM, orL, cmpI], fun x y => by simp [Op.bytesLess]⟩
  · right; right; rw [keyOne0, keyOne2]
    exact ⟨by simp [cmpM, orL, cmpI], fun x y => by simp [Op.bytesLess]⟩
  · right; right; rw [keyOne1, keyOne2]
    exact ⟨by simp [cmpM, orL, cmpI], fun x y => by simp [Op.bytesLess]⟩
  · rw [keyOne2, keyOne2]
    cases h : Op.bytesLess s t with
    | true =>
      right; left
      refine ⟨by simp [cmpM, orL, cmpI, cmpS, h], fun x y => ?_⟩
      have := text_less ks h x y
      simp only [List.cons_append, List.append_assoc, List.nil_append, Op.bytesLess, this]; simp
    | false =>
      cases h' : Op.bytesLess t s with
      | true =>
        right; right
        refine ⟨by simp [cmpM, orL, cmpI, cmpS, h, h'], fun x y => ?_⟩
        have := text_less hs h' y x
        simp only [List.cons_append, List.append_assoc, List.nil_append, Op.bytesLess, this]; simp
      | false =>
        obtain rfl := less_tri h h'
        left; exact ⟨rfl, by simp [cmpM, cmpI_self, cmpS_self, orL]⟩
end Go.Proofs.YthkobnpogigkiaaDoor
/- Ways to rows, plain laws: what a tree holds behind plan.Put and plan.Drop; the way to all rows. Conditions: none. -/
namespace Go.Proofs.YthkobnpogigkiaaDoor
open Go.Abs
set_option linter.unusedVariables false
set_option linter.unusedSimpArgs false
theorem sort_flat {ps : List Pg} (h : goodTree ps = true) : SortF (flatP ps) := (good_flat ((good_iff ps).1 h).1).1 h
theorem put_mem {ps : List Pg} {k v : Str} (h : goodTree ps = true) (a b : Str) : (a, b) ∈ flatP (putM ps k v) ↔ (a = k ∧ b = v) ∨ (a ≠ k ∧ (a, b) ∈ flatP ps) := by
  rw [put_flat h]
  simp only [putF, List.mem_append, List.mem_cons, List.mem_filter, decide_eq_true_eq, Prod.mk.injEq]
  constructor
  · rintro (⟨h1, h2⟩ | h1 | ⟨h1, h2⟩)
    · exact .inr ⟨fun e => by rw [e] at h2; exact List.lt_irrefl _ h2, h1⟩
    · exact .inl h1
    · exact .inr ⟨fun e => by rw [e] at h2; exact List.lt_irrefl _ h2, h1⟩
  · rintro (h1 | ⟨h1, h2⟩)
    · exact .inr (.inl h1)
    · rcases lt_tri a k with h3 | h3 | h3
      · exact .inl ⟨h2, h3⟩
      · exact absurd h3 h1
      · exact .inr (.inr ⟨h2, h3⟩)
theorem drop_mem {ps : List Pg} {k : Str} (h : goodTree ps = true) (a b : Str) : (a, b) ∈ flatP (dropM ps k) ↔ a ≠ k ∧ (a, b) ∈ flatP ps := by
  rw [drop_flat h, dropF, List.mem_filter]
  constructor
  · exact fun h => ⟨by simpa using h.2, h.1⟩
  · exact fun h => ⟨h.2, by simpa using h.1⟩
theorem find_iff {ps : List Pg} {k : Str} (h : goodTree ps = true) : (getM ps k).2 = true ↔ ∃ v, (k, v) ∈ flatP ps := by
  rw [get_flat h]
  constructor
  · intro e
    by_cases hx : ∃ w, (k, w) ∈ flatP ps
    · exact hx
    · rw [find_no (fun w hw => hx ⟨w, hw⟩)] at e; cases e
  · rintro ⟨v, hv⟩
    rw [find_some (sort_flat h) hv]
def ixOn (t : Tab) (x : Idx) : Bool := x.tb == t.n && decide (0 ≤ colM t x.co)
def ixKey (t : Tab) (row : List Val) (x : Idx) : Str := indexKeyM x.n (row.getD (colM t x.co).toNat nilV) (row.getD 0 nilV)
def ixKeys (t : Tab) (row : List Val) (l : List Idx) : List Str := (l.filter (ixOn t)).map (ixKey t row)
theorem ixKeys_cons (t : Tab) (row : List Val) (x : Idx) (l : List Idx) : ixKeys t row (x :: l) = if ixOn t x then ixKey t row x :: ixKeys t row l else ixKeys t row l := by
  unfold ixKeys; rw [List.filter_cons]; split <;> simp
theorem putIxs_mem (t : Tab) (row : List Val) : ∀ (l : List Idx) (ps : List Pg), goodTree ps = true → goodTree (l.foldl (putIx t row) ps) = true ∧ ∀ a b, (a, b) ∈ flatP (l.foldl (putIx t row) ps) ↔ (a ∈ ixKeys t row l ∧ b = []) ∨ (a ∉ ixKeys t row l ∧ (a, b) ∈ flatP ps)
  | [], ps, h => ⟨h, fun a b => by simp [ixKeys]⟩
  | x :: l, ps, h => by
    have hx : putIx t row ps x = if ixOn t x then putM ps (ixKey t row x) [] else ps := rfl
    rw [List.foldl_cons, hx, ixKeys_cons]
    cases hon : ixOn t x with
    | false => simpa using putIxs_mem t row l ps h
    | true =>
      simp only [if_true]
      have ih := putIxs_mem t row l (putM ps (ixKey t row x) []) (put_good h)
      refine ⟨ih.1, fun a b => ?_⟩
      rw [ih.2, put_mem h]
      simp only [List.mem_cons]
      constructor
      · rintro (⟨h1, h2⟩ | ⟨h1, ⟨h2, h3⟩ | ⟨h2, h3⟩⟩)
        · exact .inl ⟨.inr h1, h2⟩
        · exact .inl ⟨.inl h2, h3⟩
        · exact .inr ⟨fun e => e.elim h2 h1, h3⟩
      · rintro (⟨h1 | h1, h2⟩ | ⟨h1, h2⟩)
        · by_cases hm : a ∈ ixKeys t row l
          · exact .inl ⟨hm, h2⟩
          · exact .inr ⟨hm, .inl ⟨h1, h2⟩⟩
        · exact .inl ⟨h1, h2⟩
        · exact .inr ⟨fun e => h1 (.inr e), .inr ⟨fun e => h1 (.inl e), h2⟩⟩
theorem dropIxs_mem (t : Tab) (row : List Val) : ∀ (l : List Idx) (ps : List Pg), goodTree ps = true → goodTree (l.foldl (dropIx t row) ps) = true ∧ ∀ a b, (a, b) ∈ flatP (l.foldl (dropIx t row) ps) ↔ (a ∉ ixKeys t row l ∧ (a, b) ∈ flatP ps)
  | [], ps, h => ⟨h, fun a b => by simp [ixKeys]⟩
  | x :: l, ps, h => by
    have hx : dropIx t row ps x = if ixOn t x then dropM ps (ixKey t row x) else ps := rfl
    rw [List.foldl_cons, hx, ixKeys_cons]
    cases hon : ixOn t x with
    | false => simpa using dropIxs_mem t row l ps h
    | true =>
      simp only [if_true]
      have ih := dropIxs_mem t row l (dropM ps (ixKey t row x)) (drop_good h)
      refine ⟨ih.1, fun a b => ?_⟩
      rw [ih.2, drop_mem h]
      simp only [List.mem_cons]
      constructor
      · rintro ⟨h1, h2, h3⟩; exact ⟨fun e => e.elim h2 h1, h3⟩
      · rintro ⟨h1, h2⟩; exact ⟨fun e => h1 (.inr e), fun e => h1 (.inl e), h2⟩
def rowK (t : Tab) (row : List Val) : Str := rowKeyM t.n (row.getD 0 nilV)
theorem putT_mem {ps : List Pg} {c : Cat} {t : Tab} {row : List Val} (h : goodTree ps = true) (h0 : row.length ≠ 0) (hl : row.length = t.cols.length) : goodTree (putT ps c t row) = true ∧ ∀ a b, (a, b) ∈ flatP (putT ps c t row) ↔
    (a ∈ ixKeys t row c.is ∧ b = []) ∨ (a ∉ ixKeys t row c.is ∧ ((a = rowK t row ∧ b = keyS row) ∨ (a ≠ rowK t row ∧ (a, b) ∈ flatP ps))) := by
  rw [putT, if_neg (by omega)]
  have ih := putIxs_mem t row c.is (putM ps (rowKeyM t.n (row.getD 0 nilV)) (keyS row)) (put_good h)
  refine ⟨ih.1, fun a b => ?_⟩
  rw [ih.2, put_mem h]; rfl
theorem dropT_mem {ps : List Pg} {c : Cat} {t : Tab} {row : List Val} (h : goodTree ps = true) (h0 : row.length ≠ 0) (hl : row.length = t.cols.length) : goodTree (dropT ps c t row) = true ∧ ∀ a b, (a, b) ∈ flatP (dropT ps c t row) ↔
    (a ∉ ixKeys t row c.is ∧ a ≠ rowK t row ∧ (a, b) ∈ flatP ps) := by
  rw [dropT, if_neg (by omega)]
  have ih := dropIxs_mem t row c.is (dropM ps (rowKeyM t.n (row.getD 0 nilV))) (drop_good h)
  refine ⟨ih.1, fun a b => ?_⟩
  rw [ih.2, drop_mem h]; rfl
theorem ix_head {t : Tab} {row : List Val} {l : List Idx} {a : Str} (h : a ∈ ixKeys t row l) : ∃ s, a = 120 :: s := by
  obtain ⟨x, _, rfl⟩ := List.mem_map.1 h
  exact ⟨_, rfl⟩
theorem row_head (t : Tab) (row : List Val) : ∃ s, rowK t row = 114 :: s := ⟨_, rfl⟩
theorem ix_row {t t' : Tab} {row row' : List Val} {l : List Idx} : rowK t row ∉ ixKeys t' row' l := fun h => by
  obtain ⟨s, hs⟩ := ix_head h
  obtain ⟨u, hu⟩ := row_head t row
  rw [hu] at hs; cases hs
theorem keyS_good {vs : List Val} (h : vs.all goodM = true) : keyS vs = vs.flatMap keyOne := by rw [keyS, keyM, if_pos h]
theorem keyS_vals {vs : List Val} (h : vs.all goodM = true) : valsM (keyS vs) = some vs := by rw [keyS_good h, valsM_key h]
theorem keyS_one {v w : Val} (hv : goodM v = true) (hw : goodM w = true) (h : keyS [v] = keyS [w]) : v = w := by
  have h1 := keyS_vals (vs := [v]) (by simp [hv])
  have h2 := keyS_vals (vs := [w]) (by simp [hw])
  rw [h, h2] at h1
  simpa using h1.symm
theorem app_lt (z x y : Str) : z ++ x < z ++ y ↔ x < y := by
  have := less_app z (x := x) (y := y)
  rw [ltS, ltS] at this
  simpa using this
theorem keyS_lt {v w : Val} (hv : goodM v = true) (hw : goodM w = true) : keyS [v] < keyS [w] ↔ cmpM v w = -1 := by
  have e1 : keyS [v] = keyOne v := by rw [keyS_good (by simp [hv])]; simp
  have e2 : keyS [w] = keyOne w := by rw [keyS_good (by simp [hw])]; simp
  rw [e1, e2]
  rcases cmp_one hv hw with ⟨rfl, h⟩ | ⟨h, hl⟩ | ⟨h, hl⟩
  · rw [h]; simp [List.lt_irrefl]
  · have := hl [] []
    rw [List.append_nil, List.append_nil, ltS] at this
    rw [h]; simpa using this
  · have := hl [] []
    rw [List.append_nil, List.append_nil, ltS] at this
    have hlt : keyOne w < keyOne v := by simpa using this
    rw [h]
    constructor
    · intro h2; exact absurd h2 (List.lt_asymm hlt)
    · intro h2; cases h2
theorem good_getD {row : List Val} (h : row.all goodM = true) (i : Nat) : goodM (row.getD i nilV) = true := by
  rw [List.getD_eq_getElem?_getD]
  cases hx : row[i]? with
  | none => rfl
  | some v => exact List.all_eq_true.1 h v (List.mem_of_getElem? hx)
structure Holds (c : Cat) (t : Tab) (ps : List Pg) (own : List (List Val)) : Prop where
  good : goodTree ps = true
  fit : ∀ r ∈ own, r.length = t.cols.length ∧ r.all goodM = true
  dis : own.Pairwise (fun r r' => r.getD 0 nilV ≠ r'.getD 0 nilV)
  mem : ∀ a b, (a, b) ∈ flatP ps ↔ ∃ r ∈ own, (a = rowK t r ∧ b = keyS r) ∨ (a ∈ ixKeys t r c.is ∧ b = [])
theorem Holds.nil (c : Cat) (t : Tab) : Holds c t [] [] := ⟨rfl, by simp, .nil, by simp [flatP]⟩
theorem rowK_inj {t : Tab} {r r' : List Val} (h1 : r.all goodM = true) (h2 : r'.all goodM = true) (h : rowK t r = rowK t r') : r.getD 0 nilV = r'.getD 0 nilV :=
  keyS_one (good_getD h1 0) (good_getD h2 0) (List.append_cancel_left h)
theorem Holds.put {c : Cat} {t : Tab} {ps : List Pg} {own : List (List Val)} (h : Holds c t ps own) (h0 : t.cols.length ≠ 0) {row : List Val} (hf : row.length = t.cols.length ∧ row.all goodM = true) (hn : (getM ps (rowK t row)).2 = false) : Holds c t (putT ps c t row) (own ++ [row]) := by
  obtain ⟨hg, hm⟩ := putT_mem (c := c) h.good (by omega) hf.1
  have hno : ∀ v, (rowK t row, v) ∉ flatP ps := fun v hv => by
    rw [(find_iff h.good).2 ⟨v, hv⟩] at hn; cases hn
  have hdi : ∀ r ∈ own, r.getD 0 nilV ≠ row.getD 0 nilV := fun r hr e => by
    refine hno (keyS r) ((h.mem _ _).2 ⟨r, hr, .inl ⟨?_, rfl⟩⟩)
    rw [rowK, rowK, e]
  refine ⟨hg, fun r hr => ?_, List.pairwise_append.2 ⟨h.dis, List.pairwise_singleton _ _, fun r hr r' hr' => ?_⟩, fun a b => ?_⟩
  · rcases List.mem_append.1 hr with hr | hr
    · exact h.fit r hr
    · simp at hr; subst hr; exact hf
  · simp at hr'; subst hr'; exact hdi r hr
  · rw [hm]
    constructor
    · rintro (⟨h1, h2⟩ | ⟨h1, ⟨h2, h3⟩ | ⟨h2, h3⟩⟩)
      · exact ⟨row, by simp, .inr ⟨h1, h2⟩⟩
      · exact ⟨row, by simp, .inl ⟨h2, h3⟩⟩
      · obtain ⟨r, hr, hx⟩ := (h.mem a b).1 h3
        exact ⟨r, by simp [hr], hx⟩
    · rintro ⟨r, hr, hx⟩
      rcases List.mem_append.1 hr with hr | hr
      · by_cases hi : a ∈ ixKeys t row c.is
        · rcases hx with ⟨rfl, _⟩ | ⟨_, h2⟩
          · exact absurd hi ix_row
          · exact .inl ⟨hi, h2⟩
        · refine .inr ⟨hi, .inr ⟨?_, (h.mem a b).2 ⟨r, hr, hx⟩⟩⟩
          rcases hx with ⟨rfl, _⟩ | ⟨h1, _⟩
          · exact fun e => hdi r hr (rowK_inj (h.fit r hr).2 hf.2 e)
          · exact fun e => by rw [e] at h1; exact ix_row h1
      · simp at hr; subst hr
        rcases hx with ⟨h1, h2⟩ | ⟨h1, h2⟩
        · refine .inr ⟨fun e => ?_, .inl ⟨h1, h2⟩⟩
          rw [h1] at e; exact ix_row e
        · exact .inl ⟨h1, h2⟩
theorem lt_cons {a b : UInt8} {s u : Str} : (a :: s) < (b :: u) ↔ a < b ∨ a = b ∧ s < u := List.cons_lt_cons_iff
theorem all_in (n : Str) (s : Str) : ¬ (rowsK n ++ s < rowsK n) ∧ rowsK n ++ s < (allW n).hi := by
  constructor
  · intro hc
    have := (app_lt (rowsK n) s []).1 (by rw [List.append_nil]; exact hc)
    simp at this
  · show (([114] ++ n) ++ [0]) ++ s < ([114] ++ n) ++ [1]
    rw [List.append_assoc, app_lt]
    exact lt_cons.2 (.inl (by decide))
theorem all_out (n : Str) (s : Str) : ¬ ((120 : UInt8) :: s < (allW n).hi) := by
  show ¬ ((120 : UInt8) :: s < 114 :: (n ++ [1]))
  rw [lt_cons]
  rintro (h | ⟨h, _⟩)
  · exact absurd h (by decide)
  · exact absurd h (by decide)
theorem rowOf_key {t : Tab} {r : List Val} (h : r.length = t.cols.length ∧ r.all goodM = true) : rowOf t (keyS r) = some r := by
  rw [rowOf, keyS_vals h.2]; exact if_pos h.1
theorem flat_nodup {l : List Pr} (h : SortF l) : l.Nodup := (List.pairwise_map.1 h).imp (fun h e => by rw [e] at h; exact List.lt_irrefl _ h)
theorem all_range {c : Cat} {t : Tab} {ps : List Pg} {own : List (List Val)} (h : Holds c t ps own) :
    ∀ a b, (a, b) ∈ rangeM ps (allW t.n).lo (allW t.n).hi ↔ ∃ r ∈ own, a = rowK t r ∧ b = keyS r := by
  intro a b
  rw [range_law _ _ h.good, List.mem_filter, h.mem]
  constructor
  · rintro ⟨⟨r, hr, h1 | ⟨h1, h2⟩⟩, h3⟩
    · exact ⟨r, hr, h1⟩
    · obtain ⟨s, rfl⟩ := ix_head h1
      simp only [Bool.and_eq_true, decide_eq_true_eq] at h3
      exact absurd h3.2 (all_out t.n s)
  · rintro ⟨r, hr, rfl, rfl⟩
    refine ⟨⟨r, hr, .inl ⟨rfl, rfl⟩⟩, ?_⟩
    have := all_in t.n (keyS [r.getD 0 nilV])
    simp only [Bool.and_eq_true, Bool.not_eq_true', decide_eq_false_iff_not, decide_eq_true_eq]
    exact this
theorem rows_all {c : Cat} {t : Tab} {ps : List Pg} {own : List (List Val)} (h : Holds c t ps own) :
    (rowsT ps t (allW t.n)).Perm own ∧ (rowsT ps t (allW t.n)).Pairwise (fun r r' => cmpM (r.getD 0 nilV) (r'.getD 0 nilV) = -1) := by
  have hs : SortF (rangeM ps (allW t.n).lo (allW t.n).hi) := by
    rw [range_law _ _ h.good]; exact (sort_flat h.good).sublist (List.Sublist.map _ List.filter_sublist)
  have hp : rowsT ps t (allW t.n) = (rangeM ps (allW t.n).lo (allW t.n).hi).filterMap (fun x => rowOf t x.2) := by
    rw [rowsT]; congr 1
  have hm := all_range h
  generalize rangeM ps (allW t.n).lo (allW t.n).hi = R at *
  have hback : ∀ l : List (List Val), (∀ r ∈ l, r ∈ own) → (l.map (fun r => (rowK t r, keyS r))).filterMap (fun x : Pr => rowOf t x.2) = l := fun l hl => by
    induction l with
    | nil => rfl
    | cons r l ih =>
      rw [List.map_cons, List.filterMap_cons, rowOf_key (h.fit r (hl r (by simp))), ih (fun r hr => hl r (by simp [hr]))]
  have hnd : (own.map (fun r => (rowK t r, keyS r))).Nodup := by
    refine List.Pairwise.map _ (fun r r' h => h) ?_
    refine h.dis.imp_of_mem (fun {r r'} hr hr' hne e => hne ?_)
    exact rowK_inj (h.fit r hr).2 (h.fit r' hr').2 (Prod.mk.inj e).1
  have hperm : R.Perm (own.map (fun r => (rowK t r, keyS r))) := by
    refine (List.perm_ext_iff_of_nodup (flat_nodup hs) hnd).2 (fun ⟨a, b⟩ => ?_)
    rw [hm, List.mem_map]
    constructor
    · rintro ⟨r, hr, h1, h2⟩; exact ⟨r, hr, by rw [h1, h2]⟩
    · rintro ⟨r, hr, e⟩; exact ⟨r, hr, (Prod.mk.inj e).1.symm, (Prod.mk.inj e).2.symm⟩
  rw [hp]
  refine ⟨?_, ?_⟩
  · have := hperm.filterMap (fun x : Pr => rowOf t x.2)
    rwa [hback own (fun r hr => hr)] at this
  · refine List.pairwise_filterMap.2 ?_
    refine (List.pairwise_map.1 hs).imp_of_mem (fun {x y} hx hy hlt r hr r' hr' => ?_)
    obtain ⟨a, b⟩ := x
    obtain ⟨a', b'⟩ := y
    obtain ⟨q, hq, rfl, rfl⟩ := (hm a b).1 hx
    obtain ⟨q', hq', rfl, rfl⟩ := (hm a' b').1 hy
    have e1 := (rowOf_key (h.fit q hq)).symm.trans hr
    have e2 := (rowOf_key (h.fit q' hq')).symm.trans hr'
    cases e1; cases e2
    have hlt2 : keyS [r.getD 0 nilV] < keyS [r'.getD 0 nilV] := (app_lt (rowsK t.n) _ _).1 hlt
    exact (keyS_lt (good_getD (h.fit r hq).2 0) (good_getD (h.fit r' hq').2 0)).1 hlt2
end Go.Proofs.YthkobnpogigkiaaDoor
/- Tables, plain laws: that the document's tests of a table and of a catalog are package schema's; what a tree has of one row, as pairs. Conditions: none. -/
namespace Go.Proofs.YthkobnpogigkiaaDoor
open Go.Abs
set_option linter.unusedVariables false
set_option linter.unusedSimpArgs false
theorem gtS (a b : Str) : (!(Op.bytesLess a b || a == b)) = Op.bytesLess b a := by
  rw [leS, ltS, Bool.eq_iff_iff]
  simp
def colR (t : Tab) (i : Nat) (c : Col) : Bool := namedM c.n && ((c.t == 1 || c.t == 2) && (colM t c.n == (i : Int) && (decide ((0 : Int) < (i : Int)) || c.m)))
def isTabR (t : Tab) : Bool := (namedM t.n && (decide (0 < t.cols.length) && decide (t.cols.length < 5))) && t.cols.zipIdx.all (fun p => colR t p.2 p.1)
theorem isTabR_eq (t : Tab) : isTabR t = goodTabM t := by
  rw [Bool.eq_iff_iff]
  simp only [isTabR, goodTabM, colsOk, Bool.and_eq_true, decide_eq_true_eq, List.all_eq_true]
  constructor
  · rintro ⟨⟨h1, h2, h3⟩, h4⟩
    refine ⟨fun p hp => ?_, h1, by omega, by omega, ?_⟩
    · have := h4 p hp
      simp only [colR, Bool.and_eq_true, Bool.or_eq_true, beq_iff_eq, decide_eq_true_eq] at this
      simp only [colOk, Bool.not_eq_true', Bool.or_eq_false_iff, Bool.and_eq_false_iff, bne_eq_false_iff_eq, Bool.not_eq_false']
      exact ⟨⟨this.1, this.2.1⟩, this.2.2.1⟩
    · cases hc : t.cols with
      | nil => rw [hc] at h2; simp at h2
      | cons c cs =>
        have := h4 (c, 0) (by rw [hc]; simp)
        simp only [colR, Bool.and_eq_true, Bool.or_eq_true, decide_eq_true_eq] at this
        rcases this.2.2.2 with h | h
        · exact absurd h (by simp)
        · simpa using h
  · rintro ⟨h4, h1, h2, h3, h5⟩
    refine ⟨⟨h1, by omega, by omega⟩, fun p hp => ?_⟩
    have := h4 p hp
    simp only [colOk, Bool.not_eq_true', Bool.or_eq_false_iff, Bool.and_eq_false_iff, bne_eq_false_iff_eq, Bool.not_eq_false'] at this
    simp only [colR, Bool.and_eq_true, Bool.or_eq_true, beq_iff_eq, decide_eq_true_eq]
    refine ⟨this.1.1, this.1.2, this.2, ?_⟩
    obtain ⟨c, i⟩ := p
    cases i with
    | zero =>
      right
      have h6 := List.mem_zipIdx_iff_getElem?.1 hp
      cases hc : t.cols with
      | nil => rw [hc] at h6; simp at h6
      | cons c' cs =>
        rw [hc] at h6 h5
        simp at h6 h5
        rw [← h6]; exact h5
    | succ i => left; show (0 : Int) < ((i + 1 : Nat) : Int); omega
def lastT (c : Cat) (i : Nat) : Str := if i = 0 then [] else (c.ts.getD (i - 1) ⟨[], []⟩).n
def lastX (c : Cat) (i : Nat) : Str := if i = 0 then [] else (c.is.getD (i - 1) ⟨[], [], []⟩).n
def tabR (c : Cat) (i : Nat) (t : Tab) : Bool := goodTabM t && Op.bytesLess (lastT c i) t.n
def idxR (c : Cat) (i : Nat) (x : Idx) : Bool := (findT c x.tb).2 && (namedM x.n && (Op.bytesLess (lastX c i) x.n && decide (0 ≤ colM (findT c x.tb).1 x.co)))
def isCatR (c : Cat) : Bool := ((decide (c.ts.length < 4) && decide (c.is.length < 5)) && c.ts.zipIdx.all (fun p => tabR c p.2 p.1)) && c.is.zipIdx.all (fun p => idxR c p.2 p.1)
theorem less_nil {s : Str} (h : namedM s = true) : Op.bytesLess [] s = true := by
  cases s with
  | nil => simp [namedM] at h
  | cons a s => rw [ltS]; simp
theorem good_named {t : Tab} (h : goodTabM t = true) : namedM t.n = true := by
  simp only [goodTabM, Bool.and_eq_true] at h; exact h.2.1
theorem tabR_eq (c : Cat) (i : Nat) (t : Tab) : tabR c i t = tabOk c i t := by
  unfold tabR tabOk lastT
  cases hg : goodTabM t with
  | false => simp
  | true =>
    cases i with
    | zero => simp [less_nil (good_named hg)]
    | succ i =>
      have : decide ((0 : Int) < ((i + 1 : Nat) : Int)) = true := decide_eq_true (by omega)
      rw [this]; simp
theorem idxR_eq (c : Cat) (i : Nat) (x : Idx) : idxR c i x = idxOk c i x := by
  unfold idxR idxOk lastX
  generalize colM (findT c x.tb).1 x.co = k
  have hk : decide (k < 0) = !decide (0 ≤ k) := by rw [Bool.eq_iff_iff]; simp
  rw [hk]
  cases hg : namedM x.n with
  | false => simp
  | true =>
    cases (findT c x.tb).2 with
    | false => simp
    | true =>
      cases i with
      | zero => simp [less_nil hg]
      | succ i =>
        have : decide ((0 : Int) < ((i + 1 : Nat) : Int)) = true := decide_eq_true (by omega)
        rw [this]
        rw [if_neg (by omega)]
        cases Op.bytesLess (c.is.getD (i + 1 - 1) ⟨[], [], []⟩).n x.n <;> cases decide (0 ≤ k) <;> rfl
theorem isCatR_eq (c : Cat) : isCatR c = goodCatM c := by
  have e1 : c.ts.zipIdx.all (fun p => tabR c p.2 p.1) = tabsOk c := by unfold tabsOk; congr 1; funext p; exact tabR_eq c p.2 p.1
  have e2 : c.is.zipIdx.all (fun p => idxR c p.2 p.1) = idxsOk c := by unfold idxsOk; congr 1; funext p; exact idxR_eq c p.2 p.1
  have e3 : decide (c.ts.length < 4) = decide ((c.ts.length : Int) ≤ 3) := decide_eq_decide.2 (by omega)
  have e4 : decide (c.is.length < 5) = decide ((c.is.length : Int) ≤ 4) := decide_eq_decide.2 (by omega)
  unfold isCatR goodCatM
  rw [e1, e2, e3, e4]
  cases tabsOk c <;> cases idxsOk c <;> simp
def wantIx (t : Tab) (row : List Val) (l : List Pr) (x : Idx) : List Pr := if x.tb == t.n && decide (0 ≤ colM t x.co) then putF l (indexKeyM x.n (row.getD (colM t x.co).toNat nilV) (row.getD 0 nilV)) [] else l
def wantM (c : Cat) (t : Tab) (row : List Val) : List Pr := c.is.foldl (wantIx t row) [(rowKeyM t.n (row.getD 0 nilV), keyS row)]
theorem wantIx_len (t : Tab) (row : List Val) (l : List Pr) (x : Idx) : (wantIx t row l x).length ≤ l.length * 2 + 1 := by
  unfold wantIx; split
  · generalize indexKeyM x.n (row.getD (colM t x.co).toNat nilV) (row.getD 0 nilV) = k
    unfold putF
    rw [List.length_append, List.length_cons]
    exact Nat.le_trans (Nat.add_le_add (List.length_filter_le _ _) (Nat.succ_le_succ (List.length_filter_le _ _))) (by omega)
  · omega
theorem want_fold (t : Tab) (row : List Val) : ∀ (l : List Idx) (ps : List Pg), goodTree ps = true → flatP (l.foldl (putIx t row) ps) = l.foldl (wantIx t row) (flatP ps)
  | [], ps, h => rfl
  | x :: l, ps, h => by
    rw [List.foldl_cons, List.foldl_cons]
    have hx : putIx t row ps x = if x.tb == t.n && decide (0 ≤ colM t x.co) then putM ps (indexKeyM x.n (row.getD (colM t x.co).toNat nilV) (row.getD 0 nilV)) [] else ps := rfl
    rw [hx, wantIx]
    split
    · rw [want_fold t row l _ (put_good h), put_flat h]
    · exact want_fold t row l ps h
theorem want_eq {c : Cat} {t : Tab} {row : List Val} (h0 : row.length ≠ 0) (hl : row.length = t.cols.length) : flatP (putT [] c t row) = wantM c t row := by
  rw [putT, if_neg (by omega), want_fold t row c.is _ (put_good rfl), put_flat rfl]; rfl
theorem drop_one {c : Cat} {t : Tab} {row : List Val} (h0 : row.length ≠ 0) (hl : row.length = t.cols.length) : goodTree (putT [] c t row) = true ∧ sizeM (dropT (putT [] c t row) c t row) = 0 := by
  have h1 := putT_mem (ps := []) (c := c) (t := t) (row := row) rfl h0 hl
  have h2 := dropT_mem (ps := putT [] c t row) (c := c) (t := t) (row := row) h1.1 h0 hl
  refine ⟨h1.1, ?_⟩
  rw [size_flat ((good_iff _).1 h2.1).1]
  have : flatP (dropT (putT [] c t row) c t row) = [] := by
    apply List.eq_nil_iff_forall_not_mem.2
    rintro ⟨a, b⟩ hm
    obtain ⟨g1, g2, g3⟩ := (h2.2 a b).1 hm
    rcases (h1.2 a b).1 g3 with ⟨k, _⟩ | ⟨_, ⟨k, _⟩ | ⟨_, k⟩⟩
    · exact g1 k
    · exact g2 k
    · simp [flatP] at k
  rw [this]; rfl
end Go.Proofs.YthkobnpogigkiaaDoor
