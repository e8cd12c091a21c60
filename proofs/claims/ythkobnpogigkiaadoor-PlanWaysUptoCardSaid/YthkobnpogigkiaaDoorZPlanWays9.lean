/- Several texts in one, each with its own sentence ahead of it. Conditions: each one says its own. -/
import Derived.Test.YthkobnpogigkiaaDoorZPlanWays8
/- Lists of expressions, one behind the other: what Grow, Concat and exprs compute. Conditions: how much there is of what comes in. -/
namespace Go.Proofs.YthkobnpogigkiaaDoor
open Go.Abs
set_option maxRecDepth 100000
attribute [local irreducible] L Code.wp bodyPost Exit.then Exit.inBlock
set_option linter.unusedVariables false
set_option linter.unusedSimpArgs false
theorem lenE : ∀ l : List Ex, ∀ e ∈ l.map Ex.c, e.length = 8 := fun l e he => by obtain ⟨y, _, rfl⟩ := List.mem_map.1 he; rw [Ex.c_cs]; rfl
set_option maxHeartbeats 4000000 in
theorem growE_nil (n : Nat) (a : Int) (ha : a = n) (hn : 0 < n) (hl : n * 104 ≤ 140737488355328) :
    CallA Tryd.prog 118 [.nils, aI a] [] [] [(24, ⟨34, 8⟩)] (.row 24 []) := by
  refine CallA.intro _ Tryd.func118 rfl Tryd.ntmps118 rfl (fun w0 E0 => ?_)
  have hb : decide (a < 0) = false := by simp; omega
  have hb4 : decide ((0 : Int) < a - ((0 : Int) - ((([] : List (List IV)).length : Nat) : Int))) = true := by simp; omega
  have hz : ((([] : List (List IV)).length : Nat) : Int) = 0 := rfl
  (repeat' (first | (refine LW.is ?_; first | (apply s_vr; exact rfl; apply v_capNil; exact rfl) | (apply s_vr; exact rfl; apply v_slNil; exact rfl; exact rfl; exact rfl) | (apply s_growNZ 1000 (m := n); exact rfl; exact rfl; exact rfl; omega; exact hn; (rw [maxL]; omega); omega; exact rfl; exact rfl) | (apply s_vr; exact rfl; apply v_slBshH (n' := 0); exact rfl; exact rfl; exact Int.le_refl _; omega; exact rfl) | (apply s_vr; exact rfl; apply v_subI; exact rfl; exact rfl; omega; omega) | refine s_v ?_ | refine s_m ?_ | refine s_nil ?_ | refine s_gd ?_ | (refine s_gsplit rfl rfl rfl (fun hb => ?_) (fun hb => ?_) <;> refine fct hb (fun hp => ?_))) | (refine DR.is ?_; first | (apply d_vr; exact rfl; apply v_capNil; exact rfl) | (apply d_vr; exact rfl; apply v_slNil; exact rfl; exact rfl; exact rfl) | (apply d_growNZ 1000 (m := n); exact rfl; exact rfl; exact rfl; omega; exact hn; (rw [maxL]; omega); omega; exact rfl; exact rfl) | (apply d_vr; exact rfl; apply v_slBshH (n' := 0); exact rfl; exact rfl; exact Int.le_refl _; omega; exact rfl) | (apply d_vr; exact rfl; apply v_subI; exact rfl; exact rfl; omega; omega) | refine d_v ?_ | refine d_m ?_ | (apply d_nil; kernel_rfl) | refine d_gd ?_ | (refine d_gsplit rfl rfl rfl (fun hb => ?_) (fun hb => ?_) <;> refine fct hb (fun hp => ?_))) | refine c_go ?_ | refine s_region ?_ | refine d_region ?_ | (refine L.cond rfl (fun hb => ?_) (fun hb => ?_) <;> refine fct hb (fun hp => ?_))))
  all_goals (apply L.rowS0 1000 24 4 22; exact rfl; exact rfl; omega; exact rfl; exact rfl; exact hn; exact rfl)
  all_goals (apply L.ends; exact rfl; exact rfl; exact Sub.refl _; exact Wk.mk' (by intro id h; simp [keys] at h) .nil .nil (.cons rfl .nil))
set_option maxHeartbeats 4000000 in
theorem growE_0 : CallA Tryd.prog 118 [.nils, aI 0] [] [] [] .nils := by
  refine CallA.intro _ Tryd.func118 rfl Tryd.ntmps118 rfl (fun w0 E0 => ?_)
  have hb4 : decide ((0 : Int) < 0 - ((0 : Int) - ((([] : List (List IV)).length : Nat) : Int))) = false := by simp
  have hz : ((([] : List (List IV)).length : Nat) : Int) = 0 := rfl
  (repeat' (first | (refine LW.is ?_; first | (apply s_vr; exact rfl; apply v_capNil; exact rfl) | (apply s_vr; exact rfl; apply v_subI; exact rfl; exact rfl; omega; omega) | refine s_v ?_ | refine s_m ?_ | refine s_nil ?_ | refine s_gd ?_ | (refine s_gsplit rfl rfl rfl (fun hb => ?_) (fun hb => ?_) <;> refine fct hb (fun hp => ?_))) | (refine DR.is ?_; first | (apply d_vr; exact rfl; apply v_capNil; exact rfl) | (apply d_vr; exact rfl; apply v_subI; exact rfl; exact rfl; omega; omega) | refine d_v ?_ | refine d_m ?_ | (apply d_nil; kernel_rfl) | refine d_gd ?_ | (refine d_gsplit rfl rfl rfl (fun hb => ?_) (fun hb => ?_) <;> refine fct hb (fun hp => ?_))) | refine c_go ?_ | refine s_region ?_ | refine d_region ?_ | (refine L.cond rfl (fun hb => ?_) (fun hb => ?_) <;> refine fct hb (fun hp => ?_))))
  all_goals (apply L.ends; exact rfl; exact rfl; exact Sub.refl _; exact Wk.mk' (by intro id h; simp [keys] at h) .nil .nil .nil)
set_option maxHeartbeats 8000000 in
theorem concatE_any (Ls : List (List Ex)) (h1 : Ls.length ≤ 1000000) (h2 : Ls.flatten.length * 104 ≤ 140737488355328) :
    CallA Tryd.prog 87 [.iv (.sl (Ls.map exRow))] [] [] [(13, ⟨34, 8⟩)] (.row 13 (Ls.flatten.map Ex.c)) := by
  refine CallA.intro _ Tryd.func87 rfl Tryd.ntmps87 rfl (fun w0 E0 => ?_)
  have flt : ∀ i, (Ls.take i).flatten.length ≤ Ls.flatten.length := fun i => by
    conv => rhs; rw [← List.take_append_drop i Ls, List.flatten_append, List.length_append]
    omega
  have fst : ∀ {i : Nat} {A : List Ex}, Ls[i]? = some A → (Ls.take (i + 1)).flatten = (Ls.take i).flatten ++ A := fun h => by rw [takeC h]; simp
  (repeat' (first | (refine LW.is ?_; first | refine s_v ?_ | refine s_m ?_ | refine s_nil ?_ | refine s_gd ?_ | (refine s_gsplit rfl rfl rfl (fun hb => ?_) (fun hb => ?_) <;> refine fct hb (fun hp => ?_))) | (refine DR.is ?_; first | refine d_v ?_ | refine d_m ?_ | (apply d_nil; kernel_rfl) | refine d_gd ?_ | (refine d_gsplit rfl rfl rfl (fun hb => ?_) (fun hb => ?_) <;> refine fct hb (fun hp => ?_))) | refine c_go ?_ | refine s_region ?_ | refine d_region ?_ | (refine L.cond rfl (fun hb => ?_) (fun hb => ?_) <;> refine fct hb (fun hp => ?_))))
  refine L.loopP (ι := Nat) (fun i => ⟨[(11, aI (i : Int)), (10, aI ((Ls.map exRow).length : Int)), (9, .iv (.sl (Ls.map exRow))), (3, aI ((Ls.take i).flatten.length : Int)), (0, .iv (.sl (Ls.map exRow)))], [], []⟩) (fun i => Ls.length - i) (fun i => True) (i0 := 0) ?_ trivial ?_
  · (refine Wk.mk' (by intro id h; cases h) ?_ ?_ ?_ <;> repeat' (first | exact WkF.nil | exact WkB.nil | exact WkT.nil | (refine WkF.cons rfl (Sub.refl _) ?_) | (refine WkB.cons rfl rfl (Subs.refl _) ?_) | (refine WkT.cons rfl ?_)))
  intro i _ K hK
  cases hx : Ls[i]? with
  | some A =>
    have hlt := ltT (l := Ls.map exRow) (getF (f := exRow) hx)
    have hlt' := ltN hx
    have g1 : (Ls.map exRow)[((i : Nat) : Int).toNat]? = some [.sl (A.map Ex.c)] := by rw [Int.toNat_natCast, List.getElem?_map, hx]; rfl
    have hA := fst hx
    have hB := flt (i + 1)
    rw [hA, List.length_append] at hB
    have lA : (A.map Ex.c).length = A.length := List.length_map _
    have hn : decide (((Ls.take i).flatten.length : Int) + ((A.map Ex.c).length : Int) < 0) = false := by simp; omega
    (repeat' (first | (refine LW.is ?_; first | (apply s_vr; exact rfl; apply v_indexA; exact rfl; exact rfl; omega; exact g1; exact rfl) | (apply s_vr; exact rfl; apply v_addI; exact rfl; exact rfl; (rw [lA]; omega); (rw [lA]; omega)) | refine s_v ?_ | refine s_m ?_ | refine s_nil ?_ | refine s_gd ?_ | (refine s_gsplit rfl rfl rfl (fun hb => ?_) (fun hb => ?_) <;> refine fct hb (fun hp => ?_))) | (refine DR.is ?_; first | (apply d_vr; exact rfl; apply v_indexA; exact rfl; exact rfl; omega; exact g1; exact rfl) | (apply d_vr; exact rfl; apply v_addI; exact rfl; exact rfl; (rw [lA]; omega); (rw [lA]; omega)) | refine d_v ?_ | refine d_m ?_ | (apply d_nil; kernel_rfl) | refine d_gd ?_ | (refine d_gsplit rfl rfl rfl (fun hb => ?_) (fun hb => ?_) <;> refine fct hb (fun hp => ?_))) | refine c_go ?_ | refine s_region ?_ | refine d_region ?_ | (refine L.cond rfl (fun hb => ?_) (fun hb => ?_) <;> refine fct hb (fun hp => ?_))))
    refine hK _ (i + 1) trivial (by omega) (Wk.mk' (by intro id h; cases h) (.cons rfl (Sub.refl _) (.cons rfl (Sub.refl _) (.cons rfl (Sub.refl _) (.cons rfl (Sub.of_eq ?_) (.cons rfl (Sub.refl _) .nil))))) .nil .nil)
    rw [hA, List.length_append, ← lA]; rfl
  | none =>
    have hlt := ltF (l := Ls.map exRow) (getFN hx)
    rw [take_all hx]
    clear hK hx
    have kg : ∀ n : Nat, n = Ls.flatten.length → 0 < n → CallA Tryd.prog 118 [.nils, aI (Ls.flatten.length : Int)] [] [] [(24, ⟨34, 8⟩)] (.row 24 []) := fun n hn h0 => growE_nil n _ (by omega) h0 (by omega)
    by_cases h0 : Ls.flatten.length = 0
    · rw [h0]
      have kz := growE_0
      (repeat' (first | (apply s_call0N; exact rfl; exact kz; exact rfl; exact rfl) | (refine LW.is ?_; first | refine s_v ?_ | refine s_m ?_ | refine s_nil ?_ | refine s_gd ?_ | (refine s_gsplit rfl rfl rfl (fun hb => ?_) (fun hb => ?_) <;> refine fct hb (fun hp => ?_))) | (refine DR.is ?_; first | refine d_v ?_ | refine d_m ?_ | (apply d_nil; kernel_rfl) | refine d_gd ?_ | (refine d_gsplit rfl rfl rfl (fun hb => ?_) (fun hb => ?_) <;> refine fct hb (fun hp => ?_))) | refine c_go ?_ | refine s_region ?_ | refine d_region ?_ | (refine L.cond rfl (fun hb => ?_) (fun hb => ?_) <;> refine fct hb (fun hp => ?_))))
      refine L.adopt 24 (s := 6) (t := 34) (k := 8) rfl rfl rfl ?_
      refine L.loopP (ι := Nat) (fun i => ⟨[(27, aI (i : Int)), (26, aI ((Ls.map exRow).length : Int)), (25, .iv (.sl (Ls.map exRow))), (6, .row 24 ((Ls.take i).flatten.map Ex.c))], [], [(24, ⟨34, 8⟩)]⟩) (fun i => Ls.length - i) (fun i => True) (i0 := 0) ?_ trivial ?_
      · (refine Wk.mk' (by intro id h; cases h) ?_ ?_ ?_ <;> repeat' (first | exact WkF.nil | exact WkB.nil | exact WkT.nil | (refine WkF.cons rfl (Sub.refl _) ?_) | (refine WkB.cons rfl rfl (Subs.refl _) ?_) | (refine WkT.cons rfl ?_)))
      intro i _ K hK
      cases hx : Ls[i]? with
      | some A =>
        have hlt := ltT (l := Ls.map exRow) (getF (f := exRow) hx)
        have hlt' := ltN hx
        have g1 : (Ls.map exRow)[((i : Nat) : Int).toNat]? = some [.sl (A.map Ex.c)] := by rw [Int.toNat_natCast, List.getElem?_map, hx]; rfl
        have hA := fst hx
        have hB := flt (i + 1)
        rw [hA, List.length_append] at hB
        (repeat' (first | (refine LW.is ?_; first | (apply s_vr; exact rfl; apply v_indexA; exact rfl; exact rfl; omega; exact g1; exact rfl) | (apply s_append; exact rfl; exact rfl; exact rfl; exact rfl; exact lenE _; exact lenE _; (rw [List.length_map, List.length_map, maxL]; omega); (rw [List.length_map, List.length_map]; omega); exact rfl; exact rfl) | refine s_v ?_ | refine s_m ?_ | refine s_nil ?_ | refine s_gd ?_ | (refine s_gsplit rfl rfl rfl (fun hb => ?_) (fun hb => ?_) <;> refine fct hb (fun hp => ?_))) | (refine DR.is ?_; first | (apply d_vr; exact rfl; apply v_indexA; exact rfl; exact rfl; omega; exact g1; exact rfl) | (apply d_append; exact rfl; exact rfl; exact rfl; exact rfl; exact lenE _; exact lenE _; (rw [List.length_map, List.length_map, maxL]; omega); (rw [List.length_map, List.length_map]; omega); exact rfl; exact rfl) | refine d_v ?_ | refine d_m ?_ | (apply d_nil; kernel_rfl) | refine d_gd ?_ | (refine d_gsplit rfl rfl rfl (fun hb => ?_) (fun hb => ?_) <;> refine fct hb (fun hp => ?_))) | refine c_go ?_ | refine s_region ?_ | refine d_region ?_ | (refine L.cond rfl (fun hb => ?_) (fun hb => ?_) <;> refine fct hb (fun hp => ?_))))
        refine L.only [27, 26, 25, 6] ?_
        refine L.retok 6 33 24 rfl rfl rfl rfl ?_
        refine hK _ (i + 1) trivial (by omega) (Wk.mk' (by intro id h; cases h) (.cons rfl (Sub.refl _) (.cons rfl (Sub.refl _) (.cons rfl (Sub.refl _) (.cons rfl (Sub.of_eq (congrArg (AV.row 24) (by rw [hA, List.map_append]))) .nil)))) .nil (.cons rfl .nil))
      | none =>
        have hlt := ltF (l := Ls.map exRow) (getFN hx)
        rw [take_all hx]
        (repeat' (first | (refine LW.is ?_; first | refine s_v ?_ | refine s_m ?_ | refine s_nil ?_ | refine s_gd ?_ | (refine s_gsplit rfl rfl rfl (fun hb => ?_) (fun hb => ?_) <;> refine fct hb (fun hp => ?_))) | (refine DR.is ?_; first | refine d_v ?_ | refine d_m ?_ | (apply d_nil; kernel_rfl) | refine d_gd ?_ | (refine d_gsplit rfl rfl rfl (fun hb => ?_) (fun hb => ?_) <;> refine fct hb (fun hp => ?_))) | refine c_go ?_ | refine s_region ?_ | refine d_region ?_ | (refine L.cond rfl (fun hb => ?_) (fun hb => ?_) <;> refine fct hb (fun hp => ?_))))
        all_goals (refine L.only [2] ?_)
        all_goals (refine L.retok 2 24 13 rfl rfl rfl rfl ?_)
        all_goals (apply L.ends; exact rfl; exact rfl; exact Sub.refl _; exact Wk.mk' (by intro id h; simp [keys] at h) .nil .nil (.cons rfl .nil))
    · have kr := kg _ rfl (by omega)
      (repeat' (first | (apply s_callRowN; exact rfl; exact kr; exact rfl; exact rfl) | (refine LW.is ?_; first | refine s_v ?_ | refine s_m ?_ | refine s_nil ?_ | refine s_gd ?_ | (refine s_gsplit rfl rfl rfl (fun hb => ?_) (fun hb => ?_) <;> refine fct hb (fun hp => ?_))) | (refine DR.is ?_; first | refine d_v ?_ | refine d_m ?_ | (apply d_nil; kernel_rfl) | refine d_gd ?_ | (refine d_gsplit rfl rfl rfl (fun hb => ?_) (fun hb => ?_) <;> refine fct hb (fun hp => ?_))) | refine c_go ?_ | refine s_region ?_ | refine d_region ?_ | (refine L.cond rfl (fun hb => ?_) (fun hb => ?_) <;> refine fct hb (fun hp => ?_))))
      refine L.loopP (ι := Nat) (fun i => ⟨[(27, aI (i : Int)), (26, aI ((Ls.map exRow).length : Int)), (25, .iv (.sl (Ls.map exRow))), (6, .row 24 ((Ls.take i).flatten.map Ex.c))], [], [(24, ⟨34, 8⟩)]⟩) (fun i => Ls.length - i) (fun i => True) (i0 := 0) ?_ trivial ?_
      · (refine Wk.mk' (by intro id h; cases h) ?_ ?_ ?_ <;> repeat' (first | exact WkF.nil | exact WkB.nil | exact WkT.nil | (refine WkF.cons rfl (Sub.refl _) ?_) | (refine WkB.cons rfl rfl (Subs.refl _) ?_) | (refine WkT.cons rfl ?_)))
      intro i _ K hK
      cases hx : Ls[i]? with
      | some A =>
        have hlt := ltT (l := Ls.map exRow) (getF (f := exRow) hx)
        have hlt' := ltN hx
        have g1 : (Ls.map exRow)[((i : Nat) : Int).toNat]? = some [.sl (A.map Ex.c)] := by rw [Int.toNat_natCast, List.getElem?_map, hx]; rfl
        have hA := fst hx
        have hB := flt (i + 1)
        rw [hA, List.length_append] at hB
        (repeat' (first | (refine LW.is ?_; first | (apply s_vr; exact rfl; apply v_indexA; exact rfl; exact rfl; omega; exact g1; exact rfl) | (apply s_append; exact rfl; exact rfl; exact rfl; exact rfl; exact lenE _; exact lenE _; (rw [List.length_map, List.length_map, maxL]; omega); (rw [List.length_map, List.length_map]; omega); exact rfl; exact rfl) | refine s_v ?_ | refine s_m ?_ | refine s_nil ?_ | refine s_gd ?_ | (refine s_gsplit rfl rfl rfl (fun hb => ?_) (fun hb => ?_) <;> refine fct hb (fun hp => ?_))) | (refine DR.is ?_; first | (apply d_vr; exact rfl; apply v_indexA; exact rfl; exact rfl; omega; exact g1; exact rfl) | (apply d_append; exact rfl; exact rfl; exact rfl; exact rfl; exact lenE _; exact lenE _; (rw [List.length_map, List.length_map, maxL]; omega); (rw [List.length_map, List.length_map]; omega); exact rfl; exact rfl) | refine d_v ?_ | refine d_m ?_ | (apply d_nil; kernel_rfl) | refine d_gd ?_ | (refine d_gsplit rfl rfl rfl (fun hb => ?_) (fun hb => ?_) <;> refine fct hb (fun hp => ?_))) | refine c_go ?_ | refine s_region ?_ | refine d_region ?_ | (refine L.cond rfl (fun hb => ?_) (fun hb => ?_) <;> refine fct hb (fun hp => ?_))))
        refine L.only [27, 26, 25, 6] ?_
        refine L.retok 6 33 24 rfl rfl rfl rfl ?_
        refine hK _ (i + 1) trivial (by omega) (Wk.mk' (by intro id h; cases h) (.cons rfl (Sub.refl _) (.cons rfl (Sub.refl _) (.cons rfl (Sub.refl _) (.cons rfl (Sub.of_eq (congrArg (AV.row 24) (by rw [hA, List.map_append]))) .nil)))) .nil (.cons rfl .nil))
      | none =>
        have hlt := ltF (l := Ls.map exRow) (getFN hx)
        rw [take_all hx]
        (repeat' (first | (refine LW.is ?_; first | refine s_v ?_ | refine s_m ?_ | refine s_nil ?_ | refine s_gd ?_ | (refine s_gsplit rfl rfl rfl (fun hb => ?_) (fun hb => ?_) <;> refine fct hb (fun hp => ?_))) | (refine DR.is ?_; first | refine d_v ?_ | refine d_m ?_ | (apply d_nil; kernel_rfl) | refine d_gd ?_ | (refine d_gsplit rfl rfl rfl (fun hb => ?_) (fun hb => ?_) <;> refine fct hb (fun hp => ?_))) | refine c_go ?_ | refine s_region ?_ | refine d_region ?_ | (refine L.cond rfl (fun hb => ?_) (fun hb => ?_) <;> refine fct hb (fun hp => ?_))))
        all_goals (refine L.only [2] ?_)
        all_goals (refine L.retok 2 24 13 rfl rfl rfl rfl ?_)
        all_goals (apply L.ends; exact rfl; exact rfl; exact Sub.refl _; exact Wk.mk' (by intro id h; simp [keys] at h) .nil .nil (.cons rfl .nil))
def exprsM (s : Stm) : List Ex := ((s.out ++ s.ord ++ s.rows.flatten) ++ s.sets.map Ast.e) ++ (if s.wh.op = 0 then [] else [s.wh])
structure Stm.Ok (s : Stm) : Prop where
  tot : (s.out.length + s.ord.length + s.rows.flatten.length + s.sets.length + 1) * 104 ≤ 140737488355328
  rows : s.rows.length * 24 ≤ 140737488355328
  sets : s.sets.length * 120 ≤ 140737488355328
  cols : s.cols.length ≤ 140737488355328
  frm : s.frm.length ≤ 140737488355328
  all : ∀ e ∈ exprsM s, e.OkS
  wh : s.wh.OkS
  name : s.name.length ≤ 140737488355328
  table : s.table.length ≤ 140737488355328
  col : s.col.length ≤ 140737488355328
  cn : ∀ c ∈ s.cols, c.n.length ≤ 140737488355328
set_option maxHeartbeats 8000000 in
theorem exprs_any (s : Stm) (hok : s.Ok) : CallA Tryd.prog 42 [.agg (s.cs.map .iv)] [] [] [] (.iv (.sl ((exprsM s).map Ex.c))) := by
  have htot := hok.tot
  have hrl := hok.rows
  clear hok
  obtain ⟨kind, name, table, col, cols, rows, sets, frm, out, wh, ord, down, n⟩ := s
  dsimp only at htot hrl
  have kc := concatE_any [out, ord] (by simp) (by simp; omega)
  rw [show [out, ord].flatten = out ++ ord by simp] at kc
  unfold exprsM
  dsimp only
  refine CallA.intro _ Tryd.func42 rfl Tryd.ntmps42 rfl (fun w0 E0 => ?_)
  have flt : ∀ i, (rows.take i).flatten.length ≤ rows.flatten.length := fun i => by
    conv => rhs; rw [← List.take_append_drop i rows, List.flatten_append, List.length_append]
    omega
  have fst : ∀ {i : Nat} {A : List Ex}, rows[i]? = some A → (rows.take (i + 1)).flatten = (rows.take i).flatten ++ A := fun h => by rw [takeC h]; simp
  (repeat' (first | (refine LW.is ?_; first | (apply s_callRow; exact rfl; exact kc; exact rfl; exact rfl) | refine s_v ?_ | refine s_m ?_ | refine s_nil ?_ | refine s_gd ?_ | (refine s_gsplit rfl rfl rfl (fun hb => ?_) (fun hb => ?_) <;> refine fct hb (fun hp => ?_))) | (refine DR.is ?_; first | (apply d_callRow; exact rfl; exact kc; exact rfl; exact rfl) | refine d_v ?_ | refine d_m ?_ | (apply d_nil; kernel_rfl) | refine d_gd ?_ | (refine d_gsplit rfl rfl rfl (fun hb => ?_) (fun hb => ?_) <;> refine fct hb (fun hp => ?_))) | refine c_go ?_ | refine s_region ?_ | refine d_region ?_ | (refine L.cond rfl (fun hb => ?_) (fun hb => ?_) <;> refine fct hb (fun hp => ?_))))
  refine L.loopP (ι := Nat) (fun i => ⟨[(17, aI (i : Int)), (16, aI ((rows.map exRow).length : Int)), (15, .iv (.sl (rows.map exRow))), (3, .row 13 ((out ++ ord ++ (rows.take i).flatten).map Ex.c)), (1, .ptr 1 0)], [(1, ⟨36, .l ((Stm.cs ⟨kind, name, table, col, cols, rows, sets, frm, out, wh, ord, down, n⟩).map .iv)⟩)], [(13, ⟨34, 8⟩)]⟩) (fun i => rows.length - i) (fun i => True) (i0 := 0) ?_ trivial ?_
  · refine Wk.mk' (by intro id h; cases h) (.cons rfl (Sub.refl _) (.cons rfl (Sub.refl _) (.cons rfl (Sub.refl _) (.cons rfl (Sub.of_eq (congrArg (AV.row 13) (by simp))) (.cons rfl (Sub.refl _) .nil))))) (.cons rfl rfl (Subs.refl _) .nil) (.cons rfl .nil)
  intro i _ K hK
  cases hx : rows[i]? with
  | some A =>
    have hlt := ltT (l := rows.map exRow) (getF (f := exRow) hx)
    have hlt' := ltN hx
    have g1 : (rows.map exRow)[((i : Nat) : Int).toNat]? = some [.sl (A.map Ex.c)] := by rw [Int.toNat_natCast, List.getElem?_map, hx]; rfl
    have hA := fst hx
    have hB := flt (i + 1)
    rw [hA, List.length_append] at hB
    (repeat' (first | (refine LW.is ?_; first | (apply s_vr; exact rfl; apply v_indexA; exact rfl; exact rfl; omega; exact g1; exact rfl) | (apply s_append; exact rfl; exact rfl; exact rfl; exact rfl; exact lenE _; exact lenE _; (simp only [List.length_map, List.length_append, maxL]; omega); (simp only [List.length_map, List.length_append]; omega); exact rfl; exact rfl) | refine s_v ?_ | refine s_m ?_ | refine s_nil ?_ | refine s_gd ?_ | (refine s_gsplit rfl rfl rfl (fun hb => ?_) (fun hb => ?_) <;> refine fct hb (fun hp => ?_))) | (refine DR.is ?_; first | (apply d_vr; exact rfl; apply v_indexA; exact rfl; exact rfl; omega; exact g1; exact rfl) | (apply d_append; exact rfl; exact rfl; exact rfl; exact rfl; exact lenE _; exact lenE _; (simp only [List.length_map, List.length_append, maxL]; omega); (simp only [List.length_map, List.length_append]; omega); exact rfl; exact rfl) | refine d_v ?_ | refine d_m ?_ | (apply d_nil; kernel_rfl) | refine d_gd ?_ | (refine d_gsplit rfl rfl rfl (fun hb => ?_) (fun hb => ?_) <;> refine fct hb (fun hp => ?_))) | refine c_go ?_ | refine s_region ?_ | refine d_region ?_ | (refine L.cond rfl (fun hb => ?_) (fun hb => ?_) <;> refine fct hb (fun hp => ?_))))
    refine L.only [17, 16, 15, 3, 1] ?_
    refine L.retok 3 23 13 rfl rfl rfl rfl ?_
    refine hK _ (i + 1) trivial (by omega) (Wk.mk' (by intro id h; cases h) (.cons rfl (Sub.refl _) (.cons rfl (Sub.refl _) (.cons rfl (Sub.refl _) (.cons rfl (Sub.of_eq (congrArg (AV.row 13) (by rw [hA]; simp))) (.cons rfl (Sub.refl _) .nil))))) (.cons rfl rfl (Subs.refl _) .nil) (.cons rfl .nil))
  | none =>
  have hlt := ltF (l := rows.map exRow) (getFN hx)
  rw [take_all hx]
  clear hK hx
  generalize hP : out ++ ord ++ rows.flatten = P at *
  have lP : P.length = out.length + ord.length + rows.flatten.length := by rw [← hP, List.length_append, List.length_append]
  clear hP
  have tot2 : (P.length + sets.length + 1) * 104 ≤ 140737488355328 := by rw [lP]; exact htot
  have tot3 : P.length + sets.length + 1 ≤ 1353245080340 := by clear htot; omega
  (repeat' (first | (refine LW.is ?_; first | refine s_v ?_ | refine s_m ?_ | refine s_nil ?_ | refine s_gd ?_ | (refine s_gsplit rfl rfl rfl (fun hb => ?_) (fun hb => ?_) <;> refine fct hb (fun hp => ?_))) | (refine DR.is ?_; first | refine d_v ?_ | refine d_m ?_ | (apply d_nil; kernel_rfl) | refine d_gd ?_ | (refine d_gsplit rfl rfl rfl (fun hb => ?_) (fun hb => ?_) <;> refine fct hb (fun hp => ?_))) | refine c_go ?_ | refine s_region ?_ | refine d_region ?_ | (refine L.cond rfl (fun hb => ?_) (fun hb => ?_) <;> refine fct hb (fun hp => ?_))))
  refine L.loopP (ι := Nat) (fun i => ⟨[(28, aI (i : Int)), (27, aI ((sets.map Ast.c).length : Int)), (26, .iv (.sl (sets.map Ast.c))), (3, .row 13 ((P ++ (sets.take i).map Ast.e).map Ex.c)), (1, .ptr 1 0)], [(1, ⟨36, .l ((Stm.cs ⟨kind, name, table, col, cols, rows, sets, frm, out, wh, ord, down, n⟩).map .iv)⟩)], [(13, ⟨34, 8⟩)]⟩) (fun i => sets.length - i) (fun i => True) (i0 := 0) ?_ trivial ?_
  · refine Wk.mk' (by intro id h; cases h) (.cons rfl (Sub.refl _) (.cons rfl (Sub.refl _) (.cons rfl (Sub.refl _) (.cons rfl (Sub.of_eq (congrArg (AV.row 13) (by simp))) (.cons rfl (Sub.refl _) .nil))))) (.cons rfl rfl (Subs.refl _) .nil) (.cons rfl .nil)
  intro j _ K hK
  cases hy : sets[j]? with
  | some x =>
    have hlt2 := ltT (l := sets.map Ast.c) (getF (f := Ast.c) hy)
    have hlt2' := ltN hy
    have g1 : (sets.map Ast.c)[((j : Nat) : Int).toNat]? = some [S x.co, I x.e.op, I x.e.v.k, I x.e.v.n, S x.e.v.s, S x.e.s, S x.e.name, I x.e.n, .sl (x.e.l.map Ex.c)] := by rw [Int.toNat_natCast, List.getElem?_map, hy]; rfl
    have hT : (sets.take (j + 1)).map Ast.e = (sets.take j).map Ast.e ++ [x.e] := by rw [takeC hy]; simp
    have hl : ((P ++ (sets.take j).map Ast.e).map Ex.c).length ≤ P.length + sets.length := by rw [List.length_map, List.length_append, List.length_map, List.length_take]; omega
    have bm : ((P ++ (sets.take j).map Ast.e).map Ex.c).length + 1 ≤ maxLen := Nat.le_trans (Nat.succ_le_succ hl) (Nat.le_trans tot3 (by rw [maxL]; decide))
    have bb : (((P ++ (sets.take j).map Ast.e).map Ex.c).length + 1) * 104 ≤ 225000000000000 := Nat.le_trans (Nat.mul_le_mul_right 104 (Nat.succ_le_succ hl)) (Nat.le_trans tot2 (by decide))
    (repeat' (first | (refine LW.is ?_; first | (apply s_vr; exact rfl; apply v_indexA; exact rfl; exact rfl; omega; exact g1; exact rfl) | (apply s_append; exact rfl; exact rfl; exact rfl; exact rfl; exact lenE _; exact len_cons rfl len_nil; exact bm; exact bb; exact rfl; exact rfl) | refine s_v ?_ | refine s_m ?_ | refine s_nil ?_ | refine s_gd ?_ | (refine s_gsplit rfl rfl rfl (fun hb => ?_) (fun hb => ?_) <;> refine fct hb (fun hp => ?_))) | (refine DR.is ?_; first | (apply d_vr; exact rfl; apply v_indexA; exact rfl; exact rfl; omega; exact g1; exact rfl) | (apply d_append; exact rfl; exact rfl; exact rfl; exact rfl; exact lenE _; exact len_cons rfl len_nil; exact bm; exact bb; exact rfl; exact rfl) | refine d_v ?_ | refine d_m ?_ | (apply d_nil; kernel_rfl) | refine d_gd ?_ | (refine d_gsplit rfl rfl rfl (fun hb => ?_) (fun hb => ?_) <;> refine fct hb (fun hp => ?_))) | refine c_go ?_ | refine s_region ?_ | refine d_region ?_ | (refine L.cond rfl (fun hb => ?_) (fun hb => ?_) <;> refine fct hb (fun hp => ?_))))
    refine L.onlyS [28, 27, 26, 3, 1] [1] rfl ?_
    refine L.retok 3 36 13 rfl rfl rfl rfl ?_
    refine hK _ (j + 1) trivial (by omega) (Wk.mk' (by intro id h; cases h) (.cons rfl (Sub.refl _) (.cons rfl (Sub.refl _) (.cons rfl (Sub.refl _) (.cons rfl (Sub.of_eq (congrArg (AV.row 13) (by rw [hT, ← List.append_assoc, List.map_append (l₂ := [x.e])]; exact congrArg _ (congrArg (· :: []) (Ex.c_cs x.e).symm)))) (.cons rfl (Sub.refl _) .nil))))) (.cons rfl rfl (Subs.refl _) .nil) (.cons rfl .nil))
  | none =>
  have hlt2 := ltF (l := sets.map Ast.c) (getFN hy)
  rw [take_all hy]
  clear hK hy
  generalize hR : P ++ sets.map Ast.e = R at *
  have lR : R.length = P.length + sets.length := by rw [← hR]; simp
  clear hR
  by_cases h0 : wh.op = 0
  · have q : (wh.op != 0) = false := by simp [h0]
    rw [if_pos h0, List.append_nil]
    (repeat' (first | (refine LW.is ?_; first | refine s_v ?_ | refine s_m ?_ | refine s_nil ?_ | refine s_gd ?_ | (refine s_gsplit rfl rfl rfl (fun hb => ?_) (fun hb => ?_) <;> refine fct hb (fun hp => ?_))) | (refine DR.is ?_; first | refine d_v ?_ | refine d_m ?_ | (apply d_nil; kernel_rfl) | refine d_gd ?_ | (refine d_gsplit rfl rfl rfl (fun hb => ?_) (fun hb => ?_) <;> refine fct hb (fun hp => ?_))) | refine c_go ?_ | refine s_region ?_ | refine d_region ?_ | (refine L.cond rfl (fun hb => ?_) (fun hb => ?_) <;> refine fct hb (fun hp => ?_))))
    all_goals (first | (apply L.ends1; exact rfl; exact rfl; exact rfl) | (apply L.ends2; exact rfl; exact rfl; exact rfl) | (apply L.ends3; exact rfl; exact rfl; exact rfl) | (apply L.ends1A; exact rfl; exact rfl; exact rfl) | (apply L.ends2A; exact rfl; exact rfl; exact rfl) | (apply L.ends3A; exact rfl; exact rfl; exact rfl))
    all_goals rfl
  · have q : (wh.op != 0) = true := by simp [h0]
    rw [if_neg h0]
    have bm : (R.map Ex.c).length + 1 ≤ maxLen := by rw [List.length_map, lR]; exact Nat.le_trans tot3 (by rw [maxL]; decide)
    have bb : ((R.map Ex.c).length + 1) * 104 ≤ 225000000000000 := by rw [List.length_map, lR]; exact Nat.le_trans tot2 (by decide)
    (repeat' (first | (refine LW.is ?_; first | (apply s_append; exact rfl; exact rfl; exact rfl; exact rfl; exact lenE _; exact len_cons rfl len_nil; exact bm; exact bb; exact rfl; exact rfl) | refine s_v ?_ | refine s_m ?_ | refine s_nil ?_ | refine s_gd ?_ | (refine s_gsplit rfl rfl rfl (fun hb => ?_) (fun hb => ?_) <;> refine fct hb (fun hp => ?_))) | (refine DR.is ?_; first | (apply d_append; exact rfl; exact rfl; exact rfl; exact rfl; exact lenE _; exact len_cons rfl len_nil; exact bm; exact bb; exact rfl; exact rfl) | refine d_v ?_ | refine d_m ?_ | (apply d_nil; kernel_rfl) | refine d_gd ?_ | (refine d_gsplit rfl rfl rfl (fun hb => ?_) (fun hb => ?_) <;> refine fct hb (fun hp => ?_))) | refine c_go ?_ | refine s_region ?_ | refine d_region ?_ | (refine L.cond rfl (fun hb => ?_) (fun hb => ?_) <;> refine fct hb (fun hp => ?_))))
    all_goals (first | (apply L.ends1; exact rfl; exact rfl; exact rfl) | (apply L.ends2; exact rfl; exact rfl; exact rfl) | (apply L.ends3; exact rfl; exact rfl; exact rfl) | (apply L.ends1A; exact rfl; exact rfl; exact rfl) | (apply L.ends2A; exact rfl; exact rfl; exact rfl) | (apply L.ends3A; exact rfl; exact rfl; exact rfl))
    all_goals (rw [List.map_append]; exact congrArg AV.iv (congrArg IV.sl (congrArg (R.map Ex.c ++ ·) (congrArg (· :: []) (Ex.c_cs wh).symm))))
end Go.Proofs.YthkobnpogigkiaaDoor
/- What comes in, as the model's values: commands, of no great size. Conditions: none. -/
namespace Go.Proofs.YthkobnpogigkiaaDoor
open Go.Abs
set_option linter.unusedVariables false
set_option maxRecDepth 100000
theorem szs_mem {es : List (List IV)} {e : List IV} (h : e ∈ es) : szs e ≤ szss es := by
  induction es with
  | nil => cases h
  | cons x es ih =>
    simp only [szss]
    rcases List.mem_cons.1 h with rfl | h
    · omega
    · have := ih h; omega
theorem fit_exS : ∀ (n : Nat) {xs : List IV}, szs xs ≤ n → Fits book [.int .i64, .int .i64, .int .i64, .str, .str, .str, .int .i64, .sl 34] xs → ∃ e : Ex, xs = e.c ∧ e.OkS := by
  intro n
  induction n with
  | zero =>
    intro xs hn h
    obtain ⟨x1, xs, rfl, h1, h⟩ := h.cons_inv
    have := sz_pos x1
    simp only [szs] at hn; omega
  | succ n ih =>
    intro xs hn h
    obtain ⟨x1, xs, rfl, h1, h⟩ := h.cons_inv
    obtain ⟨x2, xs, rfl, h2, h⟩ := h.cons_inv
    obtain ⟨x3, xs, rfl, h3, h⟩ := h.cons_inv
    obtain ⟨x4, xs, rfl, h4, h⟩ := h.cons_inv
    obtain ⟨x5, xs, rfl, h5, h⟩ := h.cons_inv
    obtain ⟨x6, xs, rfl, h6, h⟩ := h.cons_inv
    obtain ⟨x7, xs, rfl, h7, h⟩ := h.cons_inv
    obtain ⟨x8, xs, rfl, h8, h⟩ := h.cons_inv
    obtain rfl := h.nil_inv
    obtain ⟨es, rfl, hl, he⟩ := h8.sl_inv (n := 104) (cts := [.int .i64, .int .i64, .int .i64, .str, .str, .str, .int .i64, .sl 34]) rfl
    have hsz : szss es ≤ n := by
      have := sz_pos x1
      simp only [szs, IV.sz] at hn; omega
    obtain ⟨l, rfl, hok⟩ := map_of (f := Ex.c) (Q := fun _ e => e.OkS) (fun e h => ih (Nat.le_trans (szs_mem h) hsz) (he e h))
    obtain ⟨op, rfl, _⟩ := h1.int_inv
    obtain ⟨k, rfl, _⟩ := h2.int_inv
    obtain ⟨m, rfl, _⟩ := h3.int_inv
    obtain ⟨s1, rfl, _⟩ := h4.str_inv
    obtain ⟨s2, rfl, l2⟩ := h5.str_inv
    obtain ⟨s3, rfl, l3⟩ := h6.str_inv
    obtain ⟨q, rfl, _⟩ := h7.int_inv
    have hr : reachBytes = 140737488351232 := rfl
    refine ⟨.mk op ⟨k, m, s1⟩ s2 s3 q l, by rw [Ex.c_eq], .mk (by simp only [List.length_map] at hl; omega) (by omega) (by omega) hok⟩
theorem fit_exl {x : IV} (h : Fit book (.sl 34) x) : ∃ l : List Ex, x = .sl (l.map Ex.c) ∧ l.length ≤ szss (l.map Ex.c) ∧ ∀ e ∈ l, e.OkS := by
  obtain ⟨es, rfl, hl, he⟩ := h.sl_inv (n := 104) (cts := [.int .i64, .int .i64, .int .i64, .str, .str, .str, .int .i64, .sl 34]) rfl
  obtain ⟨l, rfl, hok⟩ := map_of (f := Ex.c) (Q := fun _ e => e.OkS) (fun e h => fit_exS _ (Nat.le_refl _) (he e h))
  have := szss_len (es := l.map Ex.c) (fun e he => by obtain ⟨y, _, rfl⟩ := List.mem_map.1 he; rw [Ex.c_cs]; exact Nat.succ_pos _)
  rw [List.length_map] at this
  exact ⟨l, rfl, this, hok⟩
theorem szss_rows : ∀ {rows : List (List Ex)}, (∀ r ∈ rows, r.length ≤ szss (r.map Ex.c)) → rows.flatten.length + rows.length ≤ szss (rows.map exRow)
  | [], _ => by simp [szss]
  | r :: rows, h => by
    have h1 := h r (List.mem_cons_self ..)
    have h2 := szss_rows (rows := rows) (fun r hr => h r (List.mem_cons_of_mem _ hr))
    have e : szs (exRow r) = szss (r.map Ex.c) + 1 := by simp only [exRow, szs, IV.sz, Nat.add_zero]
    simp only [List.flatten_cons, List.length_append, List.length_cons, List.map_cons, szss]
    omega
theorem fit_rowsE {x : IV} (h : Fit book (.sl 30) x) : ∃ rows : List (List Ex), x = .sl (rows.map exRow) ∧ rows.flatten.length + rows.length ≤ szss (rows.map exRow) ∧ ∀ r ∈ rows, ∀ e ∈ r, e.OkS := by
  obtain ⟨es, rfl, hl, he⟩ := h.sl_inv (n := 24) (cts := [.sl 34]) rfl
  obtain ⟨rs, rfl, hv⟩ := map_of (f := exRow) (Q := fun _ r => r.length ≤ szss (r.map Ex.c) ∧ ∀ e ∈ r, e.OkS) (fun e h => by
    obtain ⟨y, ys, rfl, h1, h2⟩ := (he e h).cons_inv
    obtain rfl := h2.nil_inv
    obtain ⟨l, rfl, h3, h4⟩ := fit_exl h1
    exact ⟨l, rfl, h3, h4⟩)
  exact ⟨rs, rfl, szss_rows (fun r hr => (hv r hr).1), fun r hr => (hv r hr).2⟩
theorem fit_ast {xs : List IV} (h : Fits book [.str, .int .i64, .int .i64, .int .i64, .str, .str, .str, .int .i64, .sl 34] xs) : ∃ x : Ast, xs = x.c ∧ x.e.OkS := by
  obtain ⟨y, ys, rfl, h1, h2⟩ := h.cons_inv
  obtain ⟨s, rfl, _⟩ := h1.str_inv
  obtain ⟨e, rfl, hok⟩ := fit_exS _ (Nat.le_refl _) h2
  exact ⟨⟨s, e⟩, by rw [Ast.c, Ex.c_cs], hok⟩
theorem szs_el {x : IV} : ∀ {xs : List IV}, x ∈ xs → x.sz ≤ szs xs
  | [], h => by cases h
  | y :: xs, h => by
    rw [szs]
    rcases List.mem_cons.1 h with rfl | h
    · exact Nat.le_add_right _ _
    · exact Nat.le_trans (szs_el h) (Nat.le_add_left _ _)
theorem szs_at {xs : List IV} {es : List (List IV)} (hz : szs xs ≤ 1048576) (i : Nat) (h : xs[i]? = some (.sl es)) : szss es ≤ 1048576 := by
  have := szs_el (List.mem_of_getElem? h)
  rw [IV.sz] at this
  exact Nat.le_trans (Nat.le_of_succ_le this) hz
theorem fit_stm {xs : List IV} (h : Fits book [.int .i64, .str, .str, .str, .sl 53, .sl 30, .sl 48, .sl 9, .sl 34, .int .i64, .int .i64, .int .i64, .str, .str, .str, .int .i64, .sl 34, .sl 34, .bool, .int .i64] xs) (hz : szs xs ≤ 1048576) :
    ∃ s : Stm, xs = s.cs ∧ s.Ok := by
  obtain ⟨x1, xs, rfl, h1, h⟩ := h.cons_inv
  obtain ⟨x2, xs, rfl, h2, h⟩ := h.cons_inv
  obtain ⟨x3, xs, rfl, h3, h⟩ := h.cons_inv
  obtain ⟨x4, xs, rfl, h4, h⟩ := h.cons_inv
  obtain ⟨x5, xs, rfl, h5, h⟩ := h.cons_inv
  obtain ⟨x6, xs, rfl, h6, h⟩ := h.cons_inv
  obtain ⟨x7, xs, rfl, h7, h⟩ := h.cons_inv
  obtain ⟨x8, xs, rfl, h8, h⟩ := h.cons_inv
  obtain ⟨x9, xs, rfl, h9, h⟩ := h.cons_inv
  obtain ⟨y1, xs, rfl, k1, h⟩ := h.cons_inv
  obtain ⟨y2, xs, rfl, k2, h⟩ := h.cons_inv
  obtain ⟨y3, xs, rfl, k3, h⟩ := h.cons_inv
  obtain ⟨y4, xs, rfl, k4, h⟩ := h.cons_inv
  obtain ⟨y5, xs, rfl, k5, h⟩ := h.cons_inv
  obtain ⟨y6, xs, rfl, k6, h⟩ := h.cons_inv
  obtain ⟨y7, xs, rfl, k7, h⟩ := h.cons_inv
  obtain ⟨y8, xs, rfl, k8, h⟩ := h.cons_inv
  obtain ⟨z1, xs, rfl, j1, h⟩ := h.cons_inv
  obtain ⟨z2, xs, rfl, j2, h⟩ := h.cons_inv
  obtain ⟨z3, xs, rfl, j3, h⟩ := h.cons_inv
  obtain rfl := h.nil_inv
  have hr : reachBytes = 140737488351232 := rfl
  obtain ⟨kind, rfl, _⟩ := h1.int_inv
  obtain ⟨name, rfl, l2⟩ := h2.str_inv
  obtain ⟨table, rfl, l3⟩ := h3.str_inv
  obtain ⟨col, rfl, l4⟩ := h4.str_inv
  obtain ⟨es, rfl, l5, e5⟩ := h5.sl_inv (n := 32) (cts := [.str, .int .i64, .bool]) rfl
  obtain ⟨cols, rfl, c5⟩ := map_of (f := Col.c) (Q := fun _ v => v.n.length ≤ 140737488355328) (fun e h => fit_col (e5 e h))
  rw [List.length_map] at l5
  obtain ⟨rows, rfl, l6, c6⟩ := fit_rowsE h6
  obtain ⟨es, rfl, l7, e7⟩ := h7.sl_inv (n := 120) (cts := [.str, .int .i64, .int .i64, .int .i64, .str, .str, .str, .int .i64, .sl 34]) rfl
  obtain ⟨sets, rfl, c7⟩ := map_of (f := Ast.c) (Q := fun _ v => v.e.OkS) (fun e h => fit_ast (e7 e h))
  have m7 := szss_len (es := sets.map Ast.c) (fun e he => by obtain ⟨y, _, rfl⟩ := List.mem_map.1 he; exact Nat.succ_pos _)
  rw [List.length_map] at l7 m7
  obtain ⟨es, rfl, l8, e8⟩ := h8.sl_inv (n := 16) (cts := [.str]) rfl
  obtain ⟨frm, rfl, c8⟩ := map_of (f := Str.c) (Q := fun _ v => v.length ≤ 140737488355328) (fun e h => by
    obtain ⟨y, ys, rfl, h1, h2⟩ := (e8 e h).cons_inv
    obtain rfl := h2.nil_inv
    obtain ⟨s, rfl, l⟩ := h1.str_inv
    exact ⟨s, rfl, by omega⟩)
  rw [List.length_map] at l8
  obtain ⟨out, rfl, m9, c9⟩ := fit_exl h9
  obtain ⟨op, rfl, _⟩ := k1.int_inv
  obtain ⟨vk, rfl, _⟩ := k2.int_inv
  obtain ⟨vn, rfl, _⟩ := k3.int_inv
  obtain ⟨vs, rfl, _⟩ := k4.str_inv
  obtain ⟨ws, rfl, lw⟩ := k5.str_inv
  obtain ⟨wn, rfl, lwn⟩ := k6.str_inv
  obtain ⟨wi, rfl, _⟩ := k7.int_inv
  have k8' := k8
  obtain ⟨es, rfl, l8w, _⟩ := k8'.sl_inv (n := 104) (cts := [.int .i64, .int .i64, .int .i64, .str, .str, .str, .int .i64, .sl 34]) rfl
  obtain ⟨wl, hwl, _, cw⟩ := fit_exl k8
  obtain rfl : es = wl.map Ex.c := by injection hwl
  rw [List.length_map] at l8w
  obtain ⟨ord, rfl, mo, co⟩ := fit_exl j1
  obtain ⟨down, rfl⟩ := j2.bool_inv
  obtain ⟨n, rfl, _⟩ := j3.int_inv
  have t1 : szss (out.map Ex.c) ≤ 1048576 := szs_at hz 8 rfl
  have t2 : szss (ord.map Ex.c) ≤ 1048576 := szs_at hz 17 rfl
  have t4 : szss (rows.map exRow) ≤ 1048576 := szs_at hz 5 rfl
  have t5 : szss (sets.map Ast.c) ≤ 1048576 := szs_at hz 6 rfl
  clear hz
  generalize szss (out.map Ex.c) = a1 at *
  generalize szss (ord.map Ex.c) = a2 at *
  generalize szss (rows.map exRow) = a4 at *
  generalize szss (sets.map Ast.c) = a5 at *
  have hwh : (Ex.mk op ⟨vk, vn, vs⟩ ws wn wi wl).OkS := .mk (by omega) (by omega) (by omega) cw
  refine ⟨⟨kind, name, table, col, cols, rows, sets, frm, out, .mk op ⟨vk, vn, vs⟩ ws wn wi wl, ord, down, n⟩, rfl, ?_⟩
  refine ⟨?_, ?_, ?_, ?_, ?_, fun e he => ?_, hwh, ?_, ?_, ?_, c5⟩
  · show (out.length + ord.length + rows.flatten.length + sets.length + 1) * 104 ≤ 140737488355328
    generalize rows.flatten.length = rl at *
    omega
  · show rows.length * 24 ≤ _
    generalize rows.flatten.length = rl at *
    omega
  · show sets.length * 120 ≤ _; omega
  · show cols.length ≤ _; omega
  · show frm.length ≤ _; omega
  · unfold exprsM at he
    simp only [List.mem_append, List.mem_flatten, List.mem_map] at he
    rcases he with (((he | he) | ⟨r, hr1, he⟩) | ⟨x, hx, rfl⟩) | he
    · exact c9 e he
    · exact co e he
    · exact c6 r hr1 e he
    · exact c7 x hx
    · split at he
      · simp at he
      · simp only [List.mem_singleton] at he; subst he; exact hwh
  · show name.length ≤ _; omega
  · show table.length ≤ _; omega
  · show col.length ≤ _; omega
end Go.Proofs.YthkobnpogigkiaaDoor
/- Values, plain laws: keys are ordered as values are. Conditions: none. -/
namespace Go.Proofs.YthkobnpogigkiaaDoor
open Go.Abs
set_option linter.unusedVariables false
set_option linter.unusedSimpArgs false
theorem u8_lt {a b : UInt8} : a < b ↔ a.toNat < b.toNat := UInt8.lt_iff_toNat_lt
theorem be4_less {a b : Int} (h0 : 0 ≤ a) (h1 : a < b) (h2 : b < 4294967296) (x y : List UInt8) : Op.bytesLess (be4 a ++ x) (be4 b ++ y) = true := by
  have a0 := u8_nat (n := a / 16777216) (by omega)
  have a1 := u8_nat (n := a / 65536) (by omega)
  have a2 := u8_nat (n := a / 256) (by omega)
  have a3 := u8_nat (n := a) (by omega)
  have b0 := u8_nat (n := b / 16777216) (by omega)
  have b1 := u8_nat (n := b / 65536) (by omega)
  have b2 := u8_nat (n := b / 256) (by omega)
  have b3 := u8_nat (n := b) (by omega)
  simp only [be4, List.cons_append, List.nil_append, Op.bytesLess]
  generalize u8 (a / 16777216) = c0 at *
  generalize u8 (a / 65536) = c1 at *
  generalize u8 (a / 256) = c2 at *
  generalize u8 a = c3 at *
  generalize u8 (b / 16777216) = d0 at *
  generalize u8 (b / 65536) = d1 at *
  generalize u8 (b / 256) = d2 at *
  generalize u8 b = d3 at *
  have ha : a = 16777216 * (c0.toNat : Int) + 65536 * c1.toNat + 256 * c2.toNat + c3.toNat := by omega
  have hb : b = 16777216 * (d0.toNat : Int) + 65536 * d1.toNat + 256 * d2.toNat + d3.toNat := by omega
  clear a0 a1 a2 a3 b0 b1 b2 b3
  have e0 := c0.toNat_lt
  have e1 := c1.toNat_lt
  have e2 := c2.toNat_lt
  have e3 := c3.toNat_lt
  have g0 := d0.toNat_lt
  have g1 := d1.toNat_lt
  have g2 := d2.toNat_lt
  have g3 := d3.toNat_lt
  have key : c0.toNat < d0.toNat ∨ c0.toNat = d0.toNat ∧ (c1.toNat < d1.toNat ∨ c1.toNat = d1.toNat ∧ (c2.toNat < d2.toNat ∨ c2.toNat = d2.toNat ∧ c3.toNat < d3.toNat)) := by omega
  simp only [Bool.or_eq_true, Bool.and_eq_true, decide_eq_true_eq, beq_iff_eq, u8_lt]
  rcases key with h | ⟨h, h' | ⟨h', h'' | ⟨h'', h3⟩⟩⟩
  · exact .inl h
  · exact .inr ⟨UInt8.toNat_inj.1 h, .inl h'⟩
  · exact .inr ⟨UInt8.toNat_inj.1 h, .inr ⟨UInt8.toNat_inj.1 h', .inl h''⟩⟩
  · exact .inr ⟨UInt8.toNat_inj.1 h, .inr ⟨UInt8.toNat_inj.1 h', .inr ⟨UInt8.toNat_inj.1 h'', .inl h3⟩⟩⟩
theorem text_less : ∀ {s t : List UInt8}, t.all charOk = true → Op.bytesLess s t = true → ∀ x y, Op.bytesLess (s ++ 0 :: x) (t ++ 0 :: y) = true
  | _, [], _, h, x, y => by simp [Op.bytesLess] at h
  | [], b :: t, ht, _, x, y => by
    simp only [List.all_cons, Bool.and_eq_true] at ht
    have hb : (0 : UInt8) < b := by
      rw [u8_lt]
      have := ht.1
      simp [charOk] at this
      have e : (0 : UInt8).toNat = 0 := rfl
      omega
    simp [Op.bytesLess, hb]
  | a :: s, b :: t, ht, h, x, y => by
    simp only [List.all_cons, Bool.and_eq_true] at ht
    simp only [Op.bytesLess, Bool.or_eq_true, Bool.and_eq_true, List.cons_append] at h ⊢
    exact h.imp id (fun ⟨h1, h2⟩ => ⟨h1, text_less ht.2 h2 x y⟩)
theorem less_irrefl (x : List UInt8) : Op.bytesLess x x = false := by rw [less_lt]; simp [List.lt_irrefl]
theorem less_asymm {x y : List UInt8} (h : Op.bytesLess x y = true) : Op.bytesLess y x = false := by
  rw [less_lt] at h ⊢
  simp only [decide_eq_true_eq, decide_eq_false_iff_not] at h ⊢
  exact List.lt_asymm h
theorem less_tri {x y : List UInt8} (h : Op.bytesLess x y = false) (h' : Op.bytesLess y x = false) : x = y := by
  rw [less_lt] at h h'
  simp only [decide_eq_false_iff_not] at h h'
  exact List.le_antisymm (List.not_lt.1 h') (List.not_lt.1 h)
theorem less_app (z : List UInt8) {x y : List UInt8} : Op.bytesLess (z ++ x) (z ++ y) = Op.bytesLess x y := by
  induction z with
  | nil => rfl
  | cons a z ih =>
    simp only [List.cons_append, Op.bytesLess, ih]
    have : ¬ a < a := by rw [u8_lt]; omega
    simp [this]
theorem cmpI_self (a : Int) : cmpI a a = 0 := by simp [cmpI]
theorem cmpS_self (a : List UInt8) : cmpS a a = 0 := by simp [cmpS, less_irrefl]
theorem cmp_one {v w : Val} (hv : goodM v = true) (hw : goodM w = true) : v = w ∧ cmpM v w = 0 ∨ (cmpM v w = -1 ∧ ∀ x y, Op.bytesLess (keyOne v ++ x) (keyOne w ++ y) = true) ∨ (cmpM v w = 1 ∧ ∀ x y, Op.bytesLess (keyOne w ++ y) (keyOne v ++ x) = true) := by
  rcases good_cases hv with rfl | ⟨n, rfl, h0, h1⟩ | ⟨s, rfl, hl, hs⟩ <;> rcases good_cases hw with rfl | ⟨m, rfl, k0, k1⟩ | ⟨t, rfl, kl, ks⟩
  · left; exact ⟨rfl, by simp [cmpM, cmpI_self, cmpS_self, orL]⟩
  · right; left; rw [keyOne0, keyOne1]
    exact ⟨by simp [cmpM, orL, cmpI], fun x y => by simp [Op.bytesLess]⟩
  · right; left; rw [keyOne0, keyOne2]
    exact ⟨by simp [cmpM, orL, cmpI], fun x y => by simp [Op.bytesLess]⟩
  · right; right; rw [keyOne0, keyOne1]
    exact ⟨by simp [cmpM, orL, cmpI], fun x y => by simp [Op.bytesLess]⟩
  · rw [keyOne1, keyOne1]
    by_cases h : n = m
    · subst h; left; exact ⟨rfl, by simp [cmpM, cmpI_self, cmpS_self, orL]⟩
    · by_cases h' : n < m
      · right; left
        refine ⟨by simp [cmpM, orL, cmpI, h'], fun x y => ?_⟩
        have := be4_less (a := n + 1073741824) (b := m + 1073741824) (by omega) (by omega) (by omega) x y
        simp only [List.cons_append, Op.bytesLess, this]; simp
      · right; right
        have h'' : m < n := by omega
        refine ⟨by simp [cmpM, orL, cmpI, h', h''], fun x y => ?_⟩
        have := be4_less (a := m + 1073741824) (b := n + 1073741824) (by omega) (by omega) (by omega) y x
        simp only [List.cons_append, Op.bytesLess, this]; simp
  · right; left; rw [keyOne1, keyOne2]
    exact ⟨by simp [cmpM, orL, cmpI], fun x y => by simp [Op.bytesLess]⟩
  · right; right; rw [keyOne0, keyOne2]
    exact ⟨by simp [cmpM, orL, cmpI], fun x y => by simp [Op.bytesLess]⟩
  · right; right; rw [keyOne1, keyOne2]
    exact ⟨by simp [cmpM, orL, cmpI], fun x y => by simp [Op.bytesLess]⟩
  · rw [keyOne2, keyOne2]
    cases h : Op.bytesLess s t with
    | true =>
      right; left
      refine ⟨by simp [cmpM, orL, cmpI, cmpS, h], fun x y => ?_⟩
      have := text_less ks h x y
      simp only [List.cons_append, List.append_assoc, List.nil_append, Op.bytesLess, this]; simp
    | false =>
      cases h' : Op.bytesLess t s with
      | true =>
        right; right
        refine ⟨by simp [cmpM, orL, cmpI, cmpS, h, h'], fun x y => ?_⟩
        have := text_less hs h' y x
        simp only [List.cons_append, List.append_assoc, List.nil_append, Op.bytesLess, this]; simp
      | false =>
        obtain rfl := less_tri h h'
        left; exact ⟨rfl, by simp [cmpM, cmpI_self, cmpS_self, orL]⟩
end Go.Proofs.YthkobnpogigkiaaDoor
/- Ways to rows, plain laws: what a tree holds behind plan.Put and plan.Drop; the way to all rows. Conditions: none. -/
namespace Go.Proofs.YthkobnpogigkiaaDoor
open Go.Abs
set_option linter.unusedVariables false
set_option linter.unusedSimpArgs false
theorem sort_flat {ps : List Pg} (h : goodTree ps = true) : SortF (flatP ps) := (good_flat ((good_iff ps).1 h).1).1 h
theorem put_mem {ps : List Pg} {k v : Str} (h : goodTree ps = true) (a b : Str) : (a, b) ∈ flatP (putM ps k v) ↔ (a = k ∧ b = v) ∨ (a ≠ k ∧ (a, b) ∈ flatP ps) := by
  rw [put_flat h]
  simp only [putF, List.mem_append, List.mem_cons, List.mem_filter, decide_eq_true_eq, Prod.mk.injEq]
  constructor
  · rintro (⟨h1, h2⟩ | h1 | ⟨h1, h2⟩)
    · exact .inr ⟨fun e => by rw [e] at h2; exact List.lt_irrefl _ h2, h1⟩
    · exact .inl h1
    · exact .inr ⟨fun e => by rw [e] at h2; exact List.lt_irrefl _ h2, h1⟩
  · rintro (h1 | ⟨h1, h2⟩)
    · exact .inr (.inl h1)
    · rcases lt_tri a k with h3 | h3 | h3
      · exact .inl ⟨h2, h3⟩
      · exact absurd h3 h1
      · exact .inr (.inr ⟨h2, h3⟩)
theorem find_iff {ps : List Pg} {k : Str} (h : goodTree ps = true) : (getM ps k).2 = true ↔ ∃ v, (k, v) ∈ flatP ps := by
  rw [get_flat h]
  constructor
  · intro e
    by_cases hx : ∃ w, (k, w) ∈ flatP ps
    · exact hx
    · rw [find_no (fun w hw => hx ⟨w, hw⟩)] at e; cases e
  · rintro ⟨v, hv⟩
    rw [find_some (sort_flat h) hv]
def ixOn (t : Tab) (x : Idx) : Bool := x.tb == t.n && decide (0 ≤ colM t x.co)
def ixKey (t : Tab) (row : List Val) (x : Idx) : Str := indexKeyM x.n (row.getD (colM t x.co).toNat nilV) (row.getD 0 nilV)
def ixKeys (t : Tab) (row : List Val) (l : List Idx) : List Str := (l.filter (ixOn t)).map (ixKey t row)
theorem ixKeys_cons (t : Tab) (row : List Val) (x : Idx) (l : List Idx) : ixKeys t row (x :: l) = if ixOn t x then ixKey t row x :: ixKeys t row l else ixKeys t row l := by
  unfold ixKeys; rw [List.filter_cons]; split <;> simp
theorem putIxs_mem (t : Tab) (row : List Val) : ∀ (l : List Idx) (ps : List Pg), goodTree ps = true → goodTree (l.foldl (putIx t row) ps) = true ∧ ∀ a b, (a, b) ∈ flatP (l.foldl (putIx t row) ps) ↔ (a ∈ ixKeys t row l ∧ b = []) ∨ (a ∉ ixKeys t row l ∧ (a, b) ∈ flatP ps)
  | [], ps, h => ⟨h, fun a b => by simp [ixKeys]⟩
  | x :: l, ps, h => by
    have hx : putIx t row ps x = if ixOn t x then putM ps (ixKey t row x) [] else ps := rfl
    rw [List.foldl_cons, hx, ixKeys_cons]
    cases hon : ixOn t x with
    | false => simpa using putIxs_mem t row l ps h
    | true =>
      simp only [if_true]
      have ih := putIxs_mem t row l (putM ps (ixKey t row x) []) (put_good h)
      refine ⟨ih.1, fun a b => ?_⟩
      rw [ih.2, put_mem h]
      simp only [List.mem_cons]
      constructor
      · rintro (⟨h1, h2⟩ | ⟨h1, ⟨h2, h3⟩ | ⟨h2, h3⟩⟩)
        · exact .inl ⟨.inr h1, h2⟩
        · exact .inl ⟨.inl h2, h3⟩
        · exact .inr ⟨fun e => e.elim h2 h1, h3⟩
      · rintro (⟨h1 | h1, h2⟩ | ⟨h1, h2⟩)
        · by_cases hm : a ∈ ixKeys t row l
          · exact .inl ⟨hm, h2⟩
          · exact .inr ⟨hm, .inl ⟨h1, h2⟩⟩
        · exact .inl ⟨h1, h2⟩
        · exact .inr ⟨fun e => h1 (.inr e), .inr ⟨fun e => h1 (.inl e), h2⟩⟩
def rowK (t : Tab) (row : List Val) : Str := rowKeyM t.n (row.getD 0 nilV)
theorem putT_mem {ps : List Pg} {c : Cat} {t : Tab} {row : List Val} (h : goodTree ps = true) (h0 : row.length ≠ 0) (hl : row.length = t.cols.length) : goodTree (putT ps c t row) = true ∧ ∀ a b, (a, b) ∈ flatP (putT ps c t row) ↔
    (a ∈ ixKeys t row c.is ∧ b = []) ∨ (a ∉ ixKeys t row c.is ∧ ((a = rowK t row ∧ b = keyS row) ∨ (a ≠ rowK t row ∧ (a, b) ∈ flatP ps))) := by
  rw [putT, if_neg (by omega)]
  have ih := putIxs_mem t row c.is (putM ps (rowKeyM t.n (row.getD 0 nilV)) (keyS row)) (put_good h)
  refine ⟨ih.1, fun a b => ?_⟩
  rw [ih.2, put_mem h]; rfl
theorem ix_head {t : Tab} {row : List Val} {l : List Idx} {a : Str} (h : a ∈ ixKeys t row l) : ∃ s, a = 120 :: s := by
  obtain ⟨x, _, rfl⟩ := List.mem_map.1 h
  exact ⟨_, rfl⟩
theorem row_head (t : Tab) (row : List Val) : ∃ s, rowK t row = 114 :: s := ⟨_, rfl⟩
theorem ix_row {t t' : Tab} {row row' : List Val} {l : List Idx} : rowK t row ∉ ixKeys t' row' l := fun h => by
  obtain ⟨s, hs⟩ := ix_head h
  obtain ⟨u, hu⟩ := row_head t row
  rw [hu] at hs; cases hs
theorem keyS_good {vs : List Val} (h : vs.all goodM = true) : keyS vs = vs.flatMap keyOne := by rw [keyS, keyM, if_pos h]
theorem keyS_vals {vs : List Val} (h : vs.all goodM = true) : valsM (keyS vs) = some vs := by rw [keyS_good h, valsM_key h]
theorem keyS_one {v w : Val} (hv : goodM v = true) (hw : goodM w = true) (h : keyS [v] = keyS [w]) : v = w := by
  have h1 := keyS_vals (vs := [v]) (by simp [hv])
  have h2 := keyS_vals (vs := [w]) (by simp [hw])
  rw [h, h2] at h1
  simpa using h1.symm
theorem app_lt (z x y : Str) : z ++ x < z ++ y ↔ x < y := by
  have := less_app z (x := x) (y := y)
  rw [ltS, ltS] at this
  simpa using this
theorem keyS_lt {v w : Val} (hv : goodM v = true) (hw : goodM w = true) : keyS [v] < keyS [w] ↔ cmpM v w = -1 := by
  have e1 : keyS [v] = keyOne v := by rw [keyS_good (by simp [hv])]; simp
  have e2 : keyS [w] = keyOne w := by rw [keyS_good (by simp [hw])]; simp
  rw [e1, e2]
  rcases cmp_one hv hw with ⟨rfl, h⟩ | ⟨h, hl⟩ | ⟨h, hl⟩
  · rw [h]; simp [List.lt_irrefl]
  · have := hl [] []
    rw [List.append_nil, List.append_nil, ltS] at this
    rw [h]; simpa using this
  · have := hl [] []
    rw [List.append_nil, List.append_nil, ltS] at this
    have hlt : keyOne w < keyOne v := by simpa using this
    rw [h]
    constructor
    · intro h2; exact absurd h2 (List.lt_asymm hlt)
    · intro h2; cases h2
theorem fitsFrom_get {row : List Val} : ∀ {cs : List Col} {i : Nat}, fitsFrom row i cs = true → ∀ j, j < cs.length → goodM (row.getD (i + j) nilV) = true
  | [], i, h, j, hj => by simp at hj
  | c :: cs, i, h, j, hj => by
    rw [fitsFrom, List.zipIdx_cons, List.all_cons, Bool.and_eq_true] at h
    cases j with
    | zero =>
      have h1 := h.1
      simp only [fitV] at h1
      cases hg : goodM (row.getD i nilV) with
      | true => simp
      | false => simp only [List.getD_eq_getElem?_getD] at hg h1; simp [hg] at h1
    | succ j =>
      have := fitsFrom_get (row := row) (cs := cs) (i := i + 1) h.2 j (by simpa using hj)
      rw [show i + 1 + j = i + (j + 1) by omega] at this; exact this
theorem fits_good {t : Tab} {row : List Val} (h : fitsM t row = true) : row.length = t.cols.length ∧ row.all goodM = true := by
  simp only [fitsM, Bool.and_eq_true, beq_iff_eq] at h
  refine ⟨h.1, List.all_eq_true.2 (fun v hv => ?_)⟩
  obtain ⟨i, hi, rfl⟩ := List.mem_iff_getElem.1 hv
  have := fitsFrom_get h.2 i (by omega)
  rw [Nat.zero_add, List.getD_eq_getElem?_getD, List.getElem?_eq_getElem hi] at this
  exact this
theorem good_getD {row : List Val} (h : row.all goodM = true) (i : Nat) : goodM (row.getD i nilV) = true := by
  rw [List.getD_eq_getElem?_getD]
  cases hx : row[i]? with
  | none => rfl
  | some v => exact List.all_eq_true.1 h v (List.mem_of_getElem? hx)
structure Holds (c : Cat) (t : Tab) (ps : List Pg) (own : List (List Val)) : Prop where
  good : goodTree ps = true
  fit : ∀ r ∈ own, r.length = t.cols.length ∧ r.all goodM = true
  dis : own.Pairwise (fun r r' => r.getD 0 nilV ≠ r'.getD 0 nilV)
  mem : ∀ a b, (a, b) ∈ flatP ps ↔ ∃ r ∈ own, (a = rowK t r ∧ b = keyS r) ∨ (a ∈ ixKeys t r c.is ∧ b = [])
theorem Holds.nil (c : Cat) (t : Tab) : Holds c t [] [] := ⟨rfl, by simp, .nil, by simp [flatP]⟩
theorem rowK_inj {t : Tab} {r r' : List Val} (h1 : r.all goodM = true) (h2 : r'.all goodM = true) (h : rowK t r = rowK t r') : r.getD 0 nilV = r'.getD 0 nilV :=
  keyS_one (good_getD h1 0) (good_getD h2 0) (List.append_cancel_left h)
theorem Holds.put {c : Cat} {t : Tab} {ps : List Pg} {own : List (List Val)} (h : Holds c t ps own) (h0 : t.cols.length ≠ 0) {row : List Val} (hf : row.length = t.cols.length ∧ row.all goodM = true) (hn : (getM ps (rowK t row)).2 = false) : Holds c t (putT ps c t row) (own ++ [row]) := by
  obtain ⟨hg, hm⟩ := putT_mem (c := c) h.good (by omega) hf.1
  have hno : ∀ v, (rowK t row, v) ∉ flatP ps := fun v hv => by
    rw [(find_iff h.good).2 ⟨v, hv⟩] at hn; cases hn
  have hdi : ∀ r ∈ own, r.getD 0 nilV ≠ row.getD 0 nilV := fun r hr e => by
    refine hno (keyS r) ((h.mem _ _).2 ⟨r, hr, .inl ⟨?_, rfl⟩⟩)
    rw [rowK, rowK, e]
  refine ⟨hg, fun r hr => ?_, List.pairwise_append.2 ⟨h.dis, List.pairwise_singleton _ _, fun r hr r' hr' => ?_⟩, fun a b => ?_⟩
  · rcases List.mem_append.1 hr with hr | hr
    · exact h.fit r hr
    · simp at hr; subst hr; exact hf
  · simp at hr'; subst hr'; exact hdi r hr
  · rw [hm]
    constructor
    · rintro (⟨h1, h2⟩ | ⟨h1, ⟨h2, h3⟩ | ⟨h2, h3⟩⟩)
      · exact ⟨row, by simp, .inr ⟨h1, h2⟩⟩
      · exact ⟨row, by simp, .inl ⟨h2, h3⟩⟩
      · obtain ⟨r, hr, hx⟩ := (h.mem a b).1 h3
        exact ⟨r, by simp [hr], hx⟩
    · rintro ⟨r, hr, hx⟩
      rcases List.mem_append.1 hr with hr | hr
      · by_cases hi : a ∈ ixKeys t row c.is
        · rcases hx with ⟨rfl, _⟩ | ⟨_, h2⟩
          · exact absurd hi ix_row
          · exact .inl ⟨hi, h2⟩
        · refine .inr ⟨hi, .inr ⟨?_, (h.mem a b).2 ⟨r, hr, hx⟩⟩⟩
          rcases hx with ⟨rfl, _⟩ | ⟨h1, _⟩
          · exact fun e => hdi r hr (rowK_inj (h.fit r hr).2 hf.2 e)
          · exact fun e => by rw [e] at h1; exact ix_row h1
      · simp at hr; subst hr
        rcases hx with ⟨h1, h2⟩ | ⟨h1, h2⟩
        · refine .inr ⟨fun e => ?_, .inl ⟨h1, h2⟩⟩
          rw [h1] at e; exact ix_row e
        · exact .inl ⟨h1, h2⟩
theorem lt_cons {a b : UInt8} {s u : Str} : (a :: s) < (b :: u) ↔ a < b ∨ a = b ∧ s < u := List.cons_lt_cons_iff
theorem all_in (n : Str) (s : Str) : ¬ (rowsK n ++ s < rowsK n) ∧ rowsK n ++ s < (allW n).hi := by
  constructor
  · intro hc
    have := (app_lt (rowsK n) s []).1 (by rw [List.append_nil]; exact hc)
    simp at this
  · show (([114] ++ n) ++ [0]) ++ s < ([114] ++ n) ++ [1]
    rw [List.append_assoc, app_lt]
    exact lt_cons.2 (.inl (by decide))
theorem all_out (n : Str) (s : Str) : ¬ ((120 : UInt8) :: s < (allW n).hi) := by
  show ¬ ((120 : UInt8) :: s < 114 :: (n ++ [1]))
  rw [lt_cons]
  rintro (h | ⟨h, _⟩)
  · exact absurd h (by decide)
  · exact absurd h (by decide)
theorem rowOf_key {t : Tab} {r : List Val} (h : r.length = t.cols.length ∧ r.all goodM = true) : rowOf t (keyS r) = some r := by
  rw [rowOf, keyS_vals h.2]; exact if_pos h.1
theorem flat_nodup {l : List Pr} (h : SortF l) : l.Nodup := (List.pairwise_map.1 h).imp (fun h e => by rw [e] at h; exact List.lt_irrefl _ h)
theorem all_range {c : Cat} {t : Tab} {ps : List Pg} {own : List (List Val)} (h : Holds c t ps own) :
    ∀ a b, (a, b) ∈ rangeM ps (allW t.n).lo (allW t.n).hi ↔ ∃ r ∈ own, a = rowK t r ∧ b = keyS r := by
  intro a b
  rw [range_law _ _ h.good, List.mem_filter, h.mem]
  constructor
  · rintro ⟨⟨r, hr, h1 | ⟨h1, h2⟩⟩, h3⟩
    · exact ⟨r, hr, h1⟩
    · obtain ⟨s, rfl⟩ := ix_head h1
      simp only [Bool.and_eq_true, decide_eq_true_eq] at h3
      exact absurd h3.2 (all_out t.n s)
  · rintro ⟨r, hr, rfl, rfl⟩
    refine ⟨⟨r, hr, .inl ⟨rfl, rfl⟩⟩, ?_⟩
    have := all_in t.n (keyS [r.getD 0 nilV])
    simp only [Bool.and_eq_true, Bool.not_eq_true', decide_eq_false_iff_not, decide_eq_true_eq]
    exact this
theorem rows_all {c : Cat} {t : Tab} {ps : List Pg} {own : List (List Val)} (h : Holds c t ps own) :
    (rowsT ps t (allW t.n)).Perm own ∧ (rowsT ps t (allW t.n)).Pairwise (fun r r' => cmpM (r.getD 0 nilV) (r'.getD 0 nilV) = -1) := by
  have hs : SortF (rangeM ps (allW t.n).lo (allW t.n).hi) := by
    rw [range_law _ _ h.good]; exact (sort_flat h.good).sublist (List.Sublist.map _ List.filter_sublist)
  have hp : rowsT ps t (allW t.n) = (rangeM ps (allW t.n).lo (allW t.n).hi).filterMap (fun x => rowOf t x.2) := by
    rw [rowsT]; congr 1
  have hm := all_range h
  generalize rangeM ps (allW t.n).lo (allW t.n).hi = R at *
  have hback : ∀ l : List (List Val), (∀ r ∈ l, r ∈ own) → (l.map (fun r => (rowK t r, keyS r))).filterMap (fun x : Pr => rowOf t x.2) = l := fun l hl => by
    induction l with
    | nil => rfl
    | cons r l ih =>
      rw [List.map_cons, List.filterMap_cons, rowOf_key (h.fit r (hl r (by simp))), ih (fun r hr => hl r (by simp [hr]))]
  have hnd : (own.map (fun r => (rowK t r, keyS r))).Nodup := by
    refine List.Pairwise.map _ (fun r r' h => h) ?_
    refine h.dis.imp_of_mem (fun {r r'} hr hr' hne e => hne ?_)
    exact rowK_inj (h.fit r hr).2 (h.fit r' hr').2 (Prod.mk.inj e).1
  have hperm : R.Perm (own.map (fun r => (rowK t r, keyS r))) := by
    refine (List.perm_ext_iff_of_nodup (flat_nodup hs) hnd).2 (fun ⟨a, b⟩ => ?_)
    rw [hm, List.mem_map]
    constructor
    · rintro ⟨r, hr, h1, h2⟩; exact ⟨r, hr, by rw [h1, h2]⟩
    · rintro ⟨r, hr, e⟩; exact ⟨r, hr, (Prod.mk.inj e).1.symm, (Prod.mk.inj e).2.symm⟩
  rw [hp]
  refine ⟨?_, ?_⟩
  · have := hperm.filterMap (fun x : Pr => rowOf t x.2)
    rwa [hback own (fun r hr => hr)] at this
  · refine List.pairwise_filterMap.2 ?_
    refine (List.pairwise_map.1 hs).imp_of_mem (fun {x y} hx hy hlt r hr r' hr' => ?_)
    obtain ⟨a, b⟩ := x
    obtain ⟨a', b'⟩ := y
    obtain ⟨q, hq, rfl, rfl⟩ := (hm a b).1 hx
    obtain ⟨q', hq', rfl, rfl⟩ := (hm a' b').1 hy
    have e1 := (rowOf_key (h.fit q hq)).symm.trans hr
    have e2 := (rowOf_key (h.fit q' hq')).symm.trans hr'
    cases e1; cases e2
    have hlt2 : keyS [r.getD 0 nilV] < keyS [r'.getD 0 nilV] := (app_lt (rowsK t.n) _ _).1 hlt
    exact (keyS_lt (good_getD (h.fit r hq).2 0) (good_getD (h.fit r' hq').2 0)).1 hlt2
end Go.Proofs.YthkobnpogigkiaaDoor
/- Commands, bound: what change computes. Conditions: how much there is of what comes in. -/
namespace Go.Proofs.YthkobnpogigkiaaDoor
open Go.Abs
set_option maxRecDepth 100000
attribute [local irreducible] L Code.wp bodyPost Exit.then Exit.inBlock
set_option linter.unusedVariables false
set_option linter.unusedSimpArgs false
theorem errT_at {α : Type} {l : List α} {g : α → Int} {i : Nat} {x : α} (h : ∀ y ∈ l.take i, g y = 0) (hx : l[i]? = some x) (hp : g x ≠ 0) : errM (l.map g) = g x := by
  have hi := (List.getElem?_eq_some_iff.1 hx).1
  have e : l.map g = (l.take i).map g ++ g x :: (l.drop (i + 1)).map g := by
    rw [← List.map_cons, ← List.map_append, ← (List.getElem?_eq_some_iff.1 hx).2, ← List.drop_eq_getElem_cons hi, List.take_append_drop]
  have hn : ((l.take i).map g).find? (fun f => f != 0) = none := List.find?_eq_none.2 (fun y hy => by obtain ⟨z, hz, rfl⟩ := List.mem_map.1 hy; simp [h z hz])
  have hq : (g x != 0) = true := by simpa using hp
  rw [errM, e, List.find?_append, hn, List.find?_cons, hq]; rfl
theorem errT_no {α : Type} {l : List α} {g : α → Int} (h : ∀ y ∈ l, g y = 0) : errM (l.map g) = 0 := by
  have hn : (l.map g).find? (fun f => f != 0) = none := List.find?_eq_none.2 (fun y hy => by obtain ⟨z, hz, rfl⟩ := List.mem_map.1 hy; simp [h z hz])
  rw [errM, hn]; rfl
theorem takeT_snoc {α : Type} {g : α → Int} {l : List α} {i : Nat} {x : α} (h : ∀ y ∈ l.take i, g y = 0) (hx : l[i]? = some x) (hp : g x = 0) : ∀ y ∈ l.take (i + 1), g y = 0 := fun y hy => by
  rw [List.take_add_one, hx] at hy
  rcases List.mem_append.1 hy with hy | hy
  · exact h y hy
  · simp at hy; subst hy; exact hp
theorem zip_at {α : Type} {l : List α} {i : Nat} {x : α} (h : l[i]? = some x) : l.zipIdx[i]? = some (x, i) := by simp [List.getElem?_zipIdx, h]
theorem zip_none {α : Type} {l : List α} {i : Nat} (h : l[i]? = none) : l.zipIdx[i]? = none := by simpa [List.getElem?_zipIdx] using h
def nilStA : List AV := [.iv (I 0), .iv (S []), .iv (S []), .iv (S []), .nils, .nils, .nils, .nils, .nils, .iv (I 0), .iv (I 0), .iv (I 0), .iv (S []), .iv (S []), .iv (S []), .iv (I 0), .nils, .nils, .iv (.im (.bool false)), .iv (I 0)]
def valE (t : Tab) (p : Ex × Nat) : Ex × Int := mustM [] p.1 (colTy t (p.2 : Int))
def rowM (t : Tab) (r : List Ex) : List Ex × Int :=
  if r.length ≠ t.cols.length then ([], 5) else (r.zipIdx.map fun p => (valE t p).1, errM (r.zipIdx.map fun p => (valE t p).2))
def setM (t : Tab) (l : List Ast) (p : Ast × Nat) : Ast × Int :=
  if colM t p.1.co < 0 then (p.1, 3)
  else if (l.take p.2).any (fun y => y.co == p.1.co) then (p.1, 4)
  else (⟨p.1.co, (mustM [t] p.1.e (colTy t (colM t p.1.co))).1⟩, (mustM [t] p.1.e (colTy t (colM t p.1.co))).2)
def rowsE (s : Stm) (t : Tab) : Int := errM (s.rows.map fun r => (rowM t r).2)
def setsE (s : Stm) (t : Tab) : Int := errM (s.sets.zipIdx.map fun p => (setM t s.sets p).2)
def changeM (s : Stm) (t : Tab) : Stm × Int :=
  if rowsE s t ≠ 0 then (s, rowsE s t)
  else if setsE s t ≠ 0 then (s, setsE s t)
  else ({ s with rows := s.rows.map fun r => (rowM t r).1, sets := s.sets.zipIdx.map fun p => (setM t s.sets p).1, wh := (whereM [t] s.wh).1 }, (whereM [t] s.wh).2)
theorem Ex.OkS.ok : ∀ {e : Ex}, e.OkS → e.Ok
  | .mk op v s name n l, .mk hl _ _ h => .mk hl (fun x hx => Ex.OkS.ok (h x hx))
 termination_by e => SizeOf.sizeOf e
 decreasing_by
  have := List.sizeOf_lt_of_mem hx
  simp; omega
theorem change1_any {gs : Globs} (y x : Ast) :
    CallG gs Tryd.prog 93 [.agg (y.c.map .iv), .ptr 1000 0] [(1000, ⟨48, .l (x.c.map .iv)⟩)] [(1000, ⟨48, .l (x.c.map .iv)⟩)] [] (aB (y.co == x.co)) := by
  refine CallG.intro _ Tryd.func93 rfl Tryd.ntmps93 rfl (fun w0 E0 hG => ?_)
  (repeat' (first | (refine LW.is ?_; first | refine s_v ?_ | refine s_m ?_ | refine s_nil ?_ | refine s_gd ?_ | (refine s_gsplit rfl rfl rfl (fun hb => ?_) (fun hb => ?_) <;> refine fct hb (fun hp => ?_))) | (refine DR.is ?_; first | refine d_v ?_ | refine d_m ?_ | (apply d_nil; kernel_rfl) | refine d_gd ?_ | (refine d_gsplit rfl rfl rfl (fun hb => ?_) (fun hb => ?_) <;> refine fct hb (fun hp => ?_))) | refine c_go ?_ | refine s_region ?_ | refine d_region ?_ | (refine L.cond rfl (fun hb => ?_) (fun hb => ?_) <;> refine fct hb (fun hp => ?_))))
  all_goals (apply L.ends; exact rfl; exact rfl; exact Sub.refl _; exact Wk.mk' (by intro id h; simp [keys] at h; subst h; rfl) .nil (.cons rfl rfl (Subs.refl _) .nil) .nil)
set_option maxHeartbeats 16000000 in
theorem change_any (s : Stm) (hok : s.Ok) (t : Tab) (ht : t.cols.length ≤ 1000) (hw : s.wh.Ok) :
    CallA Tryd.prog 49 [.agg (s.cs.map .iv), .agg (t.c.map .iv)] [] [] [] (.tup [.agg ((changeM s t).1.cs.map .iv), .iv (I (changeM s t).2)]) := by
  have kw := where_any [t] ⟨by simp, by simpa using ht⟩ s.wh hw
  have htot := hok.tot
  have hrl := hok.rows
  have hall := hok.all
  have hsl := hok.sets
  clear hok hw
  obtain ⟨kind, name, table, col, cols, rows, sets, frm, out, wh, ord, down, n⟩ := s
  dsimp only at htot hrl kw hsl
  have hrl2 : rows.length ≤ 5864062014806 := by clear htot; omega
  clear htot
  have hre : ∀ r ∈ rows, ∀ x ∈ r, x.Ok := fun r hr x hx => (hall x (by unfold exprsM; simp only [List.mem_append, List.mem_flatten]; exact .inl (.inl (.inr ⟨r, hr, hx⟩)))).ok
  have hse : ∀ x ∈ sets, x.e.Ok := fun x hx => (hall x.e (by unfold exprsM; simp only [List.mem_append, List.mem_map]; exact .inl (.inr ⟨x, hx, rfl⟩))).ok
  clear hall
  have htl : (t.cols.map Col.c).length = t.cols.length := List.length_map _
  unfold changeM
  dsimp only
  generalize whereM [t] wh = W at *
  obtain ⟨W1, W2⟩ := W
  refine CallG.toA (CallG.intro _ Tryd.func49 rfl Tryd.ntmps49 rfl (fun w0 E0 hG => ?_))
  (repeat' (first | (refine LW.is ?_; first | refine s_v ?_ | refine s_m ?_ | refine s_nil ?_ | refine s_gd ?_ | (refine s_gsplit rfl rfl rfl (fun hb => ?_) (fun hb => ?_) <;> refine fct hb (fun hp => ?_))) | (refine DR.is ?_; first | refine d_v ?_ | refine d_m ?_ | (apply d_nil; kernel_rfl) | refine d_gd ?_ | (refine d_gsplit rfl rfl rfl (fun hb => ?_) (fun hb => ?_) <;> refine fct hb (fun hp => ?_))) | refine c_go ?_ | refine s_region ?_ | refine d_region ?_ | (refine L.cond rfl (fun hb => ?_) (fun hb => ?_) <;> refine fct hb (fun hp => ?_))))
  refine L.adopt 6 (s := 6) (t := 30) (k := 1) rfl rfl rfl ?_
  refine L.loopP (ι := Nat) (fun i => ⟨[(25, aI (i : Int)), (24, aI ((rows.map exRow).length : Int)), (23, .iv (.sl (rows.map exRow))), (6, .row 6 (((rows.take i).map fun r => (rowM t r).1).map exRow)), (2, .ptr 2 0), (3, .ptr 3 0), (4, .ptr 4 0), (5, aI 0)],
    [(2, ⟨36, .l ((Stm.cs ⟨kind, name, table, col, cols, rows, sets, frm, out, wh, ord, down, n⟩).map .iv)⟩), (3, ⟨43, .l (t.c.map .iv)⟩), (4, ⟨36, .l nilStA⟩)], [(6, ⟨30, 1⟩)]⟩) (fun i => rows.length - i) (fun i => ∀ r ∈ rows.take i, (rowM t r).2 = 0) (i0 := 0) ?_ (by simp) ?_
  · (refine Wk.mk' (by intro id h; cases h) ?_ ?_ ?_ <;> repeat' (first | exact WkF.nil | exact WkB.nil | exact WkT.nil | (refine WkF.cons rfl (Sub.refl _) ?_) | (refine WkB.cons rfl rfl (Subs.refl _) ?_) | (refine WkT.cons rfl ?_)))
  intro i hI K hK
  cases hx : rows[i]? with
  | some r =>
    have hlt := ltT (l := rows.map exRow) (getF (f := exRow) hx)
    have hlt' := ltN hx
    have g1 : (rows.map exRow)[((i : Nat) : Int).toNat]? = some [.sl (r.map Ex.c)] := by rw [Int.toNat_natCast, List.getElem?_map, hx]; rfl
    by_cases hlen : r.length = t.cols.length
    case neg =>
      have hr : rowM t r = ([], 5) := by rw [rowM, if_pos hlen]
      have he : rowsE ⟨kind, name, table, col, cols, rows, sets, frm, out, wh, ord, down, n⟩ t = 5 := by
        have := errT_at (g := fun r => (rowM t r).2) hI hx (by rw [hr]; decide)
        rw [rowsE, this, hr]
      rw [he, if_pos (by decide)]
      have q : (((r.map Ex.c).length : Int) != ((t.cols.map Col.c).length : Int)) = true := by simp; omega
      (repeat' (first | (refine LW.is ?_; first | (apply s_vr; exact rfl; apply v_indexA; exact rfl; exact rfl; omega; exact g1; exact rfl) | refine s_v ?_ | refine s_m ?_ | refine s_nil ?_ | refine s_gd ?_ | (refine s_gsplit rfl rfl rfl (fun hb => ?_) (fun hb => ?_) <;> refine fct hb (fun hp => ?_))) | (refine DR.is ?_; first | (apply d_vr; exact rfl; apply v_indexA; exact rfl; exact rfl; omega; exact g1; exact rfl) | refine d_v ?_ | refine d_m ?_ | (apply d_nil; kernel_rfl) | refine d_gd ?_ | (refine d_gsplit rfl rfl rfl (fun hb => ?_) (fun hb => ?_) <;> refine fct hb (fun hp => ?_))) | refine c_go ?_ | refine s_region ?_ | refine d_region ?_ | (refine L.cond rfl (fun hb => ?_) (fun hb => ?_) <;> refine fct hb (fun hp => ?_))))
      all_goals (first | (apply L.ends1; exact rfl; exact rfl; exact rfl) | (apply L.ends2; exact rfl; exact rfl; exact rfl) | (apply L.ends3; exact rfl; exact rfl; exact rfl) | (apply L.ends1A; exact rfl; exact rfl; exact rfl) | (apply L.ends2A; exact rfl; exact rfl; exact rfl) | (apply L.ends3A; exact rfl; exact rfl; exact rfl))
      all_goals rfl
    have hlen' : (((r.map Ex.c).length : Int) != ((t.cols.map Col.c).length : Int)) = false := by simp; omega
    have hrE : rowM t r = (r.zipIdx.map fun p => (valE t p).1, errM (r.zipIdx.map fun p => (valE t p).2)) := by rw [rowM, if_neg (by omega)]
    have hxr := hre r (List.mem_of_getElem? hx)
    have hrt : r.length ≤ 1000 := by omega
    (repeat' (first | (refine LW.is ?_; first | (apply s_vr; exact rfl; apply v_indexA; exact rfl; exact rfl; omega; exact g1; exact rfl) | refine s_v ?_ | refine s_m ?_ | refine s_nil ?_ | refine s_gd ?_ | (refine s_gsplit rfl rfl rfl (fun hb => ?_) (fun hb => ?_) <;> refine fct hb (fun hp => ?_))) | (refine DR.is ?_; first | (apply d_vr; exact rfl; apply v_indexA; exact rfl; exact rfl; omega; exact g1; exact rfl) | refine d_v ?_ | refine d_m ?_ | (apply d_nil; kernel_rfl) | refine d_gd ?_ | (refine d_gsplit rfl rfl rfl (fun hb => ?_) (fun hb => ?_) <;> refine fct hb (fun hp => ?_))) | refine c_go ?_ | refine s_region ?_ | refine d_region ?_ | (refine L.cond rfl (fun hb => ?_) (fun hb => ?_) <;> refine fct hb (fun hp => ?_))))
    refine L.adopt 9 (s := 9) (t := 34) (k := 8) rfl rfl rfl ?_
    refine L.loopP (ι := Nat) (fun j => ⟨[(38, aI (j : Int)), (37, aI ((r.map Ex.c).length : Int)), (36, .iv (.sl (r.map Ex.c))), (9, .row 9 (((r.zipIdx.take j).map fun p => (valE t p).1).map Ex.c)), (25, aI (i : Int)), (24, aI ((rows.map exRow).length : Int)), (23, .iv (.sl (rows.map exRow))), (6, .row 6 (((rows.take i).map fun r => (rowM t r).1).map exRow)), (2, .ptr 2 0), (3, .ptr 3 0), (4, .ptr 4 0), (5, aI 0)],
      [(2, ⟨36, .l ((Stm.cs ⟨kind, name, table, col, cols, rows, sets, frm, out, wh, ord, down, n⟩).map .iv)⟩), (3, ⟨43, .l (t.c.map .iv)⟩), (4, ⟨36, .l nilStA⟩)], [(9, ⟨34, 8⟩), (6, ⟨30, 1⟩)]⟩) (fun j => r.length - j) (fun j => ∀ p ∈ r.zipIdx.take j, (valE t p).2 = 0) (i0 := 0) ?_ (by simp) ?_
    · (refine Wk.mk' (by intro id h; cases h) ?_ ?_ ?_ <;> repeat' (first | exact WkF.nil | exact WkB.nil | exact WkT.nil | (refine WkF.cons rfl (Sub.refl _) ?_) | (refine WkB.cons rfl rfl (Subs.refl _) ?_) | (refine WkT.cons rfl ?_)))
    intro j hJ K2 hK2
    cases hy : r[j]? with
    | some x =>
      have jlt := ltT (l := r.map Ex.c) (getF (f := Ex.c) hy)
      have jlt' := ltN hy
      have hz := zip_at hy
      have kx := must_any [] Sc.nil x (hxr x (List.mem_of_getElem? hy)) (colTy t (j : Int))
      have hct : colTy t (j : Int) = (t.cols.getD j ⟨[], 0, false⟩).t := by rw [colTy, Int.toNat_natCast]
      have g2 : (r.map Ex.c)[((j : Nat) : Int).toNat]? = some [I x.op, I x.v.k, I x.v.n, S x.v.s, S x.s, S x.name, I x.n, .sl (x.l.map Ex.c)] := by rw [Int.toNat_natCast, List.getElem?_map, hy]; exact congrArg some (Ex.c_cs x)
      have g3 : (t.cols.map Col.c)[((j : Nat) : Int).toNat]? = some [S (t.cols.getD j ⟨[], 0, false⟩).n, I (t.cols.getD j ⟨[], 0, false⟩).t, .im (.bool (t.cols.getD j ⟨[], 0, false⟩).m)] := by rw [Int.toNat_natCast, List.getElem?_map, getD_some ⟨[], 0, false⟩ (show j < t.cols.length by omega)]; rfl
      have hv : valE t (x, j) = mustM [] x (colTy t (j : Int)) := rfl
      have n1 : (((r.zipIdx.take (j + 1)).map fun p => (valE t p).1).map Ex.c) = ((r.zipIdx.take j).map fun p => (valE t p).1).map Ex.c ++ [(valE t (x, j)).1.cs] := by rw [takeC hz, List.map_append, List.map_append]; exact congrArg _ (by simp [Ex.c_cs])
      have l1 : (((r.zipIdx.take j).map fun p => (valE t p).1).map Ex.c).length ≤ 1000 := by simp; omega
      have bm : (((r.zipIdx.take j).map fun p => (valE t p).1).map Ex.c).length + 1 ≤ maxLen := Nat.le_trans (Nat.succ_le_succ l1) (by rw [maxL]; decide)
      have bb : ((((r.zipIdx.take j).map fun p => (valE t p).1).map Ex.c).length + 1) * 104 ≤ 225000000000000 := Nat.le_trans (Nat.mul_le_mul_right 104 (Nat.succ_le_succ l1)) (by decide)
      by_cases hf : (valE t (x, j)).2 = 0
      · have hJ' := takeT_snoc (g := fun p => (valE t p).2) hJ hz hf
        rw [hv] at hf n1
        rw [hct] at kx hf n1
        generalize mustM [] x (t.cols.getD j ⟨[], 0, false⟩).t = m at *
        obtain ⟨e, f⟩ := m
        dsimp only at hf kx n1
        subst hf
        generalize t.cols.getD j ⟨[], 0, false⟩ = cc at *
        have k1 := lenE ((r.zipIdx.take j).map fun p => (valE t p).1)
        generalize ((r.zipIdx.take j).map fun p => (valE t p).1).map Ex.c = es at *
        (repeat' (first | (refine LW.is ?_; first | (apply s_vr; exact rfl; apply v_indexA; exact rfl; exact rfl; omega; (first | exact g2 | exact g3); exact rfl) | (apply s_call0; exact rfl; exact kx; exact rfl; exact rfl) | (apply s_append; exact rfl; exact rfl; exact rfl; exact rfl; exact k1; exact len_cons rfl len_nil; exact bm; exact bb; exact rfl; exact rfl) | refine s_v ?_ | refine s_m ?_ | refine s_nil ?_ | refine s_gd ?_ | (refine s_gsplit rfl rfl rfl (fun hb => ?_) (fun hb => ?_) <;> refine fct hb (fun hp => ?_))) | (refine DR.is ?_; first | (apply d_vr; exact rfl; apply v_indexA; exact rfl; exact rfl; omega; (first | exact g2 | exact g3); exact rfl) | (apply d_call0; exact rfl; exact kx; exact rfl; exact rfl) | (apply d_append; exact rfl; exact rfl; exact rfl; exact rfl; exact k1; exact len_cons rfl len_nil; exact bm; exact bb; exact rfl; exact rfl) | refine d_v ?_ | refine d_m ?_ | (apply d_nil; kernel_rfl) | refine d_gd ?_ | (refine d_gsplit rfl rfl rfl (fun hb => ?_) (fun hb => ?_) <;> refine fct hb (fun hp => ?_))) | refine c_go ?_ | refine s_region ?_ | refine d_region ?_ | (refine L.cond rfl (fun hb => ?_) (fun hb => ?_) <;> refine fct hb (fun hp => ?_))))
        refine L.onlyS [38, 37, 36, 9, 25, 24, 23, 6, 2, 3, 4, 5] [2, 3, 4] rfl ?_
        refine L.retok 9 62 9 rfl rfl rfl rfl ?_
        refine hK2 _ (j + 1) hJ' (by omega) (Wk.mk' (by intro id h; cases h) (.cons rfl (Sub.refl _) (.cons rfl (Sub.refl _) (.cons rfl (Sub.refl _) (.cons rfl (Sub.of_eq (congrArg (AV.row 9) n1.symm)) (.cons rfl (Sub.refl _) (.cons rfl (Sub.refl _) (.cons rfl (Sub.refl _) (.cons rfl (Sub.refl _) (.cons rfl (Sub.refl _) (.cons rfl (Sub.refl _) (.cons rfl (Sub.refl _) (.cons rfl (Sub.refl _) .nil)))))))))))) (.cons rfl rfl (Subs.refl _) (.cons rfl rfl (Subs.refl _) (.cons rfl rfl (Subs.refl _) .nil))) (.cons rfl (.cons rfl .nil)))
      · have he : rowsE ⟨kind, name, table, col, cols, rows, sets, frm, out, wh, ord, down, n⟩ t = (valE t (x, j)).2 := by
          have h1 := errT_at (g := fun p => (valE t p).2) hJ hz hf
          have h2 : (rowM t r).2 = (valE t (x, j)).2 := by rw [hrE]; exact h1
          have := errT_at (g := fun r => (rowM t r).2) hI hx (by rw [h2]; exact hf)
          rw [rowsE, this, h2]
        rw [he, if_pos hf]
        rw [hv] at hf ⊢
        rw [hct] at kx hf ⊢
        generalize mustM [] x (t.cols.getD j ⟨[], 0, false⟩).t = m at *
        obtain ⟨e, f⟩ := m
        dsimp only at hf kx ⊢
        generalize t.cols.getD j ⟨[], 0, false⟩ = cc at *
        have q : (f != 0) = true := by simpa using hf
        (repeat' (first | (refine LW.is ?_; first | (apply s_vr; exact rfl; apply v_indexA; exact rfl; exact rfl; omega; (first | exact g2 | exact g3); exact rfl) | (apply s_call0; exact rfl; exact kx; exact rfl; exact rfl) | refine s_v ?_ | refine s_m ?_ | refine s_nil ?_ | refine s_gd ?_ | (refine s_gsplit rfl rfl rfl (fun hb => ?_) (fun hb => ?_) <;> refine fct hb (fun hp => ?_))) | (refine DR.is ?_; first | (apply d_vr; exact rfl; apply v_indexA; exact rfl; exact rfl; omega; (first | exact g2 | exact g3); exact rfl) | (apply d_call0; exact rfl; exact kx; exact rfl; exact rfl) | refine d_v ?_ | refine d_m ?_ | (apply d_nil; kernel_rfl) | refine d_gd ?_ | (refine d_gsplit rfl rfl rfl (fun hb => ?_) (fun hb => ?_) <;> refine fct hb (fun hp => ?_))) | refine c_go ?_ | refine s_region ?_ | refine d_region ?_ | (refine L.cond rfl (fun hb => ?_) (fun hb => ?_) <;> refine fct hb (fun hp => ?_))))
        all_goals (first | (apply L.ends1; exact rfl; exact rfl; exact rfl) | (apply L.ends2; exact rfl; exact rfl; exact rfl) | (apply L.ends3; exact rfl; exact rfl; exact rfl) | (apply L.ends1A; exact rfl; exact rfl; exact rfl) | (apply L.ends2A; exact rfl; exact rfl; exact rfl) | (apply L.ends3A; exact rfl; exact rfl; exact rfl))
        all_goals rfl
    | none =>
      have jlt := ltF (l := r.map Ex.c) (getFN hy)
      have hzn := zip_none hy
      rw [take_all hzn] at hJ ⊢
      have h0 : (rowM t r).2 = 0 := by rw [hrE]; exact errT_no hJ
      have hI' := takeT_snoc (g := fun r => (rowM t r).2) hI hx h0
      have n1 : (((rows.take (i + 1)).map fun r => (rowM t r).1).map exRow) = ((rows.take i).map fun r => (rowM t r).1).map exRow ++ [exRow (r.zipIdx.map fun p => (valE t p).1)] := by rw [takeC hx, List.map_append, List.map_append]; exact congrArg _ (by simp [hrE])
      have l1 : (((rows.take i).map fun r => (rowM t r).1).map exRow).length + 1 ≤ rows.length := by simp; omega
      have bm : (((rows.take i).map fun r => (rowM t r).1).map exRow).length + 1 ≤ maxLen := Nat.le_trans l1 (Nat.le_trans hrl2 (by rw [maxL]; decide))
      have bb : ((((rows.take i).map fun r => (rowM t r).1).map exRow).length + 1) * 24 ≤ 225000000000000 := Nat.le_trans (Nat.mul_le_mul_right 24 l1) (Nat.le_trans hrl (by decide))
      have k1 : ∀ e ∈ ((rows.take i).map fun r => (rowM t r).1).map exRow, e.length = 1 := fun e he => by obtain ⟨y, _, rfl⟩ := List.mem_map.1 he; rfl
      generalize ((rows.take i).map fun r => (rowM t r).1).map exRow = es at *
      (repeat' (first | (refine LW.is ?_; first | (apply s_append; exact rfl; exact rfl; exact rfl; exact rfl; exact k1; exact len_cons rfl len_nil; exact bm; exact bb; exact rfl; exact rfl) | refine s_v ?_ | refine s_m ?_ | refine s_nil ?_ | refine s_gd ?_ | (refine s_gsplit rfl rfl rfl (fun hb => ?_) (fun hb => ?_) <;> refine fct hb (fun hp => ?_))) | (refine DR.is ?_; first | (apply d_append; exact rfl; exact rfl; exact rfl; exact rfl; exact k1; exact len_cons rfl len_nil; exact bm; exact bb; exact rfl; exact rfl) | refine d_v ?_ | refine d_m ?_ | (apply d_nil; kernel_rfl) | refine d_gd ?_ | (refine d_gsplit rfl rfl rfl (fun hb => ?_) (fun hb => ?_) <;> refine fct hb (fun hp => ?_))) | refine c_go ?_ | refine s_region ?_ | refine d_region ?_ | (refine L.cond rfl (fun hb => ?_) (fun hb => ?_) <;> refine fct hb (fun hp => ?_))))
      refine L.onlyS [25, 24, 23, 6, 2, 3, 4, 5] [2, 3, 4] rfl ?_
      refine L.retok 6 67 6 rfl rfl rfl rfl ?_
      refine hK _ (i + 1) hI' (by omega) (Wk.mk' (by intro id h; cases h) (.cons rfl (Sub.refl _) (.cons rfl (Sub.refl _) (.cons rfl (Sub.refl _) (.cons rfl (Sub.of_eq (congrArg (AV.row 6) n1.symm)) (.cons rfl (Sub.refl _) (.cons rfl (Sub.refl _) (.cons rfl (Sub.refl _) (.cons rfl (Sub.refl _) .nil)))))))) (.cons rfl rfl (Subs.refl _) (.cons rfl rfl (Subs.refl _) (.cons rfl rfl (Subs.refl _) .nil))) (.cons rfl .nil))
  | none =>
  have hlt := ltF (l := rows.map exRow) (getFN hx)
  rw [take_all hx] at hI ⊢
  have he0 : rowsE ⟨kind, name, table, col, cols, rows, sets, frm, out, wh, ord, down, n⟩ t = 0 := errT_no hI
  rw [he0, if_neg (by decide)]
  clear hK hx hI hre he0
  generalize hRW : rows.map (fun r => (rowM t r).1) = RW at *
  clear hRW
  (repeat' (first | (refine LW.is ?_; first | refine s_v ?_ | refine s_m ?_ | refine s_nil ?_ | refine s_gd ?_ | (refine s_gsplit rfl rfl rfl (fun hb => ?_) (fun hb => ?_) <;> refine fct hb (fun hp => ?_))) | (refine DR.is ?_; first | refine d_v ?_ | refine d_m ?_ | (apply d_nil; kernel_rfl) | refine d_gd ?_ | (refine d_gsplit rfl rfl rfl (fun hb => ?_) (fun hb => ?_) <;> refine fct hb (fun hp => ?_))) | refine c_go ?_ | refine s_region ?_ | refine d_region ?_ | (refine L.cond rfl (fun hb => ?_) (fun hb => ?_) <;> refine fct hb (fun hp => ?_))))
  refine L.adopt 14 (s := 14) (t := 48) (k := 9) rfl rfl rfl ?_
  refine L.loopP (ι := Nat) (fun j => ⟨[(72, aI (j : Int)), (71, aI ((sets.map Ast.c).length : Int)), (70, .iv (.sl (sets.map Ast.c))), (14, .row 14 (((sets.zipIdx.take j).map fun p => (setM t sets p).1).map Ast.c)), (6, .row 6 (RW.map exRow)), (2, .ptr 2 0), (3, .ptr 3 0), (4, .ptr 4 0), (5, aI 0)],
    [(2, ⟨36, .l ((Stm.cs ⟨kind, name, table, col, cols, rows, sets, frm, out, wh, ord, down, n⟩).map .iv)⟩), (3, ⟨43, .l (t.c.map .iv)⟩), (4, ⟨36, .l nilStA⟩)], [(14, ⟨48, 9⟩), (6, ⟨30, 1⟩)]⟩) (fun j => sets.length - j) (fun j => ∀ p ∈ sets.zipIdx.take j, (setM t sets p).2 = 0) (i0 := 0) ?_ (by simp) ?_
  · (refine Wk.mk' (by intro id h; cases h) ?_ ?_ ?_ <;> repeat' (first | exact WkF.nil | exact WkB.nil | exact WkT.nil | (refine WkF.cons rfl (Sub.refl _) ?_) | (refine WkB.cons rfl rfl (Subs.refl _) ?_) | (refine WkT.cons rfl ?_)))
  intro j hJ K hK
  cases hy : sets[j]? with
  | some x =>
    have jlt := ltT (l := sets.map Ast.c) (getF (f := Ast.c) hy)
    have jlt' := ltN hy
    have hz := zip_at hy
    have hxe := hse x (List.mem_of_getElem? hy)
    have g2 : (sets.map Ast.c)[((j : Nat) : Int).toNat]? = some [S x.co, I x.e.op, I x.e.v.k, I x.e.v.n, S x.e.v.s, S x.e.s, S x.e.name, I x.e.n, .sl (x.e.l.map Ex.c)] := by rw [Int.toNat_natCast, List.getElem?_map, hy]; rfl
    have kf := findCol_any t x.co (by omega)
    have hset : setM t sets (x, j) = if colM t x.co < 0 then (x, 3) else if (sets.take j).any (fun y => y.co == x.co) then (x, 4) else (⟨x.co, (mustM [t] x.e (colTy t (colM t x.co))).1⟩, (mustM [t] x.e (colTy t (colM t x.co))).2) := rfl
    have hE : (setM t sets (x, j)).2 ≠ 0 → setsE ⟨kind, name, table, col, cols, rows, sets, frm, out, wh, ord, down, n⟩ t = (setM t sets (x, j)).2 := fun h => errT_at (g := fun p => (setM t sets p).2) hJ hz h
    by_cases hc0 : colM t x.co < 0
    · have q : decide (colM t x.co < 0) = true := decide_eq_true hc0
      have h1 : setM t sets (x, j) = (x, 3) := by rw [hset, if_pos hc0]
      rw [hE (by rw [h1]; exact (by decide : (3 : Int) ≠ 0)), h1, if_pos (show (3 : Int) ≠ 0 by decide)]
      (repeat' (first | (refine LW.is ?_; first | (apply s_vr; exact rfl; apply v_indexA; exact rfl; exact rfl; omega; exact g2; exact rfl) | (apply s_call0; exact rfl; exact kf; exact rfl; exact rfl) | refine s_v ?_ | refine s_m ?_ | refine s_nil ?_ | refine s_gd ?_ | (refine s_gsplit rfl rfl rfl (fun hb => ?_) (fun hb => ?_) <;> refine fct hb (fun hp => ?_))) | (refine DR.is ?_; first | (apply d_vr; exact rfl; apply v_indexA; exact rfl; exact rfl; omega; exact g2; exact rfl) | (apply d_call0; exact rfl; exact kf; exact rfl; exact rfl) | refine d_v ?_ | refine d_m ?_ | (apply d_nil; kernel_rfl) | refine d_gd ?_ | (refine d_gsplit rfl rfl rfl (fun hb => ?_) (fun hb => ?_) <;> refine fct hb (fun hp => ?_))) | refine c_go ?_ | refine s_region ?_ | refine d_region ?_ | (refine L.cond rfl (fun hb => ?_) (fun hb => ?_) <;> refine fct hb (fun hp => ?_))))
      all_goals (first | (apply L.ends1; exact rfl; exact rfl; exact rfl) | (apply L.ends2; exact rfl; exact rfl; exact rfl) | (apply L.ends3; exact rfl; exact rfl; exact rfl) | (apply L.ends1A; exact rfl; exact rfl; exact rfl) | (apply L.ends2A; exact rfl; exact rfl; exact rfl) | (apply L.ends3A; exact rfl; exact rfl; exact rfl))
      all_goals rfl
    have q : decide (colM t x.co < 0) = false := decide_eq_false hc0
    rw [if_neg hc0] at hset
    have kc := containsT_any (gs := []) (f := 93) (b := ⟨48, .l (x.c.map .iv)⟩) (fun y => y.co == x.co) (sets.take j) (by rw [List.length_take]; omega) rfl rfl (fun y _ => change1_any y x)
    have k9 : ∀ e ∈ sets.map Ast.c, e.length = 9 := fun e he => by obtain ⟨y, _, rfl⟩ := List.mem_map.1 he; rfl
    have hsl2 : (sets.map Ast.c).take ((j : Nat) : Int).toNat = (sets.take j).map Ast.c := by rw [Int.toNat_natCast, List.map_take]
    have ljs : ((j : Nat) : Int) ≤ (sets.map Ast.c).length := by rw [List.length_map]; omega
    cases hm : (sets.take j).any (fun y => y.co == x.co) with
    | true =>
      rw [hm] at kc
      rw [hm, if_pos rfl] at hset
      rw [hE (by rw [hset]; exact (by decide : (4 : Int) ≠ 0)), hset, if_pos (show (4 : Int) ≠ 0 by decide)]
      (repeat' (first | (refine LW.is ?_; first | (apply s_vr; exact rfl; apply v_indexA; exact rfl; exact rfl; omega; exact g2; exact rfl) | (apply s_call0; exact rfl; exact kf; exact rfl; exact rfl) | (apply s_vr; exact rfl; apply v_sliceVh; exact rfl; exact rfl; exact k9; omega; exact ljs; exact hsl2) | (apply s_vr; exact rfl; apply v_makeFunc; exact rfl) | (apply s_callG1 (q := 16); exact rfl; exact hG; exact kc; exact rfl; exact rfl; exact rfl; exact rfl; exact rfl; exact rfl; exact rfl) | refine s_v ?_ | refine s_m ?_ | refine s_nil ?_ | refine s_gd ?_ | (refine s_gsplit rfl rfl rfl (fun hb => ?_) (fun hb => ?_) <;> refine fct hb (fun hp => ?_))) | (refine DR.is ?_; first | (apply d_vr; exact rfl; apply v_indexA; exact rfl; exact rfl; omega; exact g2; exact rfl) | (apply d_call0; exact rfl; exact kf; exact rfl; exact rfl) | (apply d_vr; exact rfl; apply v_sliceVh; exact rfl; exact rfl; exact k9; omega; exact ljs; exact hsl2) | (apply d_vr; exact rfl; apply v_makeFunc; exact rfl) | (apply d_callG1 (q := 16); exact rfl; exact hG; exact kc; exact rfl; exact rfl; exact rfl; exact rfl; exact rfl; exact rfl; exact rfl) | refine d_v ?_ | refine d_m ?_ | (apply d_nil; kernel_rfl) | refine d_gd ?_ | (refine d_gsplit rfl rfl rfl (fun hb => ?_) (fun hb => ?_) <;> refine fct hb (fun hp => ?_))) | refine c_go ?_ | refine s_region ?_ | refine d_region ?_ | (refine L.cond rfl (fun hb => ?_) (fun hb => ?_) <;> refine fct hb (fun hp => ?_))))
      all_goals (first | (apply L.ends1; exact rfl; exact rfl; exact rfl) | (apply L.ends2; exact rfl; exact rfl; exact rfl) | (apply L.ends3; exact rfl; exact rfl; exact rfl) | (apply L.ends1A; exact rfl; exact rfl; exact rfl) | (apply L.ends2A; exact rfl; exact rfl; exact rfl) | (apply L.ends3A; exact rfl; exact rfl; exact rfl))
      all_goals rfl
    | false =>
    rw [hm] at kc
    rw [hm, if_neg (by decide)] at hset
    have hran := idx_ran (fun c : Col => c.n == x.co) t.cols
    have hcm : colM t x.co = idxM (fun c : Col => c.n == x.co) t.cols := rfl
    have hki : (colM t x.co).toNat < t.cols.length := by
      rw [hcm] at hc0 ⊢
      unfold idxM at hc0 ⊢
      cases hf : t.cols.findIdx? (fun c : Col => c.n == x.co) with
      | none => rw [hf] at hc0; simp only at hc0; omega
      | some j => have := (List.findIdx?_eq_some_iff_getElem.1 hf).1; simpa using this
    have g3 : (t.cols.map Col.c)[(colM t x.co).toNat]? = some [S (t.cols.getD (colM t x.co).toNat ⟨[], 0, false⟩).n, I (t.cols.getD (colM t x.co).toNat ⟨[], 0, false⟩).t, .im (.bool (t.cols.getD (colM t x.co).toNat ⟨[], 0, false⟩).m)] := by rw [List.getElem?_map, getD_some ⟨[], 0, false⟩ hki]; rfl
    have kx := must_any [t] ⟨by simp, by simpa using ht⟩ x.e hxe (colTy t (colM t x.co))
    have n1 : (((sets.zipIdx.take (j + 1)).map fun p => (setM t sets p).1).map Ast.c) = ((sets.zipIdx.take j).map fun p => (setM t sets p).1).map Ast.c ++ [(setM t sets (x, j)).1.c] := by rw [takeC hz, List.map_append, List.map_append]; rfl
    have hct : colTy t (colM t x.co) = (t.cols.getD (colM t x.co).toNat ⟨[], 0, false⟩).t := rfl
    have hJ' := takeT_snoc (g := fun p => (setM t sets p).2) hJ hz
    rw [hset] at hE hJ' n1
    rw [hct] at kx hE hJ' n1
    generalize t.cols.getD (colM t x.co).toNat ⟨[], 0, false⟩ = cc at *
    clear hset hcm hct hran
    generalize colM t x.co = kk at *
    generalize mustM [t] x.e cc.t = m at *
    obtain ⟨e, f⟩ := m
    dsimp only at hE hJ' n1 kx
    by_cases hf : f = 0
    · subst hf
      have l1 : (((sets.zipIdx.take j).map fun p => (setM t sets p).1).map Ast.c).length + 1 ≤ sets.length := by rw [List.length_map, List.length_map, List.length_take, List.length_zipIdx]; omega
      have hsl3 : sets.length ≤ 1172812402962 := by omega
      have bm : (((sets.zipIdx.take j).map fun p => (setM t sets p).1).map Ast.c).length + 1 ≤ maxLen := Nat.le_trans l1 (Nat.le_trans hsl3 (by rw [maxL]; decide))
      have bb : ((((sets.zipIdx.take j).map fun p => (setM t sets p).1).map Ast.c).length + 1) * 120 ≤ 225000000000000 := Nat.le_trans (Nat.mul_le_mul_right 120 l1) (Nat.le_trans hsl (by decide))
      have k1 : ∀ e ∈ ((sets.zipIdx.take j).map fun p => (setM t sets p).1).map Ast.c, e.length = 9 := fun e he => by obtain ⟨y, _, rfl⟩ := List.mem_map.1 he; rfl
      have hJ' := hJ' rfl
      generalize ((sets.zipIdx.take j).map fun p => (setM t sets p).1).map Ast.c = es at *
      (repeat' (first | (refine LW.is ?_; first | (apply s_vr; exact rfl; apply v_indexA; exact rfl; exact rfl; omega; (first | exact g2 | exact g3); exact rfl) | (apply s_call0; exact rfl; (first | exact kf | exact kx); exact rfl; exact rfl) | (apply s_vr; exact rfl; apply v_sliceVh; exact rfl; exact rfl; exact k9; omega; exact ljs; exact hsl2) | (apply s_vr; exact rfl; apply v_makeFunc; exact rfl) | (apply s_callG1 (q := 16); exact rfl; exact hG; exact kc; exact rfl; exact rfl; exact rfl; exact rfl; exact rfl; exact rfl; exact rfl) | (apply s_append; exact rfl; exact rfl; exact rfl; exact rfl; exact k1; exact len_cons rfl len_nil; exact bm; exact bb; exact rfl; exact rfl) | refine s_v ?_ | refine s_m ?_ | refine s_nil ?_ | refine s_gd ?_ | (refine s_gsplit rfl rfl rfl (fun hb => ?_) (fun hb => ?_) <;> refine fct hb (fun hp => ?_))) | (refine DR.is ?_; first | (apply d_vr; exact rfl; apply v_indexA; exact rfl; exact rfl; omega; (first | exact g2 | exact g3); exact rfl) | (apply d_call0; exact rfl; (first | exact kf | exact kx); exact rfl; exact rfl) | (apply d_vr; exact rfl; apply v_sliceVh; exact rfl; exact rfl; exact k9; omega; exact ljs; exact hsl2) | (apply d_vr; exact rfl; apply v_makeFunc; exact rfl) | (apply d_callG1 (q := 16); exact rfl; exact hG; exact kc; exact rfl; exact rfl; exact rfl; exact rfl; exact rfl; exact rfl; exact rfl) | (apply d_append; exact rfl; exact rfl; exact rfl; exact rfl; exact k1; exact len_cons rfl len_nil; exact bm; exact bb; exact rfl; exact rfl) | refine d_v ?_ | refine d_m ?_ | (apply d_nil; kernel_rfl) | refine d_gd ?_ | (refine d_gsplit rfl rfl rfl (fun hb => ?_) (fun hb => ?_) <;> refine fct hb (fun hp => ?_))) | refine c_go ?_ | refine s_region ?_ | refine d_region ?_ | (refine L.cond rfl (fun hb => ?_) (fun hb => ?_) <;> refine fct hb (fun hp => ?_))))
      refine L.onlyS [72, 71, 70, 14, 6, 2, 3, 4, 5] [2, 3, 4] rfl ?_
      refine L.retok 14 115 14 rfl rfl rfl rfl ?_
      refine hK _ (j + 1) hJ' (by omega) (Wk.mk' (by intro id h; cases h) (.cons rfl (Sub.refl _) (.cons rfl (Sub.refl _) (.cons rfl (Sub.refl _) (.cons rfl (Sub.of_eq (congrArg (AV.row 14) n1.symm)) (.cons rfl (Sub.refl _) (.cons rfl (Sub.refl _) (.cons rfl (Sub.refl _) (.cons rfl (Sub.refl _) (.cons rfl (Sub.refl _) .nil))))))))) (.cons rfl rfl (Subs.refl _) (.cons rfl rfl (Subs.refl _) (.cons rfl rfl (Subs.refl _) .nil))) (.cons rfl (.cons rfl .nil)))
    · rw [hE hf, if_pos hf]
      have q2 : (f != 0) = true := by simpa using hf
      (repeat' (first | (refine LW.is ?_; first | (apply s_vr; exact rfl; apply v_indexA; exact rfl; exact rfl; omega; (first | exact g2 | exact g3); exact rfl) | (apply s_call0; exact rfl; (first | exact kf | exact kx); exact rfl; exact rfl) | (apply s_vr; exact rfl; apply v_sliceVh; exact rfl; exact rfl; exact k9; omega; exact ljs; exact hsl2) | (apply s_vr; exact rfl; apply v_makeFunc; exact rfl) | (apply s_callG1 (q := 16); exact rfl; exact hG; exact kc; exact rfl; exact rfl; exact rfl; exact rfl; exact rfl; exact rfl; exact rfl) | refine s_v ?_ | refine s_m ?_ | refine s_nil ?_ | refine s_gd ?_ | (refine s_gsplit rfl rfl rfl (fun hb => ?_) (fun hb => ?_) <;> refine fct hb (fun hp => ?_))) | (refine DR.is ?_; first | (apply d_vr; exact rfl; apply v_indexA; exact rfl; exact rfl; omega; (first | exact g2 | exact g3); exact rfl) | (apply d_call0; exact rfl; (first | exact kf | exact kx); exact rfl; exact rfl) | (apply d_vr; exact rfl; apply v_sliceVh; exact rfl; exact rfl; exact k9; omega; exact ljs; exact hsl2) | (apply d_vr; exact rfl; apply v_makeFunc; exact rfl) | (apply d_callG1 (q := 16); exact rfl; exact hG; exact kc; exact rfl; exact rfl; exact rfl; exact rfl; exact rfl; exact rfl; exact rfl) | refine d_v ?_ | refine d_m ?_ | (apply d_nil; kernel_rfl) | refine d_gd ?_ | (refine d_gsplit rfl rfl rfl (fun hb => ?_) (fun hb => ?_) <;> refine fct hb (fun hp => ?_))) | refine c_go ?_ | refine s_region ?_ | refine d_region ?_ | (refine L.cond rfl (fun hb => ?_) (fun hb => ?_) <;> refine fct hb (fun hp => ?_))))
      all_goals (first | (apply L.ends1; exact rfl; exact rfl; exact rfl) | (apply L.ends2; exact rfl; exact rfl; exact rfl) | (apply L.ends3; exact rfl; exact rfl; exact rfl) | (apply L.ends1A; exact rfl; exact rfl; exact rfl) | (apply L.ends2A; exact rfl; exact rfl; exact rfl) | (apply L.ends3A; exact rfl; exact rfl; exact rfl))
      all_goals rfl
  | none =>
    have jlt := ltF (l := sets.map Ast.c) (getFN hy)
    have hzn := zip_none hy
    rw [take_all hzn] at hJ ⊢
    have he : setsE ⟨kind, name, table, col, cols, rows, sets, frm, out, wh, ord, down, n⟩ t = 0 := errT_no hJ
    rw [he, if_neg (by decide)]
    clear hK hJ hy hzn he
    generalize (sets.zipIdx.map fun p => (setM t sets p).1) = SS at *
    (repeat' (first | (refine LW.is ?_; first | (apply s_call0; exact rfl; exact kw; exact rfl; exact rfl) | refine s_v ?_ | refine s_m ?_ | refine s_nil ?_ | refine s_gd ?_ | (refine s_gsplit rfl rfl rfl (fun hb => ?_) (fun hb => ?_) <;> refine fct hb (fun hp => ?_))) | (refine DR.is ?_; first | (apply d_call0; exact rfl; exact kw; exact rfl; exact rfl) | refine d_v ?_ | refine d_m ?_ | (apply d_nil; kernel_rfl) | refine d_gd ?_ | (refine d_gsplit rfl rfl rfl (fun hb => ?_) (fun hb => ?_) <;> refine fct hb (fun hp => ?_))) | refine c_go ?_ | refine s_region ?_ | refine d_region ?_ | (refine L.cond rfl (fun hb => ?_) (fun hb => ?_) <;> refine fct hb (fun hp => ?_))))
    all_goals (first | (apply L.ends1; exact rfl; exact rfl; exact rfl) | (apply L.ends2; exact rfl; exact rfl; exact rfl) | (apply L.ends3; exact rfl; exact rfl; exact rfl) | (apply L.ends1A; exact rfl; exact rfl; exact rfl) | (apply L.ends2A; exact rfl; exact rfl; exact rfl) | (apply L.ends3A; exact rfl; exact rfl; exact rfl))
    all_goals rfl
end Go.Proofs.YthkobnpogigkiaaDoor
/- Commands, bound: what choose computes. Conditions: how much there is of what comes in. -/
namespace Go.Proofs.YthkobnpogigkiaaDoor
open Go.Abs
set_option maxRecDepth 100000
attribute [local irreducible] L Code.wp bodyPost Exit.then Exit.inBlock
set_option linter.unusedVariables false
set_option linter.unusedSimpArgs false
def fromOne (c : Cat) (frm : List Str) (p : Str × Nat) : Tab × Int :=
  if (findT c p.1).2 = false then ((findT c p.1).1, 3)
  else if (frm.take p.2).any (fun y => p.1 == y) then ((findT c p.1).1, 4) else ((findT c p.1).1, 0)
theorem fromOne_tab (c : Cat) (frm : List Str) (p : Str × Nat) : (fromOne c frm p).1 = (findT c p.1).1 := by
  unfold fromOne
  split
  · rfl
  · split <;> rfl
def refE (t : Tab) (a : Nat) (p : Col × Nat) : Ex := .mk 2 nilV t.n p.1.n ((a : Int) + (p.2 : Int)) []
def allOut : List Tab → Nat → List Ex
  | [], _ => []
  | t :: ts, a => t.cols.zipIdx.map (refE t a) ++ allOut ts (a + t.cols.length)
def atM (ts : List Tab) : Nat := (ts.map fun t => t.cols.length).sum
theorem allOut_app : ∀ (x y : List Tab) (a : Nat), allOut (x ++ y) a = allOut x a ++ allOut y (a + atM x)
  | [], y, a => by simp [allOut, atM]
  | t :: x, y, a => by
    have e : a + t.cols.length + atM x = a + atM (t :: x) := by simp only [atM, List.map_cons, List.sum_cons]; omega
    rw [List.cons_append, allOut, allOut_app x y, allOut, List.append_assoc, e]
theorem allOut_len : ∀ (x : List Tab) (a : Nat), (allOut x a).length = atM x
  | [], a => rfl
  | t :: x, a => by rw [allOut, List.length_append, allOut_len x]; simp [atM]
theorem atM_app (x y : List Tab) : atM (x ++ y) = atM x + atM y := by simp [atM]
theorem atM_le : ∀ {x : List Tab}, (∀ t ∈ x, t.cols.length ≤ 1000) → atM x ≤ x.length * 1000
  | [], _ => by simp [atM]
  | t :: x, h => by
    have h1 := h t (List.mem_cons_self ..)
    have h2 := atM_le (x := x) (fun t ht => h t (List.mem_cons_of_mem _ ht))
    simp only [atM, List.map_cons, List.sum_cons, List.length_cons] at *
    omega
def chooseM (c : Cat) (s : Stm) : Stm × Int :=
  if s.frm.length < 1 ∨ 2 < s.frm.length then (s, 1)
  else if errM (s.frm.zipIdx.map fun p => (fromOne c s.frm p).2) ≠ 0 then (s, errM (s.frm.zipIdx.map fun p => (fromOne c s.frm p).2))
  else
    let all := s.frm.zipIdx.map fun p => (fromOne c s.frm p).1
    if errM (s.out.map fun x => (bindM all x).2.2) ≠ 0 then (s, errM (s.out.map fun x => (bindM all x).2.2))
    else if errM (s.ord.map fun x => (bindM all x).2.2) ≠ 0 then (s, errM (s.ord.map fun x => (bindM all x).2.2))
    else ({ s with out := if s.out = [] then allOut all 0 else s.out.map fun x => (bindM all x).1, ord := s.ord.map fun x => (bindM all x).1, wh := (whereM all s.wh).1 }, (whereM all s.wh).2)
set_option maxHeartbeats 16000000 in
theorem choose_any (c : Cat) (s : Stm) (hok : s.Ok) (hct : c.ts.length ≤ 1000) (hcc : ∀ name, (findT c name).1.cols.length ≤ 1000) (hwh : s.wh.Ok) :
    CallA Tryd.prog 50 [.agg (c.c.map .iv), .agg (s.cs.map .iv)] [] [] [] (.tup [.agg ((chooseM c s).1.cs.map .iv), .iv (I (chooseM c s).2)]) := by
  have htot := hok.tot
  have hall := hok.all
  clear hok
  obtain ⟨kind, name, table, col, cols, rows, sets, frm, out, wh, ord, down, n⟩ := s
  dsimp only at htot hwh
  have hout : ∀ x ∈ out, x.Ok := fun x hx => (hall x (by unfold exprsM; simp only [List.mem_append]; exact .inl (.inl (.inl (.inl hx))))).ok
  have hord : ∀ x ∈ ord, x.Ok := fun x hx => (hall x (by unfold exprsM; simp only [List.mem_append]; exact .inl (.inl (.inl (.inr hx))))).ok
  have hu1 : out.length * 104 ≤ 140737488355328 := by generalize rows.flatten.length = z at htot; omega
  have ho1 : ord.length * 104 ≤ 140737488355328 := by generalize rows.flatten.length = z at htot; omega
  have hu2 : out.length ≤ 1353245080340 := by clear htot; omega
  have ho2 : ord.length ≤ 1353245080340 := by clear htot; omega
  clear hall htot
  unfold chooseM
  dsimp only
  have lf : ((frm.map Str.c).length : Int) = (frm.length : Int) := by simp
  refine CallG.toA (CallG.intro _ Tryd.func50 rfl Tryd.ntmps50 rfl (fun w0 E0 hG => ?_))
  by_cases hfl : frm.length < 1 ∨ 2 < frm.length
  · rw [if_pos hfl]
    cases hl1 : decide (((frm.map Str.c).length : Int) < 1) with
    | true =>
      (repeat' (first | (refine LW.is ?_; first | refine s_v ?_ | refine s_m ?_ | refine s_nil ?_ | refine s_gd ?_ | (refine s_gsplit rfl rfl rfl (fun hb => ?_) (fun hb => ?_) <;> refine fct hb (fun hp => ?_))) | (refine DR.is ?_; first | refine d_v ?_ | refine d_m ?_ | (apply d_nil; kernel_rfl) | refine d_gd ?_ | (refine d_gsplit rfl rfl rfl (fun hb => ?_) (fun hb => ?_) <;> refine fct hb (fun hp => ?_))) | refine c_go ?_ | refine s_region ?_ | refine d_region ?_ | (refine L.cond rfl (fun hb => ?_) (fun hb => ?_) <;> refine fct hb (fun hp => ?_))))
      all_goals (first | (apply L.ends1; exact rfl; exact rfl; exact rfl) | (apply L.ends2; exact rfl; exact rfl; exact rfl) | (apply L.ends3; exact rfl; exact rfl; exact rfl) | (apply L.ends1A; exact rfl; exact rfl; exact rfl) | (apply L.ends2A; exact rfl; exact rfl; exact rfl) | (apply L.ends3A; exact rfl; exact rfl; exact rfl))
      all_goals rfl
    | false =>
      have hl2 : decide ((2 : Int) < ((frm.map Str.c).length : Int)) = true := by
        have := of_decide_eq_false hl1
        rw [lf] at this ⊢
        exact decide_eq_true (by omega)
      (repeat' (first | (refine LW.is ?_; first | refine s_v ?_ | refine s_m ?_ | refine s_nil ?_ | refine s_gd ?_ | (refine s_gsplit rfl rfl rfl (fun hb => ?_) (fun hb => ?_) <;> refine fct hb (fun hp => ?_))) | (refine DR.is ?_; first | refine d_v ?_ | refine d_m ?_ | (apply d_nil; kernel_rfl) | refine d_gd ?_ | (refine d_gsplit rfl rfl rfl (fun hb => ?_) (fun hb => ?_) <;> refine fct hb (fun hp => ?_))) | refine c_go ?_ | refine s_region ?_ | refine d_region ?_ | (refine L.cond rfl (fun hb => ?_) (fun hb => ?_) <;> refine fct hb (fun hp => ?_))))
      all_goals (first | (apply L.ends1; exact rfl; exact rfl; exact rfl) | (apply L.ends2; exact rfl; exact rfl; exact rfl) | (apply L.ends3; exact rfl; exact rfl; exact rfl) | (apply L.ends1A; exact rfl; exact rfl; exact rfl) | (apply L.ends2A; exact rfl; exact rfl; exact rfl) | (apply L.ends3A; exact rfl; exact rfl; exact rfl))
      all_goals rfl
  rw [if_neg hfl]
  have hl1 : decide (((frm.map Str.c).length : Int) < 1) = false := by rw [lf]; exact decide_eq_false (by omega)
  have hl2 : decide ((2 : Int) < ((frm.map Str.c).length : Int)) = false := by rw [lf]; exact decide_eq_false (by omega)
  have hf2 : frm.length ≤ 2 := by omega
  (repeat' (first | (refine LW.is ?_; first | refine s_v ?_ | refine s_m ?_ | refine s_nil ?_ | refine s_gd ?_ | (refine s_gsplit rfl rfl rfl (fun hb => ?_) (fun hb => ?_) <;> refine fct hb (fun hp => ?_))) | (refine DR.is ?_; first | refine d_v ?_ | refine d_m ?_ | (apply d_nil; kernel_rfl) | refine d_gd ?_ | (refine d_gsplit rfl rfl rfl (fun hb => ?_) (fun hb => ?_) <;> refine fct hb (fun hp => ?_))) | refine c_go ?_ | refine s_region ?_ | refine d_region ?_ | (refine L.cond rfl (fun hb => ?_) (fun hb => ?_) <;> refine fct hb (fun hp => ?_))))
  refine L.adopt 6 (s := 6) (t := 43) (k := 2) rfl rfl rfl ?_
  refine L.loopP (ι := Nat) (fun i => ⟨[(44, aI (i : Int)), (43, aI ((frm.map Str.c).length : Int)), (42, .iv (.sl (frm.map Str.c))), (6, .row 6 (((frm.zipIdx.take i).map fun p => (fromOne c frm p).1).map Tab.c)), (2, .ptr 2 0), (3, .ptr 3 0), (4, .ptr 4 0), (5, aI 0)],
    [(2, ⟨25, .l (c.c.map .iv)⟩), (3, ⟨36, .l ((Stm.cs ⟨kind, name, table, col, cols, rows, sets, frm, out, wh, ord, down, n⟩).map .iv)⟩), (4, ⟨36, .l nilStA⟩)], [(6, ⟨43, 2⟩)]⟩) (fun i => frm.length - i) (fun i => ∀ p ∈ frm.zipIdx.take i, (fromOne c frm p).2 = 0) (i0 := 0) ?_ (by simp) ?_
  · (refine Wk.mk' (by intro id h; cases h) ?_ ?_ ?_ <;> repeat' (first | exact WkF.nil | exact WkB.nil | exact WkT.nil | (refine WkF.cons rfl (Sub.refl _) ?_) | (refine WkB.cons rfl rfl (Subs.refl _) ?_) | (refine WkT.cons rfl ?_)))
  intro i hI K hK
  cases hx : frm[i]? with
  | some x =>
    have hlt := ltT (l := frm.map Str.c) (getF (f := Str.c) hx)
    have hlt' := ltN hx
    have hz := zip_at hx
    have g1 : (frm.map Str.c)[((i : Nat) : Int).toNat]? = some [S x] := by rw [Int.toNat_natCast, List.getElem?_map, hx]; rfl
    have kf := findTable_any c x (by omega)
    have hcx := hcc x
    have hone : fromOne c frm (x, i) = if (findT c x).2 = false then ((findT c x).1, 3) else if (frm.take i).any (fun y => x == y) then ((findT c x).1, 4) else ((findT c x).1, 0) := rfl
    have hE : (fromOne c frm (x, i)).2 ≠ 0 → errM (frm.zipIdx.map fun p => (fromOne c frm p).2) = (fromOne c frm (x, i)).2 := fun h => errT_at (g := fun p => (fromOne c frm p).2) hI hz h
    have k1s : ∀ e ∈ frm.map Str.c, e.length = 1 := fun e he => by obtain ⟨y, _, rfl⟩ := List.mem_map.1 he; rfl
    have hsl2 : (frm.map Str.c).take ((i : Nat) : Int).toNat = (frm.take i).map Str.c := by rw [Int.toNat_natCast, List.map_take]
    have lis : ((i : Nat) : Int) ≤ (frm.map Str.c).length := by rw [lf]; omega
    have kc := containsS_any (frm.take i) x (by rw [List.length_take]; omega)
    have n1 : (((frm.zipIdx.take (i + 1)).map fun p => (fromOne c frm p).1).map Tab.c) = ((frm.zipIdx.take i).map fun p => (fromOne c frm p).1).map Tab.c ++ [(fromOne c frm (x, i)).1.c] := by rw [takeC hz, List.map_append, List.map_append]; rfl
    have hI' := takeT_snoc (g := fun p => (fromOne c frm p).2) hI hz
    have l1 : (((frm.zipIdx.take i).map fun p => (fromOne c frm p).1).map Tab.c).length + 1 ≤ 2 := by rw [List.length_map, List.length_map, List.length_take, List.length_zipIdx]; omega
    have bm : (((frm.zipIdx.take i).map fun p => (fromOne c frm p).1).map Tab.c).length + 1 ≤ maxLen := Nat.le_trans l1 (by rw [maxL]; decide)
    have bb : ((((frm.zipIdx.take i).map fun p => (fromOne c frm p).1).map Tab.c).length + 1) * 40 ≤ 225000000000000 := Nat.le_trans (Nat.mul_le_mul_right 40 l1) (by decide)
    have k1 : ∀ e ∈ ((frm.zipIdx.take i).map fun p => (fromOne c frm p).1).map Tab.c, e.length = 2 := fun e he => by obtain ⟨y, _, rfl⟩ := List.mem_map.1 he; rfl
    cases hb : (findT c x).2 with
    | false =>
      rw [hb, if_pos rfl] at hone
      rw [hb] at kf
      rw [hE (by rw [hone]; exact (by decide : (3 : Int) ≠ 0)), hone, if_pos (show (3 : Int) ≠ 0 by decide)]
      generalize (findT c x).1 = tt at *
      (repeat' (first | (refine LW.is ?_; first | (apply s_vr; exact rfl; apply v_indexA; exact rfl; exact rfl; omega; exact g1; exact rfl) | (apply s_call0; exact rfl; exact kf; exact rfl; exact rfl) | refine s_v ?_ | refine s_m ?_ | refine s_nil ?_ | refine s_gd ?_ | (refine s_gsplit rfl rfl rfl (fun hb => ?_) (fun hb => ?_) <;> refine fct hb (fun hp => ?_))) | (refine DR.is ?_; first | (apply d_vr; exact rfl; apply v_indexA; exact rfl; exact rfl; omega; exact g1; exact rfl) | (apply d_call0; exact rfl; exact kf; exact rfl; exact rfl) | refine d_v ?_ | refine d_m ?_ | (apply d_nil; kernel_rfl) | refine d_gd ?_ | (refine d_gsplit rfl rfl rfl (fun hb => ?_) (fun hb => ?_) <;> refine fct hb (fun hp => ?_))) | refine c_go ?_ | refine s_region ?_ | refine d_region ?_ | (refine L.cond rfl (fun hb => ?_) (fun hb => ?_) <;> refine fct hb (fun hp => ?_))))
      all_goals (first | (apply L.ends1; exact rfl; exact rfl; exact rfl) | (apply L.ends2; exact rfl; exact rfl; exact rfl) | (apply L.ends3; exact rfl; exact rfl; exact rfl) | (apply L.ends1A; exact rfl; exact rfl; exact rfl) | (apply L.ends2A; exact rfl; exact rfl; exact rfl) | (apply L.ends3A; exact rfl; exact rfl; exact rfl))
      all_goals rfl
    | true =>
    rw [hb, if_neg (by decide)] at hone
    rw [hb] at kf
    cases hm : (frm.take i).any (fun y => x == y) with
    | true =>
      rw [hm, if_pos rfl] at hone
      rw [hm] at kc
      rw [hE (by rw [hone]; exact (by decide : (4 : Int) ≠ 0)), hone, if_pos (show (4 : Int) ≠ 0 by decide)]
      generalize (findT c x).1 = tt at *
      (repeat' (first | (refine LW.is ?_; first | (apply s_vr; exact rfl; apply v_indexA; exact rfl; exact rfl; omega; exact g1; exact rfl) | (apply s_call0; exact rfl; (first | exact kf | exact kc); exact rfl; exact rfl) | (apply s_vr; exact rfl; apply v_sliceVh; exact rfl; exact rfl; exact k1s; omega; exact lis; exact hsl2) | refine s_v ?_ | refine s_m ?_ | refine s_nil ?_ | refine s_gd ?_ | (refine s_gsplit rfl rfl rfl (fun hb => ?_) (fun hb => ?_) <;> refine fct hb (fun hp => ?_))) | (refine DR.is ?_; first | (apply d_vr; exact rfl; apply v_indexA; exact rfl; exact rfl; omega; exact g1; exact rfl) | (apply d_call0; exact rfl; (first | exact kf | exact kc); exact rfl; exact rfl) | (apply d_vr; exact rfl; apply v_sliceVh; exact rfl; exact rfl; exact k1s; omega; exact lis; exact hsl2) | refine d_v ?_ | refine d_m ?_ | (apply d_nil; kernel_rfl) | refine d_gd ?_ | (refine d_gsplit rfl rfl rfl (fun hb => ?_) (fun hb => ?_) <;> refine fct hb (fun hp => ?_))) | refine c_go ?_ | refine s_region ?_ | refine d_region ?_ | (refine L.cond rfl (fun hb => ?_) (fun hb => ?_) <;> refine fct hb (fun hp => ?_))))
      all_goals (first | (apply L.ends1; exact rfl; exact rfl; exact rfl) | (apply L.ends2; exact rfl; exact rfl; exact rfl) | (apply L.ends3; exact rfl; exact rfl; exact rfl) | (apply L.ends1A; exact rfl; exact rfl; exact rfl) | (apply L.ends2A; exact rfl; exact rfl; exact rfl) | (apply L.ends3A; exact rfl; exact rfl; exact rfl))
      all_goals rfl
    | false =>
    rw [hm, if_neg (by decide)] at hone
    rw [hm] at kc
    rw [hone] at hI' n1
    have hI2 := hI' rfl
    clear hI'
    generalize (findT c x).1 = tt at *
    clear hone hE
    generalize ((frm.zipIdx.take i).map fun p => (fromOne c frm p).1).map Tab.c = es at *
    (repeat' (first | (refine LW.is ?_; first | (apply s_vr; exact rfl; apply v_indexA; exact rfl; exact rfl; omega; exact g1; exact rfl) | (apply s_call0; exact rfl; (first | exact kf | exact kc); exact rfl; exact rfl) | (apply s_vr; exact rfl; apply v_sliceVh; exact rfl; exact rfl; exact k1s; omega; exact lis; exact hsl2) | (apply s_append; exact rfl; exact rfl; exact rfl; exact rfl; exact k1; exact len_cons rfl len_nil; exact bm; exact bb; exact rfl; exact rfl) | refine s_v ?_ | refine s_m ?_ | refine s_nil ?_ | refine s_gd ?_ | (refine s_gsplit rfl rfl rfl (fun hb => ?_) (fun hb => ?_) <;> refine fct hb (fun hp => ?_))) | (refine DR.is ?_; first | (apply d_vr; exact rfl; apply v_indexA; exact rfl; exact rfl; omega; exact g1; exact rfl) | (apply d_call0; exact rfl; (first | exact kf | exact kc); exact rfl; exact rfl) | (apply d_vr; exact rfl; apply v_sliceVh; exact rfl; exact rfl; exact k1s; omega; exact lis; exact hsl2) | (apply d_append; exact rfl; exact rfl; exact rfl; exact rfl; exact k1; exact len_cons rfl len_nil; exact bm; exact bb; exact rfl; exact rfl) | refine d_v ?_ | refine d_m ?_ | (apply d_nil; kernel_rfl) | refine d_gd ?_ | (refine d_gsplit rfl rfl rfl (fun hb => ?_) (fun hb => ?_) <;> refine fct hb (fun hp => ?_))) | refine c_go ?_ | refine s_region ?_ | refine d_region ?_ | (refine L.cond rfl (fun hb => ?_) (fun hb => ?_) <;> refine fct hb (fun hp => ?_))))
    refine L.onlyS [44, 43, 42, 6, 2, 3, 4, 5] [2, 3, 4] rfl ?_
    refine L.retok 6 68 6 rfl rfl rfl rfl ?_
    refine hK _ (i + 1) hI2 (by omega) (Wk.mk' (by intro id h; cases h) (.cons rfl (Sub.refl _) (.cons rfl (Sub.refl _) (.cons rfl (Sub.refl _) (.cons rfl (Sub.of_eq (congrArg (AV.row 6) n1.symm)) (.cons rfl (Sub.refl _) (.cons rfl (Sub.refl _) (.cons rfl (Sub.refl _) (.cons rfl (Sub.refl _) .nil)))))))) (.cons rfl rfl (Subs.refl _) (.cons rfl rfl (Subs.refl _) (.cons rfl rfl (Subs.refl _) .nil))) (.cons rfl .nil))
  | none =>
  have hlt := ltF (l := frm.map Str.c) (getFN hx)
  have hzn := zip_none hx
  rw [take_all hzn] at hI ⊢
  have he0 : errM (frm.zipIdx.map fun p => (fromOne c frm p).2) = 0 := errT_no hI
  rw [he0, if_neg (by decide)]
  have hsc : Sc (frm.zipIdx.map fun p => (fromOne c frm p).1) := ⟨by rw [List.length_map, List.length_zipIdx]; omega, fun t ht => by
    obtain ⟨p, _, rfl⟩ := List.mem_map.1 ht
    rw [fromOne_tab]; exact hcc p.1⟩
  have hal : (frm.zipIdx.map fun p => (fromOne c frm p).1).length ≤ 2 := by rw [List.length_map, List.length_zipIdx]; omega
  clear hK hI hx hzn he0
  generalize (frm.zipIdx.map fun p => (fromOne c frm p).1) = all at *
  (repeat' (first | (refine LW.is ?_; first | refine s_v ?_ | refine s_m ?_ | refine s_nil ?_ | refine s_gd ?_ | (refine s_gsplit rfl rfl rfl (fun hb => ?_) (fun hb => ?_) <;> refine fct hb (fun hp => ?_))) | (refine DR.is ?_; first | refine d_v ?_ | refine d_m ?_ | (apply d_nil; kernel_rfl) | refine d_gd ?_ | (refine d_gsplit rfl rfl rfl (fun hb => ?_) (fun hb => ?_) <;> refine fct hb (fun hp => ?_))) | refine c_go ?_ | refine s_region ?_ | refine d_region ?_ | (refine L.cond rfl (fun hb => ?_) (fun hb => ?_) <;> refine fct hb (fun hp => ?_))))
  refine L.adopt 11 (s := 11) (t := 34) (k := 8) rfl rfl rfl ?_
  refine L.loopP (ι := Nat) (fun j => ⟨[(73, aI (j : Int)), (72, aI ((out.map Ex.c).length : Int)), (71, .iv (.sl (out.map Ex.c))), (11, .row 11 (((out.take j).map fun x => (bindM all x).1).map Ex.c)), (6, .iv (.sl (all.map Tab.c))), (2, .ptr 2 0), (3, .ptr 3 0), (4, .ptr 4 0), (5, aI 0)],
    [(2, ⟨25, .l (c.c.map .iv)⟩), (3, ⟨36, .l ((Stm.cs ⟨kind, name, table, col, cols, rows, sets, frm, out, wh, ord, down, n⟩).map .iv)⟩), (4, ⟨36, .l nilStA⟩)], [(11, ⟨34, 8⟩)]⟩) (fun j => out.length - j) (fun j => ∀ x ∈ out.take j, (bindM all x).2.2 = 0) (i0 := 0) ?_ (by simp) ?_
  · exact Wk.mk' (by intro id h; cases h) (.cons rfl (Sub.refl _) (.cons rfl (Sub.refl _) (.cons rfl (Sub.refl _) (.cons rfl (Sub.refl _) (.cons rfl (Sub.row _ _) (.cons rfl (Sub.refl _) (.cons rfl (Sub.refl _) (.cons rfl (Sub.refl _) (.cons rfl (Sub.refl _) .nil))))))))) (.cons rfl rfl (Subs.refl _) (.cons rfl rfl (Subs.refl _) (.cons rfl rfl (Subs.refl _) .nil))) (.cons rfl .nil)
  intro j hJ K hK
  cases hx : out[j]? with
  | some x =>
    have jlt := ltT (l := out.map Ex.c) (getF (f := Ex.c) hx)
    have jlt' := ltN hx
    have kx := bind_any all hsc x (hout x (List.mem_of_getElem? hx))
    have g2 : (out.map Ex.c)[((j : Nat) : Int).toNat]? = some [I x.op, I x.v.k, I x.v.n, S x.v.s, S x.s, S x.name, I x.n, .sl (x.l.map Ex.c)] := by rw [Int.toNat_natCast, List.getElem?_map, hx]; exact congrArg some (Ex.c_cs x)
    have n1 : ((out.take (j + 1)).map fun x => (bindM all x).1).map Ex.c = ((out.take j).map fun x => (bindM all x).1).map Ex.c ++ [(bindM all x).1.cs] := by rw [takeC hx, List.map_append, List.map_append]; exact congrArg _ (by simp [Ex.c_cs])
    have l1 : (((out.take j).map fun x => (bindM all x).1).map Ex.c).length + 1 ≤ out.length := by rw [List.length_map, List.length_map, List.length_take]; omega
    have bm : (((out.take j).map fun x => (bindM all x).1).map Ex.c).length + 1 ≤ maxLen := Nat.le_trans l1 (Nat.le_trans hu2 (by rw [maxL]; decide))
    have bb : ((((out.take j).map fun x => (bindM all x).1).map Ex.c).length + 1) * 104 ≤ 225000000000000 := Nat.le_trans (Nat.mul_le_mul_right 104 l1) (Nat.le_trans hu1 (by decide))
    by_cases hf : (bindM all x).2.2 = 0
    · have hJ' := takeT_snoc (g := fun x => (bindM all x).2.2) hJ hx hf
      have k1 := lenE ((out.take j).map fun x => (bindM all x).1)
      generalize bindM all x = m at *
      obtain ⟨e, ty, f⟩ := m
      dsimp only at hf kx n1
      subst hf
      generalize ((out.take j).map fun x => (bindM all x).1).map Ex.c = es at *
      (repeat' (first | (refine LW.is ?_; first | (apply s_vr; exact rfl; apply v_indexA; exact rfl; exact rfl; omega; exact g2; exact rfl) | (apply s_call0; exact rfl; exact kx; exact rfl; exact rfl) | (apply s_append; exact rfl; exact rfl; exact rfl; exact rfl; exact k1; exact len_cons rfl len_nil; exact bm; exact bb; exact rfl; exact rfl) | refine s_v ?_ | refine s_m ?_ | refine s_nil ?_ | refine s_gd ?_ | (refine s_gsplit rfl rfl rfl (fun hb => ?_) (fun hb => ?_) <;> refine fct hb (fun hp => ?_))) | (refine DR.is ?_; first | (apply d_vr; exact rfl; apply v_indexA; exact rfl; exact rfl; omega; exact g2; exact rfl) | (apply d_call0; exact rfl; exact kx; exact rfl; exact rfl) | (apply d_append; exact rfl; exact rfl; exact rfl; exact rfl; exact k1; exact len_cons rfl len_nil; exact bm; exact bb; exact rfl; exact rfl) | refine d_v ?_ | refine d_m ?_ | (apply d_nil; kernel_rfl) | refine d_gd ?_ | (refine d_gsplit rfl rfl rfl (fun hb => ?_) (fun hb => ?_) <;> refine fct hb (fun hp => ?_))) | refine c_go ?_ | refine s_region ?_ | refine d_region ?_ | (refine L.cond rfl (fun hb => ?_) (fun hb => ?_) <;> refine fct hb (fun hp => ?_))))
      refine L.onlyS [73, 72, 71, 11, 6, 2, 3, 4, 5] [2, 3, 4] rfl ?_
      refine L.retok 11 91 11 rfl rfl rfl rfl ?_
      refine hK _ (j + 1) hJ' (by omega) (Wk.mk' (by intro id h; cases h) (.cons rfl (Sub.refl _) (.cons rfl (Sub.refl _) (.cons rfl (Sub.refl _) (.cons rfl (Sub.of_eq (congrArg (AV.row 11) n1.symm)) (.cons rfl (Sub.refl _) (.cons rfl (Sub.refl _) (.cons rfl (Sub.refl _) (.cons rfl (Sub.refl _) (.cons rfl (Sub.refl _) .nil))))))))) (.cons rfl rfl (Subs.refl _) (.cons rfl rfl (Subs.refl _) (.cons rfl rfl (Subs.refl _) .nil))) (.cons rfl .nil))
    · have he : errM (out.map fun x => (bindM all x).2.2) = (bindM all x).2.2 := errT_at (g := fun x => (bindM all x).2.2) hJ hx hf
      rw [he, if_pos hf]
      generalize bindM all x = m at *
      obtain ⟨e, ty, f⟩ := m
      dsimp only at hf kx ⊢
      have q : (f != 0) = true := by simpa using hf
      (repeat' (first | (refine LW.is ?_; first | (apply s_vr; exact rfl; apply v_indexA; exact rfl; exact rfl; omega; exact g2; exact rfl) | (apply s_call0; exact rfl; exact kx; exact rfl; exact rfl) | refine s_v ?_ | refine s_m ?_ | refine s_nil ?_ | refine s_gd ?_ | (refine s_gsplit rfl rfl rfl (fun hb => ?_) (fun hb => ?_) <;> refine fct hb (fun hp => ?_))) | (refine DR.is ?_; first | (apply d_vr; exact rfl; apply v_indexA; exact rfl; exact rfl; omega; exact g2; exact rfl) | (apply d_call0; exact rfl; exact kx; exact rfl; exact rfl) | refine d_v ?_ | refine d_m ?_ | (apply d_nil; kernel_rfl) | refine d_gd ?_ | (refine d_gsplit rfl rfl rfl (fun hb => ?_) (fun hb => ?_) <;> refine fct hb (fun hp => ?_))) | refine c_go ?_ | refine s_region ?_ | refine d_region ?_ | (refine L.cond rfl (fun hb => ?_) (fun hb => ?_) <;> refine fct hb (fun hp => ?_))))
      all_goals (first | (apply L.ends1; exact rfl; exact rfl; exact rfl) | (apply L.ends2; exact rfl; exact rfl; exact rfl) | (apply L.ends3; exact rfl; exact rfl; exact rfl) | (apply L.ends1A; exact rfl; exact rfl; exact rfl) | (apply L.ends2A; exact rfl; exact rfl; exact rfl) | (apply L.ends3A; exact rfl; exact rfl; exact rfl))
      all_goals rfl
  | none =>
  have jlt := ltF (l := out.map Ex.c) (getFN hx)
  rw [take_all hx] at hJ ⊢
  have he : errM (out.map fun x => (bindM all x).2.2) = 0 := errT_no hJ
  rw [he, if_neg (by decide)]
  clear hK hJ hx he
  by_cases hnil : out = []
  · subst hnil
    rw [if_pos rfl]
    (repeat' (first | (refine LW.is ?_; first | refine s_v ?_ | refine s_m ?_ | refine s_nil ?_ | refine s_gd ?_ | (refine s_gsplit rfl rfl rfl (fun hb => ?_) (fun hb => ?_) <;> refine fct hb (fun hp => ?_))) | (refine DR.is ?_; first | refine d_v ?_ | refine d_m ?_ | (apply d_nil; kernel_rfl) | refine d_gd ?_ | (refine d_gsplit rfl rfl rfl (fun hb => ?_) (fun hb => ?_) <;> refine fct hb (fun hp => ?_))) | refine c_go ?_ | refine s_region ?_ | refine d_region ?_ | (refine L.cond rfl (fun hb => ?_) (fun hb => ?_) <;> refine fct hb (fun hp => ?_))))
    refine L.loopP (ι := Nat) (fun i => ⟨[(99, aI (i : Int)), (98, aI ((all.map Tab.c).length : Int)), (97, .iv (.sl (all.map Tab.c))), (17, aI (atM (all.take i) : Int)), (11, .row 11 ((allOut (all.take i) 0).map Ex.c)), (6, .iv (.sl (all.map Tab.c))), (2, .ptr 2 0), (3, .ptr 3 0), (4, .ptr 4 0), (5, aI 0)],
      [(2, ⟨25, .l (c.c.map .iv)⟩), (3, ⟨36, .l ((Stm.cs ⟨kind, name, table, col, cols, rows, sets, frm, [], wh, ord, down, n⟩).map .iv)⟩), (4, ⟨36, .l nilStA⟩)], [(11, ⟨34, 8⟩)]⟩) (fun i => all.length - i) (fun i => True) (i0 := 0) ?_ trivial ?_
    · (refine Wk.mk' (by intro id h; cases h) ?_ ?_ ?_ <;> repeat' (first | exact WkF.nil | exact WkB.nil | exact WkT.nil | (refine WkF.cons rfl (Sub.refl _) ?_) | (refine WkB.cons rfl rfl (Subs.refl _) ?_) | (refine WkT.cons rfl ?_)))
    intro i _ K hK
    cases hx : all[i]? with
    | some t =>
      have ilt := ltT (l := all.map Tab.c) (getF (f := Tab.c) hx)
      have ilt' := ltN hx
      have g2 : (all.map Tab.c)[((i : Nat) : Int).toNat]? = some [S t.n, .sl (t.cols.map Col.c)] := by rw [Int.toNat_natCast, List.getElem?_map, hx]; rfl
      have htc := hsc.c t (List.mem_of_getElem? hx)
      have hat : atM (all.take i) ≤ 2000 := by
        have h1 := atM_le (x := all.take i) (fun t ht => hsc.c t (List.mem_of_mem_take ht))
        rw [List.length_take] at h1; omega
      have ha2 : atM (all.take (i + 1)) = atM (all.take i) + t.cols.length := by rw [takeC hx, atM_app]; simp [atM]
      have ho3 : allOut (all.take (i + 1)) 0 = allOut (all.take i) 0 ++ t.cols.zipIdx.map (refE t (atM (all.take i))) := by rw [takeC hx, allOut_app, Nat.zero_add]; simp [allOut]
      have hol : (allOut (all.take i) 0).length = atM (all.take i) := allOut_len _ _
      generalize allOut (all.take i) 0 = OO at *
      generalize atM (all.take i) = a at *
      (repeat' (first | (refine LW.is ?_; first | (apply s_vr; exact rfl; apply v_indexA; exact rfl; exact rfl; omega; exact g2; exact rfl) | refine s_v ?_ | refine s_m ?_ | refine s_nil ?_ | refine s_gd ?_ | (refine s_gsplit rfl rfl rfl (fun hb => ?_) (fun hb => ?_) <;> refine fct hb (fun hp => ?_))) | (refine DR.is ?_; first | (apply d_vr; exact rfl; apply v_indexA; exact rfl; exact rfl; omega; exact g2; exact rfl) | refine d_v ?_ | refine d_m ?_ | (apply d_nil; kernel_rfl) | refine d_gd ?_ | (refine d_gsplit rfl rfl rfl (fun hb => ?_) (fun hb => ?_) <;> refine fct hb (fun hp => ?_))) | refine c_go ?_ | refine s_region ?_ | refine d_region ?_ | (refine L.cond rfl (fun hb => ?_) (fun hb => ?_) <;> refine fct hb (fun hp => ?_))))
      refine L.loopP (ι := Nat) (fun k => ⟨[(106, aI (k : Int)), (105, aI ((t.cols.map Col.c).length : Int)), (104, .iv (.sl (t.cols.map Col.c))), (19, .ptr 19 0), (99, aI (i : Int)), (98, aI ((all.map Tab.c).length : Int)), (97, .iv (.sl (all.map Tab.c))), (17, aI (a : Int)), (11, .row 11 ((OO ++ (t.cols.zipIdx.take k).map (refE t a)).map Ex.c)), (6, .iv (.sl (all.map Tab.c))), (2, .ptr 2 0), (3, .ptr 3 0), (4, .ptr 4 0), (5, aI 0)],
        [(19, ⟨43, .l (t.c.map .iv)⟩), (2, ⟨25, .l (c.c.map .iv)⟩), (3, ⟨36, .l ((Stm.cs ⟨kind, name, table, col, cols, rows, sets, frm, [], wh, ord, down, n⟩).map .iv)⟩), (4, ⟨36, .l nilStA⟩)], [(11, ⟨34, 8⟩)]⟩) (fun k => t.cols.length - k) (fun k => True) (i0 := 0) ?_ trivial ?_
      · exact Wk.mk' (by intro id h; cases h) (.cons rfl (Sub.refl _) (.cons rfl (Sub.refl _) (.cons rfl (Sub.refl _) (.cons rfl (Sub.refl _) (.cons rfl (Sub.refl _) (.cons rfl (Sub.refl _) (.cons rfl (Sub.refl _) (.cons rfl (Sub.refl _) (.cons rfl (Sub.of_eq (congrArg (AV.row 11) (by simp))) (.cons rfl (Sub.refl _) (.cons rfl (Sub.refl _) (.cons rfl (Sub.refl _) (.cons rfl (Sub.refl _) (.cons rfl (Sub.refl _) .nil)))))))))))))) (.cons rfl rfl (Subs.refl _) (.cons rfl rfl (Subs.refl _) (.cons rfl rfl (Subs.refl _) (.cons rfl rfl (Subs.refl _) .nil)))) (.cons rfl .nil)
      intro k _ K2 hK2
      cases hy : t.cols[k]? with
      | some x =>
        have klt := ltT (l := t.cols.map Col.c) (getF (f := Col.c) hy)
        have klt' := ltN hy
        have g3 : (t.cols.map Col.c)[((k : Nat) : Int).toNat]? = some [S x.n, I x.t, .im (.bool x.m)] := by rw [Int.toNat_natCast, List.getElem?_map, hy]; rfl
        have n1 : ((OO ++ (t.cols.zipIdx.take (k + 1)).map (refE t a)).map Ex.c) = (OO ++ (t.cols.zipIdx.take k).map (refE t a)).map Ex.c ++ [(refE t a (x, k)).cs] := by rw [takeC (zip_at hy)]; simp only [List.map_append, List.map_cons, List.map_nil, List.append_assoc]; rw [Ex.c_cs (refE t a (x, k))]
        have l1 : ((OO ++ (t.cols.zipIdx.take k).map (refE t a)).map Ex.c).length + 1 ≤ 4000 := by rw [List.length_map, List.length_append, List.length_map, List.length_take, List.length_zipIdx]; omega
        have bm : ((OO ++ (t.cols.zipIdx.take k).map (refE t a)).map Ex.c).length + 1 ≤ maxLen := Nat.le_trans l1 (by rw [maxL]; decide)
        have bb : (((OO ++ (t.cols.zipIdx.take k).map (refE t a)).map Ex.c).length + 1) * 104 ≤ 225000000000000 := Nat.le_trans (Nat.mul_le_mul_right 104 l1) (by decide)
        have k1 := lenE (OO ++ (t.cols.zipIdx.take k).map (refE t a))
        generalize (OO ++ (t.cols.zipIdx.take k).map (refE t a)).map Ex.c = es at *
        (repeat' (first | (refine LW.is ?_; first | (apply s_vr; exact rfl; apply v_indexA; exact rfl; exact rfl; omega; exact g3; exact rfl) | (apply s_append; exact rfl; exact rfl; exact rfl; exact rfl; exact k1; exact len_cons rfl len_nil; exact bm; exact bb; exact rfl; exact rfl) | refine s_v ?_ | refine s_m ?_ | refine s_nil ?_ | refine s_gd ?_ | (refine s_gsplit rfl rfl rfl (fun hb => ?_) (fun hb => ?_) <;> refine fct hb (fun hp => ?_))) | (refine DR.is ?_; first | (apply d_vr; exact rfl; apply v_indexA; exact rfl; exact rfl; omega; exact g3; exact rfl) | (apply d_append; exact rfl; exact rfl; exact rfl; exact rfl; exact k1; exact len_cons rfl len_nil; exact bm; exact bb; exact rfl; exact rfl) | refine d_v ?_ | refine d_m ?_ | (apply d_nil; kernel_rfl) | refine d_gd ?_ | (refine d_gsplit rfl rfl rfl (fun hb => ?_) (fun hb => ?_) <;> refine fct hb (fun hp => ?_))) | refine c_go ?_ | refine s_region ?_ | refine d_region ?_ | (refine L.cond rfl (fun hb => ?_) (fun hb => ?_) <;> refine fct hb (fun hp => ?_))))
        refine L.onlyS [106, 105, 104, 19, 99, 98, 97, 17, 11, 6, 2, 3, 4, 5] [19, 2, 3, 4] rfl ?_
        refine L.retok 11 121 11 rfl rfl rfl rfl ?_
        refine hK2 _ (k + 1) trivial (by omega) (Wk.mk' (by intro id h; cases h) (.cons rfl (Sub.refl _) (.cons rfl (Sub.refl _) (.cons rfl (Sub.refl _) (.cons rfl (Sub.refl _) (.cons rfl (Sub.refl _) (.cons rfl (Sub.refl _) (.cons rfl (Sub.refl _) (.cons rfl (Sub.refl _) (.cons rfl (Sub.of_eq (congrArg (AV.row 11) n1.symm)) (.cons rfl (Sub.refl _) (.cons rfl (Sub.refl _) (.cons rfl (Sub.refl _) (.cons rfl (Sub.refl _) (.cons rfl (Sub.refl _) .nil)))))))))))))) (.cons rfl rfl (Subs.refl _) (.cons rfl rfl (Subs.refl _) (.cons rfl rfl (Subs.refl _) (.cons rfl rfl (Subs.refl _) .nil)))) (.cons rfl .nil))
      | none =>
        have klt := ltF (l := t.cols.map Col.c) (getFN hy)
        rw [take_all (zip_none hy)]
        have lc : ((t.cols.map Col.c).length : Int) = (t.cols.length : Int) := by simp
        (repeat' (first | (refine LW.is ?_; first | (apply s_vr; exact rfl; apply v_addI; exact rfl; exact rfl; (rw [lc]; omega); (rw [lc]; omega)) | refine s_v ?_ | refine s_m ?_ | refine s_nil ?_ | refine s_gd ?_ | (refine s_gsplit rfl rfl rfl (fun hb => ?_) (fun hb => ?_) <;> refine fct hb (fun hp => ?_))) | (refine DR.is ?_; first | (apply d_vr; exact rfl; apply v_addI; exact rfl; exact rfl; (rw [lc]; omega); (rw [lc]; omega)) | refine d_v ?_ | refine d_m ?_ | (apply d_nil; kernel_rfl) | refine d_gd ?_ | (refine d_gsplit rfl rfl rfl (fun hb => ?_) (fun hb => ?_) <;> refine fct hb (fun hp => ?_))) | refine c_go ?_ | refine s_region ?_ | refine d_region ?_ | (refine L.cond rfl (fun hb => ?_) (fun hb => ?_) <;> refine fct hb (fun hp => ?_))))
        refine hK _ (i + 1) trivial (by omega) (Wk.mk' (by intro id h; cases h) (.cons rfl (Sub.refl _) (.cons rfl (Sub.refl _) (.cons rfl (Sub.refl _) (.cons rfl (Sub.of_eq (by rw [ha2, Int.natCast_add, ← lc])) (.cons rfl (Sub.of_eq (by rw [ho3])) (.cons rfl (Sub.refl _) (.cons rfl (Sub.refl _) (.cons rfl (Sub.refl _) (.cons rfl (Sub.refl _) (.cons rfl (Sub.refl _) .nil)))))))))) (.cons rfl rfl (Subs.refl _) (.cons rfl rfl (Subs.refl _) (.cons rfl rfl (Subs.refl _) .nil))) (.cons rfl .nil))
    | none =>
      have ilt := ltF (l := all.map Tab.c) (getFN hx)
      rw [take_all hx]
      clear hK hx
      generalize allOut all 0 = OUT at *
      (repeat' (first | (refine LW.is ?_; first | refine s_v ?_ | refine s_m ?_ | refine s_nil ?_ | refine s_gd ?_ | (refine s_gsplit rfl rfl rfl (fun hb => ?_) (fun hb => ?_) <;> refine fct hb (fun hp => ?_))) | (refine DR.is ?_; first | refine d_v ?_ | refine d_m ?_ | (apply d_nil; kernel_rfl) | refine d_gd ?_ | (refine d_gsplit rfl rfl rfl (fun hb => ?_) (fun hb => ?_) <;> refine fct hb (fun hp => ?_))) | refine c_go ?_ | refine s_region ?_ | refine d_region ?_ | (refine L.cond rfl (fun hb => ?_) (fun hb => ?_) <;> refine fct hb (fun hp => ?_))))
      refine L.adopt 22 (s := 22) (t := 34) (k := 8) rfl rfl rfl ?_
      refine L.loopP (ι := Nat) (fun j => ⟨[(132, aI (j : Int)), (131, aI ((ord.map Ex.c).length : Int)), (130, .iv (.sl (ord.map Ex.c))), (22, .row 22 (((ord.take j).map fun x => (bindM all x).1).map Ex.c)), (11, .iv (.sl (OUT.map Ex.c))), (6, .iv (.sl (all.map Tab.c))), (2, .ptr 2 0), (3, .ptr 3 0), (4, .ptr 4 0), (5, aI 0)],
        [(2, ⟨25, .l (c.c.map .iv)⟩), (3, ⟨36, .l ((Stm.cs ⟨kind, name, table, col, cols, rows, sets, frm, [], wh, ord, down, n⟩).map .iv)⟩), (4, ⟨36, .l nilStA⟩)], [(22, ⟨34, 8⟩)]⟩) (fun j => ord.length - j) (fun j => ∀ x ∈ ord.take j, (bindM all x).2.2 = 0) (i0 := 0) ?_ (by simp) ?_
      · exact Wk.mk' (by intro id h; cases h) (.cons rfl (Sub.refl _) (.cons rfl (Sub.refl _) (.cons rfl (Sub.refl _) (.cons rfl (Sub.refl _) (.cons rfl (Sub.row _ _) (.cons rfl (Sub.refl _) (.cons rfl (Sub.refl _) (.cons rfl (Sub.refl _) (.cons rfl (Sub.refl _) (.cons rfl (Sub.refl _) .nil)))))))))) (.cons rfl rfl (Subs.refl _) (.cons rfl rfl (Subs.refl _) (.cons rfl rfl (Subs.refl _) .nil))) (.cons rfl .nil)
      intro j hJ K hK
      cases hx : ord[j]? with
      | some x =>
        have jlt := ltT (l := ord.map Ex.c) (getF (f := Ex.c) hx)
        have jlt' := ltN hx
        have kx := bind_any all hsc x (hord x (List.mem_of_getElem? hx))
        have g2 : (ord.map Ex.c)[((j : Nat) : Int).toNat]? = some [I x.op, I x.v.k, I x.v.n, S x.v.s, S x.s, S x.name, I x.n, .sl (x.l.map Ex.c)] := by rw [Int.toNat_natCast, List.getElem?_map, hx]; exact congrArg some (Ex.c_cs x)
        have n1 : ((ord.take (j + 1)).map fun x => (bindM all x).1).map Ex.c = ((ord.take j).map fun x => (bindM all x).1).map Ex.c ++ [(bindM all x).1.cs] := by rw [takeC hx, List.map_append, List.map_append]; exact congrArg _ (by simp [Ex.c_cs])
        have l1 : (((ord.take j).map fun x => (bindM all x).1).map Ex.c).length + 1 ≤ ord.length := by rw [List.length_map, List.length_map, List.length_take]; omega
        have bm : (((ord.take j).map fun x => (bindM all x).1).map Ex.c).length + 1 ≤ maxLen := Nat.le_trans l1 (Nat.le_trans ho2 (by rw [maxL]; decide))
        have bb : ((((ord.take j).map fun x => (bindM all x).1).map Ex.c).length + 1) * 104 ≤ 225000000000000 := Nat.le_trans (Nat.mul_le_mul_right 104 l1) (Nat.le_trans ho1 (by decide))
        by_cases hf : (bindM all x).2.2 = 0
        · have hJ' := takeT_snoc (g := fun x => (bindM all x).2.2) hJ hx hf
          have k1 := lenE ((ord.take j).map fun x => (bindM all x).1)
          generalize bindM all x = m at *
          obtain ⟨e, ty, f⟩ := m
          dsimp only at hf kx n1
          subst hf
          generalize ((ord.take j).map fun x => (bindM all x).1).map Ex.c = es at *
          (repeat' (first | (refine LW.is ?_; first | (apply s_vr; exact rfl; apply v_indexA; exact rfl; exact rfl; omega; exact g2; exact rfl) | (apply s_call0; exact rfl; exact kx; exact rfl; exact rfl) | (apply s_append; exact rfl; exact rfl; exact rfl; exact rfl; exact k1; exact len_cons rfl len_nil; exact bm; exact bb; exact rfl; exact rfl) | refine s_v ?_ | refine s_m ?_ | refine s_nil ?_ | refine s_gd ?_ | (refine s_gsplit rfl rfl rfl (fun hb => ?_) (fun hb => ?_) <;> refine fct hb (fun hp => ?_))) | (refine DR.is ?_; first | (apply d_vr; exact rfl; apply v_indexA; exact rfl; exact rfl; omega; exact g2; exact rfl) | (apply d_call0; exact rfl; exact kx; exact rfl; exact rfl) | (apply d_append; exact rfl; exact rfl; exact rfl; exact rfl; exact k1; exact len_cons rfl len_nil; exact bm; exact bb; exact rfl; exact rfl) | refine d_v ?_ | refine d_m ?_ | (apply d_nil; kernel_rfl) | refine d_gd ?_ | (refine d_gsplit rfl rfl rfl (fun hb => ?_) (fun hb => ?_) <;> refine fct hb (fun hp => ?_))) | refine c_go ?_ | refine s_region ?_ | refine d_region ?_ | (refine L.cond rfl (fun hb => ?_) (fun hb => ?_) <;> refine fct hb (fun hp => ?_))))
          refine L.onlyS [132, 131, 130, 22, 11, 6, 2, 3, 4, 5] [2, 3, 4] rfl ?_
          refine L.retok 22 150 22 rfl rfl rfl rfl ?_
          refine hK _ (j + 1) hJ' (by omega) (Wk.mk' (by intro id h; cases h) (.cons rfl (Sub.refl _) (.cons rfl (Sub.refl _) (.cons rfl (Sub.refl _) (.cons rfl (Sub.of_eq (congrArg (AV.row 22) n1.symm)) (.cons rfl (Sub.refl _) (.cons rfl (Sub.refl _) (.cons rfl (Sub.refl _) (.cons rfl (Sub.refl _) (.cons rfl (Sub.refl _) (.cons rfl (Sub.refl _) .nil)))))))))) (.cons rfl rfl (Subs.refl _) (.cons rfl rfl (Subs.refl _) (.cons rfl rfl (Subs.refl _) .nil))) (.cons rfl .nil))
        · have he : errM (ord.map fun x => (bindM all x).2.2) = (bindM all x).2.2 := errT_at (g := fun x => (bindM all x).2.2) hJ hx hf
          rw [he, if_pos hf]
          generalize bindM all x = m at *
          obtain ⟨e, ty, f⟩ := m
          dsimp only at hf kx ⊢
          have q : (f != 0) = true := by simpa using hf
          (repeat' (first | (refine LW.is ?_; first | (apply s_vr; exact rfl; apply v_indexA; exact rfl; exact rfl; omega; exact g2; exact rfl) | (apply s_call0; exact rfl; exact kx; exact rfl; exact rfl) | refine s_v ?_ | refine s_m ?_ | refine s_nil ?_ | refine s_gd ?_ | (refine s_gsplit rfl rfl rfl (fun hb => ?_) (fun hb => ?_) <;> refine fct hb (fun hp => ?_))) | (refine DR.is ?_; first | (apply d_vr; exact rfl; apply v_indexA; exact rfl; exact rfl; omega; exact g2; exact rfl) | (apply d_call0; exact rfl; exact kx; exact rfl; exact rfl) | refine d_v ?_ | refine d_m ?_ | (apply d_nil; kernel_rfl) | refine d_gd ?_ | (refine d_gsplit rfl rfl rfl (fun hb => ?_) (fun hb => ?_) <;> refine fct hb (fun hp => ?_))) | refine c_go ?_ | refine s_region ?_ | refine d_region ?_ | (refine L.cond rfl (fun hb => ?_) (fun hb => ?_) <;> refine fct hb (fun hp => ?_))))
          all_goals (first | (apply L.ends1; exact rfl; exact rfl; exact rfl) | (apply L.ends2; exact rfl; exact rfl; exact rfl) | (apply L.ends3; exact rfl; exact rfl; exact rfl) | (apply L.ends1A; exact rfl; exact rfl; exact rfl) | (apply L.ends2A; exact rfl; exact rfl; exact rfl) | (apply L.ends3A; exact rfl; exact rfl; exact rfl))
          all_goals rfl
      | none =>
        have jlt := ltF (l := ord.map Ex.c) (getFN hx)
        rw [take_all hx] at hJ ⊢
        have he : errM (ord.map fun x => (bindM all x).2.2) = 0 := errT_no hJ
        rw [he, if_neg (by decide)]
        clear hK hJ hx he
        generalize (ord.map fun x => (bindM all x).1) = ORD at *
        have kw := where_any all hsc wh hwh
        generalize whereM all wh = W at *
        obtain ⟨W1, W2⟩ := W
        (repeat' (first | (refine LW.is ?_; first | (apply s_call0; exact rfl; exact kw; exact rfl; exact rfl) | refine s_v ?_ | refine s_m ?_ | refine s_nil ?_ | refine s_gd ?_ | (refine s_gsplit rfl rfl rfl (fun hb => ?_) (fun hb => ?_) <;> refine fct hb (fun hp => ?_))) | (refine DR.is ?_; first | (apply d_call0; exact rfl; exact kw; exact rfl; exact rfl) | refine d_v ?_ | refine d_m ?_ | (apply d_nil; kernel_rfl) | refine d_gd ?_ | (refine d_gsplit rfl rfl rfl (fun hb => ?_) (fun hb => ?_) <;> refine fct hb (fun hp => ?_))) | refine c_go ?_ | refine s_region ?_ | refine d_region ?_ | (refine L.cond rfl (fun hb => ?_) (fun hb => ?_) <;> refine fct hb (fun hp => ?_))))
        all_goals (first | (apply L.ends1; exact rfl; exact rfl; exact rfl) | (apply L.ends2; exact rfl; exact rfl; exact rfl) | (apply L.ends3; exact rfl; exact rfl; exact rfl) | (apply L.ends1A; exact rfl; exact rfl; exact rfl) | (apply L.ends2A; exact rfl; exact rfl; exact rfl) | (apply L.ends3A; exact rfl; exact rfl; exact rfl))
        all_goals rfl
  · rw [if_neg hnil]
    have hlo : ((((out.map Ex.c).length : Nat) : Int) == 0) = false := by
      have : out.length ≠ 0 := fun h => hnil (List.length_eq_zero_iff.1 h)
      simp; exact hnil
    generalize (out.map fun x => (bindM all x).1) = OUT at *
    (repeat' (first | (refine LW.is ?_; first | refine s_v ?_ | refine s_m ?_ | refine s_nil ?_ | refine s_gd ?_ | (refine s_gsplit rfl rfl rfl (fun hb => ?_) (fun hb => ?_) <;> refine fct hb (fun hp => ?_))) | (refine DR.is ?_; first | refine d_v ?_ | refine d_m ?_ | (apply d_nil; kernel_rfl) | refine d_gd ?_ | (refine d_gsplit rfl rfl rfl (fun hb => ?_) (fun hb => ?_) <;> refine fct hb (fun hp => ?_))) | refine c_go ?_ | refine s_region ?_ | refine d_region ?_ | (refine L.cond rfl (fun hb => ?_) (fun hb => ?_) <;> refine fct hb (fun hp => ?_))))
    refine L.adopt 22 (s := 22) (t := 34) (k := 8) rfl rfl rfl ?_
    refine L.loopP (ι := Nat) (fun j => ⟨[(132, aI (j : Int)), (131, aI ((ord.map Ex.c).length : Int)), (130, .iv (.sl (ord.map Ex.c))), (22, .row 22 (((ord.take j).map fun x => (bindM all x).1).map Ex.c)), (11, .iv (.sl (OUT.map Ex.c))), (6, .iv (.sl (all.map Tab.c))), (2, .ptr 2 0), (3, .ptr 3 0), (4, .ptr 4 0), (5, aI 0)],
      [(2, ⟨25, .l (c.c.map .iv)⟩), (3, ⟨36, .l ((Stm.cs ⟨kind, name, table, col, cols, rows, sets, frm, out, wh, ord, down, n⟩).map .iv)⟩), (4, ⟨36, .l nilStA⟩)], [(22, ⟨34, 8⟩)]⟩) (fun j => ord.length - j) (fun j => ∀ x ∈ ord.take j, (bindM all x).2.2 = 0) (i0 := 0) ?_ (by simp) ?_
    · exact Wk.mk' (by intro id h; cases h) (.cons rfl (Sub.refl _) (.cons rfl (Sub.refl _) (.cons rfl (Sub.refl _) (.cons rfl (Sub.refl _) (.cons rfl (Sub.row _ _) (.cons rfl (Sub.refl _) (.cons rfl (Sub.refl _) (.cons rfl (Sub.refl _) (.cons rfl (Sub.refl _) (.cons rfl (Sub.refl _) .nil)))))))))) (.cons rfl rfl (Subs.refl _) (.cons rfl rfl (Subs.refl _) (.cons rfl rfl (Subs.refl _) .nil))) (.cons rfl .nil)
    intro j hJ K hK
    cases hx : ord[j]? with
    | some x =>
      have jlt := ltT (l := ord.map Ex.c) (getF (f := Ex.c) hx)
      have jlt' := ltN hx
      have kx := bind_any all hsc x (hord x (List.mem_of_getElem? hx))
      have g2 : (ord.map Ex.c)[((j : Nat) : Int).toNat]? = some [I x.op, I x.v.k, I x.v.n, S x.v.s, S x.s, S x.name, I x.n, .sl (x.l.map Ex.c)] := by rw [Int.toNat_natCast, List.getElem?_map, hx]; exact congrArg some (Ex.c_cs x)
      have n1 : ((ord.take (j + 1)).map fun x => (bindM all x).1).map Ex.c = ((ord.take j).map fun x => (bindM all x).1).map Ex.c ++ [(bindM all x).1.cs] := by rw [takeC hx, List.map_append, List.map_append]; exact congrArg _ (by simp [Ex.c_cs])
      have l1 : (((ord.take j).map fun x => (bindM all x).1).map Ex.c).length + 1 ≤ ord.length := by rw [List.length_map, List.length_map, List.length_take]; omega
      have bm : (((ord.take j).map fun x => (bindM all x).1).map Ex.c).length + 1 ≤ maxLen := Nat.le_trans l1 (Nat.le_trans ho2 (by rw [maxL]; decide))
      have bb : ((((ord.take j).map fun x => (bindM all x).1).map Ex.c).length + 1) * 104 ≤ 225000000000000 := Nat.le_trans (Nat.mul_le_mul_right 104 l1) (Nat.le_trans ho1 (by decide))
      by_cases hf : (bindM all x).2.2 = 0
      · have hJ' := takeT_snoc (g := fun x => (bindM all x).2.2) hJ hx hf
        have k1 := lenE ((ord.take j).map fun x => (bindM all x).1)
        generalize bindM all x = m at *
        obtain ⟨e, ty, f⟩ := m
        dsimp only at hf kx n1
        subst hf
        generalize ((ord.take j).map fun x => (bindM all x).1).map Ex.c = es at *
        (repeat' (first | (refine LW.is ?_; first | (apply s_vr; exact rfl; apply v_indexA; exact rfl; exact rfl; omega; exact g2; exact rfl) | (apply s_call0; exact rfl; exact kx; exact rfl; exact rfl) | (apply s_append; exact rfl; exact rfl; exact rfl; exact rfl; exact k1; exact len_cons rfl len_nil; exact bm; exact bb; exact rfl; exact rfl) | refine s_v ?_ | refine s_m ?_ | refine s_nil ?_ | refine s_gd ?_ | (refine s_gsplit rfl rfl rfl (fun hb => ?_) (fun hb => ?_) <;> refine fct hb (fun hp => ?_))) | (refine DR.is ?_; first | (apply d_vr; exact rfl; apply v_indexA; exact rfl; exact rfl; omega; exact g2; exact rfl) | (apply d_call0; exact rfl; exact kx; exact rfl; exact rfl) | (apply d_append; exact rfl; exact rfl; exact rfl; exact rfl; exact k1; exact len_cons rfl len_nil; exact bm; exact bb; exact rfl; exact rfl) | refine d_v ?_ | refine d_m ?_ | (apply d_nil; kernel_rfl) | refine d_gd ?_ | (refine d_gsplit rfl rfl rfl (fun hb => ?_) (fun hb => ?_) <;> refine fct hb (fun hp => ?_))) | refine c_go ?_ | refine s_region ?_ | refine d_region ?_ | (refine L.cond rfl (fun hb => ?_) (fun hb => ?_) <;> refine fct hb (fun hp => ?_))))
        refine L.onlyS [132, 131, 130, 22, 11, 6, 2, 3, 4, 5] [2, 3, 4] rfl ?_
        refine L.retok 22 150 22 rfl rfl rfl rfl ?_
        refine hK _ (j + 1) hJ' (by omega) (Wk.mk' (by intro id h; cases h) (.cons rfl (Sub.refl _) (.cons rfl (Sub.refl _) (.cons rfl (Sub.refl _) (.cons rfl (Sub.of_eq (congrArg (AV.row 22) n1.symm)) (.cons rfl (Sub.refl _) (.cons rfl (Sub.refl _) (.cons rfl (Sub.refl _) (.cons rfl (Sub.refl _) (.cons rfl (Sub.refl _) (.cons rfl (Sub.refl _) .nil)))))))))) (.cons rfl rfl (Subs.refl _) (.cons rfl rfl (Subs.refl _) (.cons rfl rfl (Subs.refl _) .nil))) (.cons rfl .nil))
      · have he : errM (ord.map fun x => (bindM all x).2.2) = (bindM all x).2.2 := errT_at (g := fun x => (bindM all x).2.2) hJ hx hf
        rw [he, if_pos hf]
        generalize bindM all x = m at *
        obtain ⟨e, ty, f⟩ := m
        dsimp only at hf kx ⊢
        have q : (f != 0) = true := by simpa using hf
        (repeat' (first | (refine LW.is ?_; first | (apply s_vr; exact rfl; apply v_indexA; exact rfl; exact rfl; omega; exact g2; exact rfl) | (apply s_call0; exact rfl; exact kx; exact rfl; exact rfl) | refine s_v ?_ | refine s_m ?_ | refine s_nil ?_ | refine s_gd ?_ | (refine s_gsplit rfl rfl rfl (fun hb => ?_) (fun hb => ?_) <;> refine fct hb (fun hp => ?_))) | (refine DR.is ?_; first | (apply d_vr; exact rfl; apply v_indexA; exact rfl; exact rfl; omega; exact g2; exact rfl) | (apply d_call0; exact rfl; exact kx; exact rfl; exact rfl) | refine d_v ?_ | refine d_m ?_ | (apply d_nil; kernel_rfl) | refine d_gd ?_ | (refine d_gsplit rfl rfl rfl (fun hb => ?_) (fun hb => ?_) <;> refine fct hb (fun hp => ?_))) | refine c_go ?_ | refine s_region ?_ | refine d_region ?_ | (refine L.cond rfl (fun hb => ?_) (fun hb => ?_) <;> refine fct hb (fun hp => ?_))))
        all_goals (first | (apply L.ends1; exact rfl; exact rfl; exact rfl) | (apply L.ends2; exact rfl; exact rfl; exact rfl) | (apply L.ends3; exact rfl; exact rfl; exact rfl) | (apply L.ends1A; exact rfl; exact rfl; exact rfl) | (apply L.ends2A; exact rfl; exact rfl; exact rfl) | (apply L.ends3A; exact rfl; exact rfl; exact rfl))
        all_goals rfl
    | none =>
      have jlt := ltF (l := ord.map Ex.c) (getFN hx)
      rw [take_all hx] at hJ ⊢
      have he : errM (ord.map fun x => (bindM all x).2.2) = 0 := errT_no hJ
      rw [he, if_neg (by decide)]
      clear hK hJ hx he
      generalize (ord.map fun x => (bindM all x).1) = ORD at *
      have kw := where_any all hsc wh hwh
      generalize whereM all wh = W at *
      obtain ⟨W1, W2⟩ := W
      (repeat' (first | (refine LW.is ?_; first | (apply s_call0; exact rfl; exact kw; exact rfl; exact rfl) | refine s_v ?_ | refine s_m ?_ | refine s_nil ?_ | refine s_gd ?_ | (refine s_gsplit rfl rfl rfl (fun hb => ?_) (fun hb => ?_) <;> refine fct hb (fun hp => ?_))) | (refine DR.is ?_; first | (apply d_call0; exact rfl; exact kw; exact rfl; exact rfl) | refine d_v ?_ | refine d_m ?_ | (apply d_nil; kernel_rfl) | refine d_gd ?_ | (refine d_gsplit rfl rfl rfl (fun hb => ?_) (fun hb => ?_) <;> refine fct hb (fun hp => ?_))) | refine c_go ?_ | refine s_region ?_ | refine d_region ?_ | (refine L.cond rfl (fun hb => ?_) (fun hb => ?_) <;> refine fct hb (fun hp => ?_))))
      all_goals (first | (apply L.ends1; exact rfl; exact rfl; exact rfl) | (apply L.ends2; exact rfl; exact rfl; exact rfl) | (apply L.ends3; exact rfl; exact rfl; exact rfl) | (apply L.ends1A; exact rfl; exact rfl; exact rfl) | (apply L.ends2A; exact rfl; exact rfl; exact rfl) | (apply L.ends3A; exact rfl; exact rfl; exact rfl))
      all_goals rfl
end Go.Proofs.YthkobnpogigkiaaDoor
