/- Several texts in one, each with its own sentence ahead of it. Conditions: each one says its own. -/
import Derived.Test.YthkobnpogigkiaaDoorZPlanWays5
import Derived.Test.YthkobnpogigkiaaDoorRows
/- Expressions: what Eval computes. Conditions: how much there is of what comes in. -/
namespace Go.Proofs.YthkobnpogigkiaaDoor
open Go.Abs
set_option maxRecDepth 100000
attribute [local irreducible] L Code.wp bodyPost Exit.then Exit.inBlock
set_option linter.unusedVariables false
set_option linter.unusedSimpArgs false
inductive Ex where
  | mk (op : Int) (v : Val) (s name : List UInt8) (n : Int) (l : List Ex)
def Ex.op : Ex → Int | .mk op _ _ _ _ _ => op
def Ex.v : Ex → Val | .mk _ v _ _ _ _ => v
def Ex.s : Ex → List UInt8 | .mk _ _ s _ _ _ => s
def Ex.name : Ex → List UInt8 | .mk _ _ _ s _ _ => s
def Ex.n : Ex → Int | .mk _ _ _ _ n _ => n
def Ex.l : Ex → List Ex | .mk _ _ _ _ _ l => l
def Ex.c : Ex → List IV
  | .mk op v s name n l => [I op, I v.k, I v.n, S v.s, S s, S name, I n, .sl (l.attach.map fun x => x.1.c)]
 decreasing_by
  have := List.sizeOf_lt_of_mem x.2
  simp; omega
theorem Ex.c_eq (op : Int) (v : Val) (s name : List UInt8) (n : Int) (l : List Ex) : Ex.c (.mk op v s name n l) = [I op, I v.k, I v.n, S v.s, S s, S name, I n, .sl (l.map Ex.c)] := by
  rw [Ex.c]; simp [List.attach_map_val]
def restM (op : Int) : List Val → Val
  | [a] => if op = 9 then truthM (notM (ofM a)) else if op = 10 then truthM (numM (a.k == 0)) else nilV
  | [a, b] => twoM op a b
  | _ => nilV
def refM (n : Int) (row : List Val) : Val := if 0 ≤ n then (row[n.toNat]?).getD nilV else nilV
def evalOne (op : Int) (v : Val) (n : Int) (vs row : List Val) : Val :=
  if op = 1 then v else if op = 2 then refM n row else restM op vs
def evalM (row : List Val) : Ex → Val
  | .mk op v s name n l => evalOne op v n (l.attach.map fun x => evalM row x.1) row
 decreasing_by
  have := List.sizeOf_lt_of_mem x.2
  simp; omega
theorem evalM_eq (row : List Val) (op : Int) (v : Val) (s name : List UInt8) (n : Int) (l : List Ex) : evalM row (.mk op v s name n l) = evalOne op v n (l.map (evalM row)) row := by
  rw [evalM]; simp
inductive Ex.Ok : Ex → Prop
  | mk {op : Int} {v : Val} {s name : List UInt8} {n : Int} {l : List Ex} (hl : l.length * 104 ≤ 140737488355328) (h : ∀ x ∈ l, x.Ok) : Ex.Ok (.mk op v s name n l)
theorem evalOne_ref (v : Val) (n : Int) (vs row : List Val) : evalOne 2 v n vs row = refM n row := by simp [evalOne]
theorem evalOne_rest {op : Int} (v : Val) (n : Int) (vs row : List Val) (h1 : op ≠ 1) (h2 : op ≠ 2) : evalOne op v n vs row = restM op vs := by rw [evalOne, if_neg h1, if_neg h2]
set_option maxRecDepth 100000 in
set_option maxHeartbeats 4000000 in
theorem eval_any (row : List Val) : ∀ (e : Ex) (hok : e.Ok), CallA Tryd.prog 13 [.agg (e.c.map .iv), .iv (.sl (row.map Val.c))] [] [] [] (.agg ((evalM row e).c.map .iv))
  | .mk op v s name n l, hok => by
    have ih : ∀ x ∈ l, CallA Tryd.prog 13 [.agg (x.c.map .iv), .iv (.sl (row.map Val.c))] [] [] [] (.agg ((evalM row x).c.map .iv)) := fun x hx => eval_any row x (by cases hok with | mk _ h => exact h x hx)
    have hl : l.length * 104 ≤ 140737488355328 := by cases hok with | mk hl _ => exact hl
    rw [Ex.c_eq, evalM_eq]
    refine CallA.intro _ Tryd.func13 rfl Tryd.ntmps13 rfl (fun w0 E0 => ?_)
    (repeat' (first | (refine LW.is ?_; first | refine s_v ?_ | refine s_m ?_ | refine s_nil ?_ | refine s_gd ?_ | (refine s_gsplit rfl rfl rfl (fun hb => ?_) (fun hb => ?_) <;> refine fct hb (fun hp => ?_))) | (refine DR.is ?_; first | refine d_v ?_ | refine d_m ?_ | (apply d_nil; kernel_rfl) | refine d_gd ?_ | (refine d_gsplit rfl rfl rfl (fun hb => ?_) (fun hb => ?_) <;> refine fct hb (fun hp => ?_))) | refine c_go ?_ | refine s_region ?_ | refine d_region ?_ | (refine L.cond rfl (fun hb => ?_) (fun hb => ?_) <;> refine fct hb (fun hp => ?_))))
    refine L.adopt 5 (s := 5) (t := 32) (k := 3) rfl rfl rfl ?_
    refine L.loopP (ι := Nat) (fun i => ⟨[(11, aI (i : Int)), (10, aI ((l.map Ex.c).length : Int)), (9, .iv (.sl (l.map Ex.c))), (5, .row 5 (((l.take i).map (evalM row)).map Val.c)), (1, .iv (.sl (row.map Val.c))), (2, .ptr 2 0), (4, .ptr 4 0)],
      [(2, ⟨34, .l [.iv (I op), .iv (I v.k), .iv (I v.n), .iv (S v.s), .iv (S s), .iv (S name), .iv (I n), .iv (.sl (l.map Ex.c))]⟩), (4, ⟨32, .l [.iv (I 0), .iv (I 0), .iv (S [])]⟩)], [(5, ⟨32, 3⟩)]⟩) (fun i => l.length - i) (fun i => True) (i0 := 0) ?_ trivial ?_
    · (refine Wk.mk' (by intro id h; cases h) ?_ ?_ ?_ <;> repeat' (first | exact WkF.nil | exact WkB.nil | exact WkT.nil | (refine WkF.cons rfl (Sub.refl _) ?_) | (refine WkB.cons rfl rfl (Subs.refl _) ?_) | (refine WkT.cons rfl ?_)))
    intro i _ K hK
    cases hv : l[i]? with
    | some x =>
      have hlt := ltT (l := l.map Ex.c) (getF hv)
      have hlt' := ltN hv
      have ihx := ih x (List.mem_of_getElem? hv)
      have hnext : ((l.take (i + 1)).map (evalM row)).map Val.c = ((l.take i).map (evalM row)).map Val.c ++ [(evalM row x).c] := by rw [takeC hv]; simp
      generalize evalM row x = r at ihx hnext
      obtain ⟨op', v', s', name', n', l'⟩ := x
      rw [Ex.c_eq] at ihx
      have he : (l.map Ex.c)[((i : Nat) : Int).toNat]? = some [I op', I v'.k, I v'.n, S v'.s, S s', S name', I n', .sl (l'.map Ex.c)] := by
        rw [← Ex.c_eq]; simp [hv]
      clear hv ih hok
      (repeat' (first | (refine LW.is ?_; first | (apply s_vr; exact rfl; apply v_indexA; exact rfl; exact rfl; omega; exact he; exact rfl) | (apply s_call0; exact rfl; exact ihx; exact rfl; exact rfl) | refine s_v ?_ | refine s_m ?_ | refine s_nil ?_ | refine s_gd ?_ | (refine s_gsplit rfl rfl rfl (fun hb => ?_) (fun hb => ?_) <;> refine fct hb (fun hp => ?_))) | (refine DR.is ?_; first | (apply d_vr; exact rfl; apply v_indexA; exact rfl; exact rfl; omega; exact he; exact rfl) | (apply d_call0; exact rfl; exact ihx; exact rfl; exact rfl) | refine d_v ?_ | refine d_m ?_ | (apply d_nil; kernel_rfl) | refine d_gd ?_ | (refine d_gsplit rfl rfl rfl (fun hb => ?_) (fun hb => ?_) <;> refine fct hb (fun hp => ?_))) | refine c_go ?_ | refine s_region ?_ | refine d_region ?_ | (refine L.cond rfl (fun hb => ?_) (fun hb => ?_) <;> refine fct hb (fun hp => ?_))))
      refine L.only [11, 10, 9, 5, 1, 2, 4] ?_
      refine L.retok 5 20 5 rfl rfl rfl rfl ?_
      refine hK _ (i + 1) trivial (by omega) (Wk.mk' (by intro id h; cases h) (.cons rfl (Sub.refl _) (.cons rfl (Sub.refl _) (.cons rfl (Sub.refl _) (.cons rfl (Sub.of_eq (congrArg (AV.row 5) ?_)) (.cons rfl (Sub.refl _) (.cons rfl (Sub.refl _) (.cons rfl (Sub.refl _) .nil))))))) (.cons rfl rfl (Subs.refl _) (.cons rfl rfl (Subs.refl _) .nil)) (.cons rfl .nil))
      rw [hnext]; rfl
    | none =>
      have hlt := ltF (l := l.map Ex.c) (getFN hv)
      rw [takeN hv]
      generalize hvs : l.map (evalM row) = vs
      clear hK ih hok hvs
      by_cases h1 : op = 1
      · subst h1
        have e : evalOne 1 v n vs row = v := by simp [evalOne]
        rw [e]
        (repeat' (first | (refine LW.is ?_; first | refine s_v ?_ | refine s_m ?_ | refine s_nil ?_ | refine s_gd ?_ | (refine s_gsplit rfl rfl rfl (fun hb => ?_) (fun hb => ?_) <;> refine fct hb (fun hp => ?_))) | (refine DR.is ?_; first | refine d_v ?_ | refine d_m ?_ | (apply d_nil; kernel_rfl) | refine d_gd ?_ | (refine d_gsplit rfl rfl rfl (fun hb => ?_) (fun hb => ?_) <;> refine fct hb (fun hp => ?_))) | refine c_go ?_ | refine s_region ?_ | refine d_region ?_ | (refine L.cond rfl (fun hb => ?_) (fun hb => ?_) <;> refine fct hb (fun hp => ?_))))
        all_goals (first | (apply L.ends1; exact rfl; exact rfl; exact rfl) | (apply L.ends2; exact rfl; exact rfl; exact rfl) | (apply L.ends3; exact rfl; exact rfl; exact rfl) | (apply L.ends1A; exact rfl; exact rfl; exact rfl) | (apply L.ends2A; exact rfl; exact rfl; exact rfl) | (apply L.ends3A; exact rfl; exact rfl; exact rfl))
        all_goals kernel_rfl
      have q1 : (op == 1) = false := by simp [h1]
      by_cases h2 : op = 2
      · subst h2
        rw [evalOne_ref]
        cases hn0 : decide ((0 : Int) ≤ n) with
        | false =>
          have e : refM n row = nilV := by simp at hn0; rw [refM, if_neg (by omega)]
          rw [e]
          (repeat' (first | (refine LW.is ?_; first | refine s_v ?_ | refine s_m ?_ | refine s_nil ?_ | refine s_gd ?_ | (refine s_gsplit rfl rfl rfl (fun hb => ?_) (fun hb => ?_) <;> refine fct hb (fun hp => ?_))) | (refine DR.is ?_; first | refine d_v ?_ | refine d_m ?_ | (apply d_nil; kernel_rfl) | refine d_gd ?_ | (refine d_gsplit rfl rfl rfl (fun hb => ?_) (fun hb => ?_) <;> refine fct hb (fun hp => ?_))) | refine c_go ?_ | refine s_region ?_ | refine d_region ?_ | (refine L.cond rfl (fun hb => ?_) (fun hb => ?_) <;> refine fct hb (fun hp => ?_))))
          all_goals (first | (apply L.ends1; exact rfl; exact rfl; exact rfl) | (apply L.ends2; exact rfl; exact rfl; exact rfl) | (apply L.ends3; exact rfl; exact rfl; exact rfl) | (apply L.ends1A; exact rfl; exact rfl; exact rfl) | (apply L.ends2A; exact rfl; exact rfl; exact rfl) | (apply L.ends3A; exact rfl; exact rfl; exact rfl))
          all_goals kernel_rfl
        | true =>
          have hn0' : 0 ≤ n := by simpa using hn0
          cases hr : row[n.toNat]? with
          | none =>
            have e : refM n row = nilV := by rw [refM, if_pos hn0', hr]; rfl
            have hlt2 : decide (n < ((row.map Val.c).length : Int)) = false := by
              have := List.getElem?_eq_none_iff.1 hr
              simp; omega
            rw [e]
            (repeat' (first | (refine LW.is ?_; first | refine s_v ?_ | refine s_m ?_ | refine s_nil ?_ | refine s_gd ?_ | (refine s_gsplit rfl rfl rfl (fun hb => ?_) (fun hb => ?_) <;> refine fct hb (fun hp => ?_))) | (refine DR.is ?_; first | refine d_v ?_ | refine d_m ?_ | (apply d_nil; kernel_rfl) | refine d_gd ?_ | (refine d_gsplit rfl rfl rfl (fun hb => ?_) (fun hb => ?_) <;> refine fct hb (fun hp => ?_))) | refine c_go ?_ | refine s_region ?_ | refine d_region ?_ | (refine L.cond rfl (fun hb => ?_) (fun hb => ?_) <;> refine fct hb (fun hp => ?_))))
            all_goals (first | (apply L.ends1; exact rfl; exact rfl; exact rfl) | (apply L.ends2; exact rfl; exact rfl; exact rfl) | (apply L.ends3; exact rfl; exact rfl; exact rfl) | (apply L.ends1A; exact rfl; exact rfl; exact rfl) | (apply L.ends2A; exact rfl; exact rfl; exact rfl) | (apply L.ends3A; exact rfl; exact rfl; exact rfl))
            all_goals kernel_rfl
          | some r =>
            have e : refM n row = r := by rw [refM, if_pos hn0', hr]; rfl
            have hlt2 : decide (n < ((row.map Val.c).length : Int)) = true := by
              have := (List.getElem?_eq_some_iff.1 hr).1
              simp; omega
            have hrow : (row.map Val.c)[n.toNat]? = some r.c := by simp [hr]
            rw [e]
            (repeat' (first | (refine LW.is ?_; first | (apply s_vr; exact rfl; apply v_indexA; exact rfl; exact rfl; omega; exact hrow; exact rfl) | refine s_v ?_ | refine s_m ?_ | refine s_nil ?_ | refine s_gd ?_ | (refine s_gsplit rfl rfl rfl (fun hb => ?_) (fun hb => ?_) <;> refine fct hb (fun hp => ?_))) | (refine DR.is ?_; first | (apply d_vr; exact rfl; apply v_indexA; exact rfl; exact rfl; omega; exact hrow; exact rfl) | refine d_v ?_ | refine d_m ?_ | (apply d_nil; kernel_rfl) | refine d_gd ?_ | (refine d_gsplit rfl rfl rfl (fun hb => ?_) (fun hb => ?_) <;> refine fct hb (fun hp => ?_))) | refine c_go ?_ | refine s_region ?_ | refine d_region ?_ | (refine L.cond rfl (fun hb => ?_) (fun hb => ?_) <;> refine fct hb (fun hp => ?_))))
            all_goals (first | (apply L.ends1; exact rfl; exact rfl; exact rfl) | (apply L.ends2; exact rfl; exact rfl; exact rfl) | (apply L.ends3; exact rfl; exact rfl; exact rfl) | (apply L.ends1A; exact rfl; exact rfl; exact rfl) | (apply L.ends2A; exact rfl; exact rfl; exact rfl) | (apply L.ends3A; exact rfl; exact rfl; exact rfl))
            all_goals kernel_rfl
      have q2 : (op == 2) = false := by simp [h2]
      rw [evalOne_rest _ _ _ _ h1 h2]
      by_cases h9 : op = 9
      · subst h9
        match vs with
        | [] =>
          (repeat' (first | (refine LW.is ?_; first | refine s_v ?_ | refine s_m ?_ | refine s_nil ?_ | refine s_gd ?_ | (refine s_gsplit rfl rfl rfl (fun hb => ?_) (fun hb => ?_) <;> refine fct hb (fun hp => ?_))) | (refine DR.is ?_; first | refine d_v ?_ | refine d_m ?_ | (apply d_nil; kernel_rfl) | refine d_gd ?_ | (refine d_gsplit rfl rfl rfl (fun hb => ?_) (fun hb => ?_) <;> refine fct hb (fun hp => ?_))) | refine c_go ?_ | refine s_region ?_ | refine d_region ?_ | (refine L.cond rfl (fun hb => ?_) (fun hb => ?_) <;> refine fct hb (fun hp => ?_))))
          all_goals (first | (apply L.ends1; exact rfl; exact rfl; exact rfl) | (apply L.ends2; exact rfl; exact rfl; exact rfl) | (apply L.ends3; exact rfl; exact rfl; exact rfl) | (apply L.ends1A; exact rfl; exact rfl; exact rfl) | (apply L.ends2A; exact rfl; exact rfl; exact rfl) | (apply L.ends3A; exact rfl; exact rfl; exact rfl))
          all_goals kernel_rfl
        | [a] =>
          have e : restM 9 [a] = truthM (notM (ofM a)) := by simp [restM]
          rw [e]
          (repeat' (first | (refine LW.is ?_; first | (apply s_vr; exact rfl; apply v_indexA; exact rfl; exact rfl; decide; exact rfl; exact rfl) | (apply s_call0; exact rfl; rotate_left; exact rfl; rotate_left 3; exact of_any a; exact rfl) | (apply s_call0; exact rfl; rotate_left; exact rfl; rotate_left 3; exact not_any _; exact rfl) | (apply s_call0; exact rfl; rotate_left; exact rfl; rotate_left 3; exact truth_any _; exact rfl) | refine s_v ?_ | refine s_m ?_ | refine s_nil ?_ | refine s_gd ?_ | (refine s_gsplit rfl rfl rfl (fun hb => ?_) (fun hb => ?_) <;> refine fct hb (fun hp => ?_))) | (refine DR.is ?_; first | (apply d_vr; exact rfl; apply v_indexA; exact rfl; exact rfl; decide; exact rfl; exact rfl) | (apply d_call0; exact rfl; rotate_left; exact rfl; rotate_left 3; exact of_any a; exact rfl) | (apply d_call0; exact rfl; rotate_left; exact rfl; rotate_left 3; exact not_any _; exact rfl) | (apply d_call0; exact rfl; rotate_left; exact rfl; rotate_left 3; exact truth_any _; exact rfl) | refine d_v ?_ | refine d_m ?_ | (apply d_nil; kernel_rfl) | refine d_gd ?_ | (refine d_gsplit rfl rfl rfl (fun hb => ?_) (fun hb => ?_) <;> refine fct hb (fun hp => ?_))) | refine c_go ?_ | refine s_region ?_ | refine d_region ?_ | (refine L.cond rfl (fun hb => ?_) (fun hb => ?_) <;> refine fct hb (fun hp => ?_))))
          all_goals (first | (apply L.ends1; exact rfl; exact rfl; exact rfl) | (apply L.ends2; exact rfl; exact rfl; exact rfl) | (apply L.ends3; exact rfl; exact rfl; exact rfl) | (apply L.ends1A; exact rfl; exact rfl; exact rfl) | (apply L.ends2A; exact rfl; exact rfl; exact rfl) | (apply L.ends3A; exact rfl; exact rfl; exact rfl))
          all_goals kernel_rfl
        | [a, b] =>
          (repeat' (first | (refine LW.is ?_; first | (apply s_vr; exact rfl; apply v_indexA; exact rfl; exact rfl; decide; exact rfl; exact rfl) | (apply s_call0; exact rfl; rotate_left; exact rfl; rotate_left 3; exact two_any 9 a b; exact rfl) | refine s_v ?_ | refine s_m ?_ | refine s_nil ?_ | refine s_gd ?_ | (refine s_gsplit rfl rfl rfl (fun hb => ?_) (fun hb => ?_) <;> refine fct hb (fun hp => ?_))) | (refine DR.is ?_; first | (apply d_vr; exact rfl; apply v_indexA; exact rfl; exact rfl; decide; exact rfl; exact rfl) | (apply d_call0; exact rfl; rotate_left; exact rfl; rotate_left 3; exact two_any 9 a b; exact rfl) | refine d_v ?_ | refine d_m ?_ | (apply d_nil; kernel_rfl) | refine d_gd ?_ | (refine d_gsplit rfl rfl rfl (fun hb => ?_) (fun hb => ?_) <;> refine fct hb (fun hp => ?_))) | refine c_go ?_ | refine s_region ?_ | refine d_region ?_ | (refine L.cond rfl (fun hb => ?_) (fun hb => ?_) <;> refine fct hb (fun hp => ?_))))
          all_goals (first | (apply L.ends1; exact rfl; exact rfl; exact rfl) | (apply L.ends2; exact rfl; exact rfl; exact rfl) | (apply L.ends3; exact rfl; exact rfl; exact rfl) | (apply L.ends1A; exact rfl; exact rfl; exact rfl) | (apply L.ends2A; exact rfl; exact rfl; exact rfl) | (apply L.ends3A; exact rfl; exact rfl; exact rfl))
          all_goals kernel_rfl
        | a :: b :: c :: t =>
          have hn1 : ((((a :: b :: c :: t).map Val.c).length : Int) == 1) = false := by simp; omega
          have hn2 : ((((a :: b :: c :: t).map Val.c).length : Int) == 2) = false := by simp; omega
          (repeat' (first | (refine LW.is ?_; first | refine s_v ?_ | refine s_m ?_ | refine s_nil ?_ | refine s_gd ?_ | (refine s_gsplit rfl rfl rfl (fun hb => ?_) (fun hb => ?_) <;> refine fct hb (fun hp => ?_))) | (refine DR.is ?_; first | refine d_v ?_ | refine d_m ?_ | (apply d_nil; kernel_rfl) | refine d_gd ?_ | (refine d_gsplit rfl rfl rfl (fun hb => ?_) (fun hb => ?_) <;> refine fct hb (fun hp => ?_))) | refine c_go ?_ | refine s_region ?_ | refine d_region ?_ | (refine L.cond rfl (fun hb => ?_) (fun hb => ?_) <;> refine fct hb (fun hp => ?_))))
          all_goals (first | (apply L.ends1; exact rfl; exact rfl; exact rfl) | (apply L.ends2; exact rfl; exact rfl; exact rfl) | (apply L.ends3; exact rfl; exact rfl; exact rfl) | (apply L.ends1A; exact rfl; exact rfl; exact rfl) | (apply L.ends2A; exact rfl; exact rfl; exact rfl) | (apply L.ends3A; exact rfl; exact rfl; exact rfl))
          all_goals kernel_rfl
      have q9 : (op == 9) = false := by simp [h9]
      by_cases h10 : op = 10
      · subst h10
        match vs with
        | [] =>
          (repeat' (first | (refine LW.is ?_; first | refine s_v ?_ | refine s_m ?_ | refine s_nil ?_ | refine s_gd ?_ | (refine s_gsplit rfl rfl rfl (fun hb => ?_) (fun hb => ?_) <;> refine fct hb (fun hp => ?_))) | (refine DR.is ?_; first | refine d_v ?_ | refine d_m ?_ | (apply d_nil; kernel_rfl) | refine d_gd ?_ | (refine d_gsplit rfl rfl rfl (fun hb => ?_) (fun hb => ?_) <;> refine fct hb (fun hp => ?_))) | refine c_go ?_ | refine s_region ?_ | refine d_region ?_ | (refine L.cond rfl (fun hb => ?_) (fun hb => ?_) <;> refine fct hb (fun hp => ?_))))
          all_goals (first | (apply L.ends1; exact rfl; exact rfl; exact rfl) | (apply L.ends2; exact rfl; exact rfl; exact rfl) | (apply L.ends3; exact rfl; exact rfl; exact rfl) | (apply L.ends1A; exact rfl; exact rfl; exact rfl) | (apply L.ends2A; exact rfl; exact rfl; exact rfl) | (apply L.ends3A; exact rfl; exact rfl; exact rfl))
          all_goals kernel_rfl
        | [a] =>
          have e : restM 10 [a] = truthM (numM (a.k == 0)) := by simp [restM]
          rw [e]
          (repeat' (first | (refine LW.is ?_; first | (apply s_vr; exact rfl; apply v_indexA; exact rfl; exact rfl; decide; exact rfl; exact rfl) | (apply s_call0; exact rfl; rotate_left; exact rfl; rotate_left 3; exact num_any _; exact rfl) | (apply s_call0; exact rfl; rotate_left; exact rfl; rotate_left 3; exact truth_any _; exact rfl) | refine s_v ?_ | refine s_m ?_ | refine s_nil ?_ | refine s_gd ?_ | (refine s_gsplit rfl rfl rfl (fun hb => ?_) (fun hb => ?_) <;> refine fct hb (fun hp => ?_))) | (refine DR.is ?_; first | (apply d_vr; exact rfl; apply v_indexA; exact rfl; exact rfl; decide; exact rfl; exact rfl) | (apply d_call0; exact rfl; rotate_left; exact rfl; rotate_left 3; exact num_any _; exact rfl) | (apply d_call0; exact rfl; rotate_left; exact rfl; rotate_left 3; exact truth_any _; exact rfl) | refine d_v ?_ | refine d_m ?_ | (apply d_nil; kernel_rfl) | refine d_gd ?_ | (refine d_gsplit rfl rfl rfl (fun hb => ?_) (fun hb => ?_) <;> refine fct hb (fun hp => ?_))) | refine c_go ?_ | refine s_region ?_ | refine d_region ?_ | (refine L.cond rfl (fun hb => ?_) (fun hb => ?_) <;> refine fct hb (fun hp => ?_))))
          all_goals (first | (apply L.ends1; exact rfl; exact rfl; exact rfl) | (apply L.ends2; exact rfl; exact rfl; exact rfl) | (apply L.ends3; exact rfl; exact rfl; exact rfl) | (apply L.ends1A; exact rfl; exact rfl; exact rfl) | (apply L.ends2A; exact rfl; exact rfl; exact rfl) | (apply L.ends3A; exact rfl; exact rfl; exact rfl))
          all_goals kernel_rfl
        | [a, b] =>
          (repeat' (first | (refine LW.is ?_; first | (apply s_vr; exact rfl; apply v_indexA; exact rfl; exact rfl; decide; exact rfl; exact rfl) | (apply s_call0; exact rfl; rotate_left; exact rfl; rotate_left 3; exact two_any 10 a b; exact rfl) | refine s_v ?_ | refine s_m ?_ | refine s_nil ?_ | refine s_gd ?_ | (refine s_gsplit rfl rfl rfl (fun hb => ?_) (fun hb => ?_) <;> refine fct hb (fun hp => ?_))) | (refine DR.is ?_; first | (apply d_vr; exact rfl; apply v_indexA; exact rfl; exact rfl; decide; exact rfl; exact rfl) | (apply d_call0; exact rfl; rotate_left; exact rfl; rotate_left 3; exact two_any 10 a b; exact rfl) | refine d_v ?_ | refine d_m ?_ | (apply d_nil; kernel_rfl) | refine d_gd ?_ | (refine d_gsplit rfl rfl rfl (fun hb => ?_) (fun hb => ?_) <;> refine fct hb (fun hp => ?_))) | refine c_go ?_ | refine s_region ?_ | refine d_region ?_ | (refine L.cond rfl (fun hb => ?_) (fun hb => ?_) <;> refine fct hb (fun hp => ?_))))
          all_goals (first | (apply L.ends1; exact rfl; exact rfl; exact rfl) | (apply L.ends2; exact rfl; exact rfl; exact rfl) | (apply L.ends3; exact rfl; exact rfl; exact rfl) | (apply L.ends1A; exact rfl; exact rfl; exact rfl) | (apply L.ends2A; exact rfl; exact rfl; exact rfl) | (apply L.ends3A; exact rfl; exact rfl; exact rfl))
          all_goals kernel_rfl
        | a :: b :: c :: t =>
          have hn1 : ((((a :: b :: c :: t).map Val.c).length : Int) == 1) = false := by simp; omega
          have hn2 : ((((a :: b :: c :: t).map Val.c).length : Int) == 2) = false := by simp; omega
          (repeat' (first | (refine LW.is ?_; first | refine s_v ?_ | refine s_m ?_ | refine s_nil ?_ | refine s_gd ?_ | (refine s_gsplit rfl rfl rfl (fun hb => ?_) (fun hb => ?_) <;> refine fct hb (fun hp => ?_))) | (refine DR.is ?_; first | refine d_v ?_ | refine d_m ?_ | (apply d_nil; kernel_rfl) | refine d_gd ?_ | (refine d_gsplit rfl rfl rfl (fun hb => ?_) (fun hb => ?_) <;> refine fct hb (fun hp => ?_))) | refine c_go ?_ | refine s_region ?_ | refine d_region ?_ | (refine L.cond rfl (fun hb => ?_) (fun hb => ?_) <;> refine fct hb (fun hp => ?_))))
          all_goals (first | (apply L.ends1; exact rfl; exact rfl; exact rfl) | (apply L.ends2; exact rfl; exact rfl; exact rfl) | (apply L.ends3; exact rfl; exact rfl; exact rfl) | (apply L.ends1A; exact rfl; exact rfl; exact rfl) | (apply L.ends2A; exact rfl; exact rfl; exact rfl) | (apply L.ends3A; exact rfl; exact rfl; exact rfl))
          all_goals kernel_rfl
      have q10 : (op == 10) = false := by simp [h10]
      match vs with
      | [] =>
        (repeat' (first | (refine LW.is ?_; first | refine s_v ?_ | refine s_m ?_ | refine s_nil ?_ | refine s_gd ?_ | (refine s_gsplit rfl rfl rfl (fun hb => ?_) (fun hb => ?_) <;> refine fct hb (fun hp => ?_))) | (refine DR.is ?_; first | refine d_v ?_ | refine d_m ?_ | (apply d_nil; kernel_rfl) | refine d_gd ?_ | (refine d_gsplit rfl rfl rfl (fun hb => ?_) (fun hb => ?_) <;> refine fct hb (fun hp => ?_))) | refine c_go ?_ | refine s_region ?_ | refine d_region ?_ | (refine L.cond rfl (fun hb => ?_) (fun hb => ?_) <;> refine fct hb (fun hp => ?_))))
        all_goals (first | (apply L.ends1; exact rfl; exact rfl; exact rfl) | (apply L.ends2; exact rfl; exact rfl; exact rfl) | (apply L.ends3; exact rfl; exact rfl; exact rfl) | (apply L.ends1A; exact rfl; exact rfl; exact rfl) | (apply L.ends2A; exact rfl; exact rfl; exact rfl) | (apply L.ends3A; exact rfl; exact rfl; exact rfl))
        all_goals kernel_rfl
      | [a] =>
        have e : restM op [a] = nilV := by simp [restM, h9, h10]
        rw [e]
        (repeat' (first | (refine LW.is ?_; first | refine s_v ?_ | refine s_m ?_ | refine s_nil ?_ | refine s_gd ?_ | (refine s_gsplit rfl rfl rfl (fun hb => ?_) (fun hb => ?_) <;> refine fct hb (fun hp => ?_))) | (refine DR.is ?_; first | refine d_v ?_ | refine d_m ?_ | (apply d_nil; kernel_rfl) | refine d_gd ?_ | (refine d_gsplit rfl rfl rfl (fun hb => ?_) (fun hb => ?_) <;> refine fct hb (fun hp => ?_))) | refine c_go ?_ | refine s_region ?_ | refine d_region ?_ | (refine L.cond rfl (fun hb => ?_) (fun hb => ?_) <;> refine fct hb (fun hp => ?_))))
        all_goals (first | (apply L.ends1; exact rfl; exact rfl; exact rfl) | (apply L.ends2; exact rfl; exact rfl; exact rfl) | (apply L.ends3; exact rfl; exact rfl; exact rfl) | (apply L.ends1A; exact rfl; exact rfl; exact rfl) | (apply L.ends2A; exact rfl; exact rfl; exact rfl) | (apply L.ends3A; exact rfl; exact rfl; exact rfl))
        all_goals kernel_rfl
      | [a, b] =>
        (repeat' (first | (refine LW.is ?_; first | (apply s_vr; exact rfl; apply v_indexA; exact rfl; exact rfl; decide; exact rfl; exact rfl) | (apply s_call0; exact rfl; rotate_left; exact rfl; rotate_left 3; exact two_any op a b; exact rfl) | refine s_v ?_ | refine s_m ?_ | refine s_nil ?_ | refine s_gd ?_ | (refine s_gsplit rfl rfl rfl (fun hb => ?_) (fun hb => ?_) <;> refine fct hb (fun hp => ?_))) | (refine DR.is ?_; first | (apply d_vr; exact rfl; apply v_indexA; exact rfl; exact rfl; decide; exact rfl; exact rfl) | (apply d_call0; exact rfl; rotate_left; exact rfl; rotate_left 3; exact two_any op a b; exact rfl) | refine d_v ?_ | refine d_m ?_ | (apply d_nil; kernel_rfl) | refine d_gd ?_ | (refine d_gsplit rfl rfl rfl (fun hb => ?_) (fun hb => ?_) <;> refine fct hb (fun hp => ?_))) | refine c_go ?_ | refine s_region ?_ | refine d_region ?_ | (refine L.cond rfl (fun hb => ?_) (fun hb => ?_) <;> refine fct hb (fun hp => ?_))))
        all_goals (first | (apply L.ends1; exact rfl; exact rfl; exact rfl) | (apply L.ends2; exact rfl; exact rfl; exact rfl) | (apply L.ends3; exact rfl; exact rfl; exact rfl) | (apply L.ends1A; exact rfl; exact rfl; exact rfl) | (apply L.ends2A; exact rfl; exact rfl; exact rfl) | (apply L.ends3A; exact rfl; exact rfl; exact rfl))
        all_goals kernel_rfl
      | a :: b :: c :: t =>
        have hn2 : ((((a :: b :: c :: t).map Val.c).length : Int) == 2) = false := by simp; omega
        (repeat' (first | (refine LW.is ?_; first | refine s_v ?_ | refine s_m ?_ | refine s_nil ?_ | refine s_gd ?_ | (refine s_gsplit rfl rfl rfl (fun hb => ?_) (fun hb => ?_) <;> refine fct hb (fun hp => ?_))) | (refine DR.is ?_; first | refine d_v ?_ | refine d_m ?_ | (apply d_nil; kernel_rfl) | refine d_gd ?_ | (refine d_gsplit rfl rfl rfl (fun hb => ?_) (fun hb => ?_) <;> refine fct hb (fun hp => ?_))) | refine c_go ?_ | refine s_region ?_ | refine d_region ?_ | (refine L.cond rfl (fun hb => ?_) (fun hb => ?_) <;> refine fct hb (fun hp => ?_))))
        all_goals (first | (apply L.ends1; exact rfl; exact rfl; exact rfl) | (apply L.ends2; exact rfl; exact rfl; exact rfl) | (apply L.ends3; exact rfl; exact rfl; exact rfl) | (apply L.ends1A; exact rfl; exact rfl; exact rfl) | (apply L.ends2A; exact rfl; exact rfl; exact rfl) | (apply L.ends3A; exact rfl; exact rfl; exact rfl))
        all_goals kernel_rfl
 termination_by e => SizeOf.sizeOf e
 decreasing_by
  have := List.sizeOf_lt_of_mem hx
  simp; omega
end Go.Proofs.YthkobnpogigkiaaDoor
/- The laid variables that the walks read, as published cells. Conditions: none. -/
namespace Go.Proofs.YthkobnpogigkiaaDoor
open Go.Abs
def words : List (List UInt8) := [[97, 110, 100], [98, 121], [99, 114, 101, 97, 116, 101], [100, 101, 108, 101, 116, 101], [100, 101, 115, 99], [100, 114, 111, 112], [102, 114, 111, 109], [105, 110, 100, 101, 120], [105, 110, 115, 101, 114, 116], [105, 110, 116], [105, 110, 116, 111], [105, 115], [108, 105, 109, 105, 116], [109, 117, 115, 116], [110, 111, 116], [110, 117, 108, 108], [111, 110], [111, 114], [111, 114, 100, 101, 114], [115, 101, 108, 101, 99, 116], [115, 101, 116], [116, 97, 98, 108, 101], [116, 101, 120, 116], [117, 112, 100, 97, 116, 101], [118, 97, 108, 117, 101, 115], [119, 104, 101, 114, 101]]
theorem words_len : words.length = 26 := rfl
def gs0 : Globs := [(0, [.sl (words.map fun s => [S s])])]
theorem gs_words : (0, [IV.sl (words.map fun s => [S s])]) ∈ gs0 := by simp [gs0]
attribute [irreducible] words gs0
end Go.Proofs.YthkobnpogigkiaaDoor
/- Trees: what isNaN, Less, Good and Size compute. Conditions: how much there is of what comes in. -/
namespace Go.Proofs.YthkobnpogigkiaaDoor
open Go.Abs
set_option maxRecDepth 100000
attribute [local irreducible] L Code.wp bodyPost Exit.then Exit.inBlock
set_option linter.unusedVariables false
set_option linter.unusedSimpArgs false
abbrev Str := List UInt8
def Str.c (s : Str) : List IV := [S s]
structure Pg where
  ks : List Str
  vs : List Str
def Pg.c (p : Pg) : List IV := [.sl (p.ks.map Str.c), .sl (p.vs.map Str.c)]
theorem ltS {x y : Str} : Op.bytesLess x y = decide (x < y) := by
  induction x generalizing y with
  | nil => cases y <;> simp [Op.bytesLess]
  | cons a x ih =>
    cases y with
    | nil => simp [Op.bytesLess]
    | cons b y =>
      unfold Op.bytesLess
      rw [ih, Bool.eq_iff_iff]
      simp [List.cons_lt_cons_iff]
theorem leS {x y : Str} : (Op.bytesLess x y || x == y) = decide (x ≤ y) := by
  rw [ltS, Bool.eq_iff_iff]
  simp only [Bool.or_eq_true, decide_eq_true_eq, beq_iff_eq]
  constructor
  · rintro (h | rfl)
    · exact List.not_lt.1 (List.lt_asymm h)
    · exact List.not_lt.1 (List.lt_irrefl _)
  · intro h
    by_cases h1 : x < y
    · exact .inl h1
    · exact .inr (List.le_antisymm h (List.not_lt.1 h1))
def risesM : Option Str → List Str → Bool
  | _, [] => true
  | some a, s :: l => decide (a < s) && risesM (some s) l
  | none, s :: l => risesM (some s) l
def lastM : Option Str → List Str → Option Str
  | o, [] => o
  | _, s :: l => lastM (some s) l
def goodT : Option Str → List Pg → Bool
  | _, [] => true
  | o, p :: ps => decide (1 ≤ p.ks.length) && (decide (p.ks.length ≤ 4) && (decide (p.vs.length = p.ks.length) && (risesM o p.ks && goodT (lastM o p.ks) ps)))
def goodTree (ps : List Pg) : Bool := goodT none ps
theorem nanS2_any (a : Str) : CallA Tryd.prog 106 [aS a] [] [] [] (aB false) := by
  refine CallA.intro _ Tryd.func106 rfl Tryd.ntmps106 rfl (fun w0 E0 => ?_)
  (repeat' (first | (refine LW.is ?_; first | refine s_v ?_ | refine s_m ?_ | refine s_nil ?_ | refine s_gd ?_ | (refine s_gsplit rfl rfl rfl (fun hb => ?_) (fun hb => ?_) <;> refine fct hb (fun hp => ?_))) | (refine DR.is ?_; first | refine d_v ?_ | refine d_m ?_ | (apply d_nil; kernel_rfl) | refine d_gd ?_ | (refine d_gsplit rfl rfl rfl (fun hb => ?_) (fun hb => ?_) <;> refine fct hb (fun hp => ?_))) | refine c_go ?_ | refine s_region ?_ | refine d_region ?_ | (refine L.cond rfl (fun hb => ?_) (fun hb => ?_) <;> refine fct hb (fun hp => ?_))))
  all_goals (first | (apply L.ends1; exact rfl; exact rfl; exact rfl) | (apply L.ends2; exact rfl; exact rfl; exact rfl) | (apply L.ends3; exact rfl; exact rfl; exact rfl) | (apply L.ends1A; exact rfl; exact rfl; exact rfl) | (apply L.ends2A; exact rfl; exact rfl; exact rfl) | (apply L.ends3A; exact rfl; exact rfl; exact rfl))
  all_goals simp [resOf]
theorem nanS3_any (a : Str) : CallA Tryd.prog 146 [aS a] [] [] [] (aB false) := by
  refine CallA.intro _ Tryd.func146 rfl Tryd.ntmps146 rfl (fun w0 E0 => ?_)
  (repeat' (first | (refine LW.is ?_; first | refine s_v ?_ | refine s_m ?_ | refine s_nil ?_ | refine s_gd ?_ | (refine s_gsplit rfl rfl rfl (fun hb => ?_) (fun hb => ?_) <;> refine fct hb (fun hp => ?_))) | (refine DR.is ?_; first | refine d_v ?_ | refine d_m ?_ | (apply d_nil; kernel_rfl) | refine d_gd ?_ | (refine d_gsplit rfl rfl rfl (fun hb => ?_) (fun hb => ?_) <;> refine fct hb (fun hp => ?_))) | refine c_go ?_ | refine s_region ?_ | refine d_region ?_ | (refine L.cond rfl (fun hb => ?_) (fun hb => ?_) <;> refine fct hb (fun hp => ?_))))
  all_goals (first | (apply L.ends1; exact rfl; exact rfl; exact rfl) | (apply L.ends2; exact rfl; exact rfl; exact rfl) | (apply L.ends3; exact rfl; exact rfl; exact rfl) | (apply L.ends1A; exact rfl; exact rfl; exact rfl) | (apply L.ends2A; exact rfl; exact rfl; exact rfl) | (apply L.ends3A; exact rfl; exact rfl; exact rfl))
  all_goals simp [resOf]
theorem less_any (a b : Str) : CallA Tryd.prog 145 [aS a, aS b] [] [] [] (aB (decide (a < b))) := by
  refine CallA.intro _ Tryd.func145 rfl Tryd.ntmps145 rfl (fun w0 E0 => ?_)
  (repeat' (first | (refine LW.is ?_; first | (apply s_call0; exact rfl; rotate_left; exact rfl; rotate_left 3; exact nanS2_any _; exact rfl) | refine s_v ?_ | refine s_m ?_ | refine s_nil ?_ | refine s_gd ?_ | (refine s_gsplit rfl rfl rfl (fun hb => ?_) (fun hb => ?_) <;> refine fct hb (fun hp => ?_))) | (refine DR.is ?_; first | (apply d_call0; exact rfl; rotate_left; exact rfl; rotate_left 3; exact nanS2_any _; exact rfl) | refine d_v ?_ | refine d_m ?_ | (apply d_nil; kernel_rfl) | refine d_gd ?_ | (refine d_gsplit rfl rfl rfl (fun hb => ?_) (fun hb => ?_) <;> refine fct hb (fun hp => ?_))) | refine c_go ?_ | refine s_region ?_ | refine d_region ?_ | (refine L.cond rfl (fun hb => ?_) (fun hb => ?_) <;> refine fct hb (fun hp => ?_))))
  all_goals (first | (apply L.ends1; exact rfl; exact rfl; exact rfl) | (apply L.ends2; exact rfl; exact rfl; exact rfl) | (apply L.ends3; exact rfl; exact rfl; exact rfl) | (apply L.ends1A; exact rfl; exact rfl; exact rfl) | (apply L.ends2A; exact rfl; exact rfl; exact rfl) | (apply L.ends3A; exact rfl; exact rfl; exact rfl))
  all_goals simp [resOf, ltS]
end Go.Proofs.YthkobnpogigkiaaDoor
/- Trees: what Good and Size compute. Conditions: how much there is of what comes in. -/
namespace Go.Proofs.YthkobnpogigkiaaDoor
open Go.Abs
set_option maxRecDepth 100000
attribute [local irreducible] L Code.wp bodyPost Exit.then Exit.inBlock
set_option linter.unusedVariables false
set_option linter.unusedSimpArgs false
theorem goodT_cons (o : Option Str) (p : Pg) (ps : List Pg) : goodT o (p :: ps) = (decide (1 ≤ p.ks.length) && (decide (p.ks.length ≤ 4) && (decide (p.vs.length = p.ks.length) && (risesM o p.ks && goodT (lastM o p.ks) ps)))) := rfl
theorem rises_step {o : Option Str} {s : Str} {l : List Str} : risesM o (s :: l) = ((match o with | some a => decide (a < s) | none => true) && risesM (some s) l) := by
  cases o <;> simp [risesM]
set_option maxRecDepth 100000 in
set_option maxHeartbeats 4000000 in
theorem goodtree_any (ps : List Pg) (hl : ps.length ≤ 140737488355328) : CallA Tryd.prog 21 [.agg [.iv (.sl (ps.map Pg.c))]] [] [] [] (aB (goodTree ps)) := by
  refine CallA.intro _ Tryd.func21 rfl Tryd.ntmps21 rfl (fun w0 E0 => ?_)
  (repeat' (first | (refine LW.is ?_; first | refine s_v ?_ | refine s_m ?_ | refine s_nil ?_ | refine s_gd ?_ | (refine s_gsplit rfl rfl rfl (fun hb => ?_) (fun hb => ?_) <;> refine fct hb (fun hp => ?_))) | (refine DR.is ?_; first | refine d_v ?_ | refine d_m ?_ | (apply d_nil; kernel_rfl) | refine d_gd ?_ | (refine d_gsplit rfl rfl rfl (fun hb => ?_) (fun hb => ?_) <;> refine fct hb (fun hp => ?_))) | refine c_go ?_ | refine s_region ?_ | refine d_region ?_ | (refine L.cond rfl (fun hb => ?_) (fun hb => ?_) <;> refine fct hb (fun hp => ?_))))
  refine L.loopP (ι := Nat × Option Str) (fun i => ⟨[(11, aI (i.1 : Int)), (10, aI ((ps.map Pg.c).length : Int)), (9, .iv (.sl (ps.map Pg.c))), (3, aS (i.2.getD []))], [], []⟩) (fun i => ps.length - i.1) (fun i => goodTree ps = goodT i.2 (ps.drop i.1) ∧ (i.2 = none ↔ i.1 = 0)) (i0 := (0, none)) ?_ ⟨rfl, by simp⟩ ?_
  · (refine Wk.mk' (by intro id h; cases h) ?_ ?_ ?_ <;> repeat' (first | exact WkF.nil | exact WkB.nil | exact WkT.nil | (refine WkF.cons rfl (Sub.refl _) ?_) | (refine WkB.cons rfl rfl (Subs.refl _) ?_) | (refine WkT.cons rfl ?_)))
  rintro ⟨i, o⟩ ⟨hi, ho⟩ K hK
  dsimp only at hi ho ⊢
  cases hv : ps[i]? with
  | none =>
    have hlt := ltF (l := ps.map Pg.c) (getFN hv)
    rw [dropN hv] at hi
    (repeat' (first | (refine LW.is ?_; first | refine s_v ?_ | refine s_m ?_ | refine s_nil ?_ | refine s_gd ?_ | (refine s_gsplit rfl rfl rfl (fun hb => ?_) (fun hb => ?_) <;> refine fct hb (fun hp => ?_))) | (refine DR.is ?_; first | refine d_v ?_ | refine d_m ?_ | (apply d_nil; kernel_rfl) | refine d_gd ?_ | (refine d_gsplit rfl rfl rfl (fun hb => ?_) (fun hb => ?_) <;> refine fct hb (fun hp => ?_))) | refine c_go ?_ | refine s_region ?_ | refine d_region ?_ | (refine L.cond rfl (fun hb => ?_) (fun hb => ?_) <;> refine fct hb (fun hp => ?_))))
    all_goals (first | (apply L.ends1; exact rfl; exact rfl; exact rfl) | (apply L.ends2; exact rfl; exact rfl; exact rfl) | (apply L.ends3; exact rfl; exact rfl; exact rfl) | (apply L.ends1A; exact rfl; exact rfl; exact rfl) | (apply L.ends2A; exact rfl; exact rfl; exact rfl) | (apply L.ends3A; exact rfl; exact rfl; exact rfl))
    rw [hi]; rfl
  | some p =>
    have hlt := ltT (l := ps.map Pg.c) (getF hv)
    have hlt' := ltN hv
    rw [dropC hv, goodT_cons] at hi
    obtain ⟨ks, vs⟩ := p
    dsimp only at hi
    cases c1 : decide (((ks.map Str.c).length : Int) < 1) with
    | true =>
      have e : decide (1 ≤ ks.length) = false := by
        simp only [decide_eq_true_eq, decide_eq_false_iff_not, List.length_map] at c1 ⊢; omega
      rw [e] at hi
      (repeat' (first | (refine LW.is ?_; first | refine s_v ?_ | refine s_m ?_ | refine s_nil ?_ | refine s_gd ?_ | (refine s_gsplit rfl rfl rfl (fun hb => ?_) (fun hb => ?_) <;> refine fct hb (fun hp => ?_))) | (refine DR.is ?_; first | refine d_v ?_ | refine d_m ?_ | (apply d_nil; kernel_rfl) | refine d_gd ?_ | (refine d_gsplit rfl rfl rfl (fun hb => ?_) (fun hb => ?_) <;> refine fct hb (fun hp => ?_))) | refine c_go ?_ | refine s_region ?_ | refine d_region ?_ | (refine L.cond rfl (fun hb => ?_) (fun hb => ?_) <;> refine fct hb (fun hp => ?_))))
      all_goals (first | (apply L.ends1; exact rfl; exact rfl; exact rfl) | (apply L.ends2; exact rfl; exact rfl; exact rfl) | (apply L.ends3; exact rfl; exact rfl; exact rfl) | (apply L.ends1A; exact rfl; exact rfl; exact rfl) | (apply L.ends2A; exact rfl; exact rfl; exact rfl) | (apply L.ends3A; exact rfl; exact rfl; exact rfl))
      rw [hi]; rfl
    | false =>
    have e1 : decide (1 ≤ ks.length) = true := by
      simp only [decide_eq_true_eq, decide_eq_false_iff_not, List.length_map] at c1 ⊢; omega
    cases c2 : decide ((4 : Int) < ((ks.map Str.c).length : Int)) with
    | true =>
      have e : decide (ks.length ≤ 4) = false := by simp at c2 ⊢; omega
      rw [e1, e] at hi
      (repeat' (first | (refine LW.is ?_; first | refine s_v ?_ | refine s_m ?_ | refine s_nil ?_ | refine s_gd ?_ | (refine s_gsplit rfl rfl rfl (fun hb => ?_) (fun hb => ?_) <;> refine fct hb (fun hp => ?_))) | (refine DR.is ?_; first | refine d_v ?_ | refine d_m ?_ | (apply d_nil; kernel_rfl) | refine d_gd ?_ | (refine d_gsplit rfl rfl rfl (fun hb => ?_) (fun hb => ?_) <;> refine fct hb (fun hp => ?_))) | refine c_go ?_ | refine s_region ?_ | refine d_region ?_ | (refine L.cond rfl (fun hb => ?_) (fun hb => ?_) <;> refine fct hb (fun hp => ?_))))
      all_goals (first | (apply L.ends1; exact rfl; exact rfl; exact rfl) | (apply L.ends2; exact rfl; exact rfl; exact rfl) | (apply L.ends3; exact rfl; exact rfl; exact rfl) | (apply L.ends1A; exact rfl; exact rfl; exact rfl) | (apply L.ends2A; exact rfl; exact rfl; exact rfl) | (apply L.ends3A; exact rfl; exact rfl; exact rfl))
      rw [hi]; rfl
    | false =>
    have e2 : decide (ks.length ≤ 4) = true := by simp at c2 ⊢; omega
    cases c3 : (((vs.map Str.c).length : Int) != ((ks.map Str.c).length : Int)) with
    | true =>
      have e : decide (vs.length = ks.length) = false := by simp at c3 ⊢; omega
      rw [e1, e2, e] at hi
      (repeat' (first | (refine LW.is ?_; first | refine s_v ?_ | refine s_m ?_ | refine s_nil ?_ | refine s_gd ?_ | (refine s_gsplit rfl rfl rfl (fun hb => ?_) (fun hb => ?_) <;> refine fct hb (fun hp => ?_))) | (refine DR.is ?_; first | refine d_v ?_ | refine d_m ?_ | (apply d_nil; kernel_rfl) | refine d_gd ?_ | (refine d_gsplit rfl rfl rfl (fun hb => ?_) (fun hb => ?_) <;> refine fct hb (fun hp => ?_))) | refine c_go ?_ | refine s_region ?_ | refine d_region ?_ | (refine L.cond rfl (fun hb => ?_) (fun hb => ?_) <;> refine fct hb (fun hp => ?_))))
      all_goals (first | (apply L.ends1; exact rfl; exact rfl; exact rfl) | (apply L.ends2; exact rfl; exact rfl; exact rfl) | (apply L.ends3; exact rfl; exact rfl; exact rfl) | (apply L.ends1A; exact rfl; exact rfl; exact rfl) | (apply L.ends2A; exact rfl; exact rfl; exact rfl) | (apply L.ends3A; exact rfl; exact rfl; exact rfl))
      rw [hi]; rfl
    | false =>
    have e3 : decide (vs.length = ks.length) = true := by simp at c3 ⊢; omega
    rw [e1, e2, e3] at hi
    simp only [Bool.true_and] at hi
    have hk4 : ks.length ≤ 4 := by simpa using e2
    (repeat' (first | (refine LW.is ?_; first | refine s_v ?_ | refine s_m ?_ | refine s_nil ?_ | refine s_gd ?_ | (refine s_gsplit rfl rfl rfl (fun hb => ?_) (fun hb => ?_) <;> refine fct hb (fun hp => ?_))) | (refine DR.is ?_; first | refine d_v ?_ | refine d_m ?_ | (apply d_nil; kernel_rfl) | refine d_gd ?_ | (refine d_gsplit rfl rfl rfl (fun hb => ?_) (fun hb => ?_) <;> refine fct hb (fun hp => ?_))) | refine c_go ?_ | refine s_region ?_ | refine d_region ?_ | (refine L.cond rfl (fun hb => ?_) (fun hb => ?_) <;> refine fct hb (fun hp => ?_))))
    refine L.loopP (ι := Nat × Option Str) (fun k => ⟨[(38, aI (k.1 : Int)), (37, aI ((ks.map Str.c).length : Int)), (36, .iv (.sl (ks.map Str.c))), (4, aI (i : Int)), (3, aS (k.2.getD [])), (11, aI (i : Int)), (10, aI ((ps.map Pg.c).length : Int)), (9, .iv (.sl (ps.map Pg.c)))], [], []⟩) (fun k => ks.length - k.1)
      (fun k => goodTree ps = (risesM k.2 (ks.drop k.1) && goodT (lastM k.2 (ks.drop k.1)) (ps.drop (i + 1))) ∧ (k.2 = none ↔ (i = 0 ∧ k.1 = 0))) (i0 := (0, o)) ?_ ⟨hi, by simp [ho]⟩ ?_
    · (refine Wk.mk' (by intro id h; cases h) ?_ ?_ ?_ <;> repeat' (first | exact WkF.nil | exact WkB.nil | exact WkT.nil | (refine WkF.cons rfl (Sub.refl _) ?_) | (refine WkB.cons rfl rfl (Subs.refl _) ?_) | (refine WkT.cons rfl ?_)))
    rintro ⟨k, o'⟩ ⟨hi', ho'⟩ K2 hK2
    dsimp only at hi' ho' ⊢
    cases hw : ks[k]? with
    | none =>
      have hlt2 := ltF (l := ks.map Str.c) (getFN hw)
      have hlk : ks.length ≤ k := List.getElem?_eq_none_iff.1 hw
      rw [dropN hw] at hi'
      (repeat' (first | (refine LW.is ?_; first | refine s_v ?_ | refine s_m ?_ | refine s_nil ?_ | refine s_gd ?_ | (refine s_gsplit rfl rfl rfl (fun hb => ?_) (fun hb => ?_) <;> refine fct hb (fun hp => ?_))) | (refine DR.is ?_; first | refine d_v ?_ | refine d_m ?_ | (apply d_nil; kernel_rfl) | refine d_gd ?_ | (refine d_gsplit rfl rfl rfl (fun hb => ?_) (fun hb => ?_) <;> refine fct hb (fun hp => ?_))) | refine c_go ?_ | refine s_region ?_ | refine d_region ?_ | (refine L.cond rfl (fun hb => ?_) (fun hb => ?_) <;> refine fct hb (fun hp => ?_))))
      refine hK _ (i + 1, o') ⟨by rw [hi']; rfl, by dsimp only; rw [ho']; simp at e1; omega⟩ (by dsimp only; omega) ?_
      (refine Wk.mk' (by intro id h; cases h) ?_ ?_ ?_ <;> repeat' (first | exact WkF.nil | exact WkB.nil | exact WkT.nil | (refine WkF.cons rfl (Sub.refl _) ?_) | (refine WkB.cons rfl rfl (Subs.refl _) ?_) | (refine WkT.cons rfl ?_)))
    | some s =>
      have hlt2 := ltT (l := ks.map Str.c) (getF hw)
      have hlt2' := ltN hw
      rw [dropC hw, rises_step] at hi'
      cases o' with
      | none =>
        obtain ⟨rfl, rfl⟩ := ho'.1 rfl
        (repeat' (first | (refine LW.is ?_; first | refine s_v ?_ | refine s_m ?_ | refine s_nil ?_ | refine s_gd ?_ | (refine s_gsplit rfl rfl rfl (fun hb => ?_) (fun hb => ?_) <;> refine fct hb (fun hp => ?_))) | (refine DR.is ?_; first | refine d_v ?_ | refine d_m ?_ | (apply d_nil; kernel_rfl) | refine d_gd ?_ | (refine d_gsplit rfl rfl rfl (fun hb => ?_) (fun hb => ?_) <;> refine fct hb (fun hp => ?_))) | refine c_go ?_ | refine s_region ?_ | refine d_region ?_ | (refine L.cond rfl (fun hb => ?_) (fun hb => ?_) <;> refine fct hb (fun hp => ?_))))
        refine hK2 _ (1, some s) ⟨by rw [hi']; rfl, by simp⟩ (by dsimp only; omega) ?_
        (refine Wk.mk' (by intro id h; cases h) ?_ ?_ ?_ <;> repeat' (first | exact WkF.nil | exact WkB.nil | exact WkT.nil | (refine WkF.cons rfl (Sub.refl _) ?_) | (refine WkB.cons rfl rfl (Subs.refl _) ?_) | (refine WkT.cons rfl ?_)))
      | some a =>
        have hik : ¬ (i = 0 ∧ k = 0) := fun h => by have := ho'.2 h; cases this
        have hle : (Op.bytesLess s a || s == a) = decide (s ≤ a) := leS
        cases q0 : decide ((0 : Int) < (i : Int)) with
        | true =>
          cases q2 : decide (a < s) with
          | true =>
            have hle' : (Op.bytesLess s a || s == a) = false := by rw [hle]; simpa using q2
            (repeat' (first | (refine LW.is ?_; first | refine s_v ?_ | refine s_m ?_ | refine s_nil ?_ | refine s_gd ?_ | (refine s_gsplit rfl rfl rfl (fun hb => ?_) (fun hb => ?_) <;> refine fct hb (fun hp => ?_))) | (refine DR.is ?_; first | refine d_v ?_ | refine d_m ?_ | (apply d_nil; kernel_rfl) | refine d_gd ?_ | (refine d_gsplit rfl rfl rfl (fun hb => ?_) (fun hb => ?_) <;> refine fct hb (fun hp => ?_))) | refine c_go ?_ | refine s_region ?_ | refine d_region ?_ | (refine L.cond rfl (fun hb => ?_) (fun hb => ?_) <;> refine fct hb (fun hp => ?_))))
            refine hK2 _ (k + 1, some s) ⟨by rw [hi']; simp [lastM, q2], by simp⟩ (by dsimp only; omega) ?_
            (refine Wk.mk' (by intro id h; cases h) ?_ ?_ ?_ <;> repeat' (first | exact WkF.nil | exact WkB.nil | exact WkT.nil | (refine WkF.cons rfl (Sub.refl _) ?_) | (refine WkB.cons rfl rfl (Subs.refl _) ?_) | (refine WkT.cons rfl ?_)))
          | false =>
            have hle' : (Op.bytesLess s a || s == a) = true := by rw [hle]; simpa using q2
            (repeat' (first | (refine LW.is ?_; first | refine s_v ?_ | refine s_m ?_ | refine s_nil ?_ | refine s_gd ?_ | (refine s_gsplit rfl rfl rfl (fun hb => ?_) (fun hb => ?_) <;> refine fct hb (fun hp => ?_))) | (refine DR.is ?_; first | refine d_v ?_ | refine d_m ?_ | (apply d_nil; kernel_rfl) | refine d_gd ?_ | (refine d_gsplit rfl rfl rfl (fun hb => ?_) (fun hb => ?_) <;> refine fct hb (fun hp => ?_))) | refine c_go ?_ | refine s_region ?_ | refine d_region ?_ | (refine L.cond rfl (fun hb => ?_) (fun hb => ?_) <;> refine fct hb (fun hp => ?_))))
            all_goals (first | (apply L.ends1; exact rfl; exact rfl; exact rfl) | (apply L.ends2; exact rfl; exact rfl; exact rfl) | (apply L.ends3; exact rfl; exact rfl; exact rfl) | (apply L.ends1A; exact rfl; exact rfl; exact rfl) | (apply L.ends2A; exact rfl; exact rfl; exact rfl) | (apply L.ends3A; exact rfl; exact rfl; exact rfl))
            rw [hi']; simp [q2]
        | false =>
          have q1 : decide ((0 : Int) < (k : Int)) = true := by simp at q0 ⊢; omega
          cases q2 : decide (a < s) with
          | true =>
            have hle' : (Op.bytesLess s a || s == a) = false := by rw [hle]; simpa using q2
            (repeat' (first | (refine LW.is ?_; first | refine s_v ?_ | refine s_m ?_ | refine s_nil ?_ | refine s_gd ?_ | (refine s_gsplit rfl rfl rfl (fun hb => ?_) (fun hb => ?_) <;> refine fct hb (fun hp => ?_))) | (refine DR.is ?_; first | refine d_v ?_ | refine d_m ?_ | (apply d_nil; kernel_rfl) | refine d_gd ?_ | (refine d_gsplit rfl rfl rfl (fun hb => ?_) (fun hb => ?_) <;> refine fct hb (fun hp => ?_))) | refine c_go ?_ | refine s_region ?_ | refine d_region ?_ | (refine L.cond rfl (fun hb => ?_) (fun hb => ?_) <;> refine fct hb (fun hp => ?_))))
            refine hK2 _ (k + 1, some s) ⟨by rw [hi']; simp [lastM, q2], by simp⟩ (by dsimp only; omega) ?_
            (refine Wk.mk' (by intro id h; cases h) ?_ ?_ ?_ <;> repeat' (first | exact WkF.nil | exact WkB.nil | exact WkT.nil | (refine WkF.cons rfl (Sub.refl _) ?_) | (refine WkB.cons rfl rfl (Subs.refl _) ?_) | (refine WkT.cons rfl ?_)))
          | false =>
            have hle' : (Op.bytesLess s a || s == a) = true := by rw [hle]; simpa using q2
            (repeat' (first | (refine LW.is ?_; first | refine s_v ?_ | refine s_m ?_ | refine s_nil ?_ | refine s_gd ?_ | (refine s_gsplit rfl rfl rfl (fun hb => ?_) (fun hb => ?_) <;> refine fct hb (fun hp => ?_))) | (refine DR.is ?_; first | refine d_v ?_ | refine d_m ?_ | (apply d_nil; kernel_rfl) | refine d_gd ?_ | (refine d_gsplit rfl rfl rfl (fun hb => ?_) (fun hb => ?_) <;> refine fct hb (fun hp => ?_))) | refine c_go ?_ | refine s_region ?_ | refine d_region ?_ | (refine L.cond rfl (fun hb => ?_) (fun hb => ?_) <;> refine fct hb (fun hp => ?_))))
            all_goals (first | (apply L.ends1; exact rfl; exact rfl; exact rfl) | (apply L.ends2; exact rfl; exact rfl; exact rfl) | (apply L.ends3; exact rfl; exact rfl; exact rfl) | (apply L.ends1A; exact rfl; exact rfl; exact rfl) | (apply L.ends2A; exact rfl; exact rfl; exact rfl) | (apply L.ends3A; exact rfl; exact rfl; exact rfl))
            rw [hi']; simp [q2]
end Go.Proofs.YthkobnpogigkiaaDoor
/- Trees: where a key is, by halving: what BinarySearch and place compute. Conditions: the keys rise; how much there is of what comes in. -/
namespace Go.Proofs.YthkobnpogigkiaaDoor
open Go.Abs
set_option maxRecDepth 100000
attribute [local irreducible] L Code.wp bodyPost Exit.then Exit.inBlock
set_option linter.unusedVariables false
set_option linter.unusedSimpArgs false
def pre {α : Type} (p : α → Bool) : List α → Nat
  | [] => 0
  | x :: l => if p x then pre p l + 1 else 0
def Falls {α : Type} (p : α → Bool) (l : List α) : Prop := ∀ (i j : Nat) (x y : α), i ≤ j → l[i]? = some x → l[j]? = some y → p y = true → p x = true
theorem pre_le {α : Type} (p : α → Bool) : ∀ l : List α, pre p l ≤ l.length
  | [] => Nat.le_refl _
  | x :: l => by
    have := pre_le p l
    simp only [pre, List.length_cons]; split <;> omega
theorem pre_lt {α : Type} {p : α → Bool} : ∀ {l : List α} {i : Nat} {x : α}, l[i]? = some x → i < pre p l → p x = true
  | [], i, x, h, _ => by simp at h
  | y :: l, 0, x, h, hi => by
    simp at h; subst h
    simp only [pre] at hi
    split at hi
    · assumption
    · omega
  | y :: l, i + 1, x, h, hi => by
    simp only [pre] at hi
    split at hi
    · exact pre_lt (l := l) (by simpa using h) (by omega)
    · omega
theorem pre_at {α : Type} {p : α → Bool} : ∀ {l : List α} {x : α}, l[pre p l]? = some x → p x = false
  | [], x, h => by simp at h
  | y :: l, x, h => by
    simp only [pre] at h
    split at h
    · exact pre_at (l := l) (by simpa using h)
    · rename_i hp; simp at h; subst h; simpa using hp
theorem Falls.le {α : Type} {p : α → Bool} {l : List α} (hf : Falls p l) {i : Nat} {x : α} (h : l[i]? = some x) (hp : p x = true) : i < pre p l := by
  refine Nat.lt_of_not_le (fun hle => ?_)
  have hlt := (List.getElem?_eq_some_iff.1 h).1
  obtain ⟨y, hy⟩ : ∃ y, l[pre p l]? = some y := ⟨_, List.getElem?_eq_getElem (by omega)⟩
  have := hf _ _ y x hle hy h hp
  rw [pre_at hy] at this; cases this
theorem Falls.ge {α : Type} {p : α → Bool} {l : List α} {i : Nat} {x : α} (h : l[i]? = some x) (hp : p x = false) : pre p l ≤ i := by
  refine Nat.le_of_not_lt (fun hlt => ?_)
  rw [pre_lt h hlt] at hp; cases hp
def lbM (ks : List Str) (key : Str) : Nat := pre (fun s => decide (s < key)) ks
def foundM (ks : List Str) (key : Str) : Bool := ks[lbM ks key]? == some key
theorem half (i j : Nat) (h : i + j < 4611686018427387904) : IntKind.i64.wrap ((IntKind.u64.wrap ((i : Int) + (j : Int))).fdiv (2 ^ min (Int.toNat 1) IntKind.u64.bits)) = (((i + j) / 2 : Nat) : Int) := by
  have h1 : IntKind.u64.wrap ((i : Int) + (j : Int)) = (i : Int) + j := by rw [IntKind.wrap_u64]; omega
  rw [h1]
  have h2 : ((i : Int) + (j : Int)).fdiv (2 ^ min (Int.toNat 1) IntKind.u64.bits) = ((i : Int) + j) / 2 := Int.fdiv_eq_ediv_of_nonneg _ (by decide)
  rw [h2, IntKind.wrap_i64]
  omega
set_option maxRecDepth 100000 in
set_option maxHeartbeats 4000000 in
theorem bsearch_any (ks : List Str) (key : Str) (hl : ks.length ≤ 140737488355328) (hf : Falls (fun s => decide (s < key)) ks) :
    CallA Tryd.prog 128 [.iv (.sl (ks.map Str.c)), aS key] [] [] [] (.tup [.iv (I (lbM ks key : Int)), .iv (B (foundM ks key))]) := by
  refine CallA.intro _ Tryd.func128 rfl Tryd.ntmps128 rfl (fun w0 E0 => ?_)
  have hle := pre_le (fun s => decide (s < key)) ks
  (repeat' (first | (refine LW.is ?_; first | refine s_v ?_ | refine s_m ?_ | refine s_nil ?_ | refine s_gd ?_ | (refine s_gsplit rfl rfl rfl (fun hb => ?_) (fun hb => ?_) <;> refine fct hb (fun hp => ?_))) | (refine DR.is ?_; first | refine d_v ?_ | refine d_m ?_ | (apply d_nil; kernel_rfl) | refine d_gd ?_ | (refine d_gsplit rfl rfl rfl (fun hb => ?_) (fun hb => ?_) <;> refine fct hb (fun hp => ?_))) | refine c_go ?_ | refine s_region ?_ | refine d_region ?_ | (refine L.cond rfl (fun hb => ?_) (fun hb => ?_) <;> refine fct hb (fun hp => ?_))))
  refine L.loopP (ι := Nat × Nat) (fun i => ⟨[(7, aI (i.1 : Int)), (8, aI (i.2 : Int)), (6, aI ((ks.map Str.c).length : Int)), (0, .iv (.sl (ks.map Str.c))), (1, aS key)], [], []⟩) (fun i => i.2 - i.1) (fun i => i.1 ≤ lbM ks key ∧ lbM ks key ≤ i.2 ∧ i.2 ≤ ks.length) (i0 := (0, ks.length)) ?_ ⟨Nat.zero_le _, hle, Nat.le_refl _⟩ ?_
  · refine Wk.mk' (by intro id h; cases h) (.cons rfl (Sub.refl _) (.cons rfl (Sub.of_eq ?_) (.cons rfl (Sub.refl _) (.cons rfl (Sub.refl _) (.cons rfl (Sub.refl _) .nil))))) .nil .nil
    simp
  rintro ⟨i, j⟩ ⟨h1, h2, h3⟩ K hK
  dsimp only at h1 h2 h3 ⊢
  cases hlt : decide ((i : Int) < (j : Int)) with
  | true =>
    have hij : i < j := by simpa using hlt
    have hh := half i j (by omega)
    have hm : (i + j) / 2 < ks.length := by omega
    obtain ⟨s, hs⟩ : ∃ s, ks[(i + j) / 2]? = some s := ⟨_, List.getElem?_eq_getElem hm⟩
    have g0 : 0 ≤ IntKind.i64.wrap ((IntKind.u64.wrap ((i : Int) + (j : Int))).fdiv (2 ^ min (Int.toNat 1) IntKind.u64.bits)) := by rw [hh]; omega
    have g1 : (ks.map Str.c)[(IntKind.i64.wrap ((IntKind.u64.wrap ((i : Int) + (j : Int))).fdiv (2 ^ min (Int.toNat 1) IntKind.u64.bits))).toNat]? = some [S s] := by rw [hh, Int.toNat_natCast, List.getElem?_map, hs]; rfl
    have g2 : -9223372036854775808 ≤ IntKind.i64.wrap ((IntKind.u64.wrap ((i : Int) + (j : Int))).fdiv (2 ^ min (Int.toNat 1) IntKind.u64.bits)) + 1 := by omega
    have g3 : IntKind.i64.wrap ((IntKind.u64.wrap ((i : Int) + (j : Int))).fdiv (2 ^ min (Int.toNat 1) IntKind.u64.bits)) + 1 ≤ 9223372036854775807 := by rw [hh]; omega
    cases hp : decide (s < key) with
    | true =>
      have := hf.le hs (by simpa using hp)
      (repeat' (first | (refine LW.is ?_; first | (apply s_vr; exact rfl; apply v_indexA; exact rfl; exact rfl; exact g0; exact g1; exact rfl) | (apply s_vr; exact rfl; apply v_addI; exact rfl; exact rfl; exact g2; exact g3) | (apply s_call0; exact rfl; rotate_left; exact rfl; rotate_left 3; exact less_any s key; exact rfl) | refine s_v ?_ | refine s_m ?_ | refine s_nil ?_ | refine s_gd ?_ | (refine s_gsplit rfl rfl rfl (fun hb => ?_) (fun hb => ?_) <;> refine fct hb (fun hp => ?_))) | (refine DR.is ?_; first | (apply d_vr; exact rfl; apply v_indexA; exact rfl; exact rfl; exact g0; exact g1; exact rfl) | (apply d_vr; exact rfl; apply v_addI; exact rfl; exact rfl; exact g2; exact g3) | (apply d_call0; exact rfl; rotate_left; exact rfl; rotate_left 3; exact less_any s key; exact rfl) | refine d_v ?_ | refine d_m ?_ | (apply d_nil; kernel_rfl) | refine d_gd ?_ | (refine d_gsplit rfl rfl rfl (fun hb => ?_) (fun hb => ?_) <;> refine fct hb (fun hp => ?_))) | refine c_go ?_ | refine s_region ?_ | refine d_region ?_ | (refine L.cond rfl (fun hb => ?_) (fun hb => ?_) <;> refine fct hb (fun hp => ?_))))
      refine hK _ ((i + j) / 2 + 1, j) ⟨by unfold lbM; omega, h2, h3⟩ (by dsimp only; omega) (Wk.mk' (by intro id h; cases h) (.cons rfl (Sub.of_eq (congrArg (fun z => aI z) ?_)) (.cons rfl (Sub.refl _) (.cons rfl (Sub.refl _) (.cons rfl (Sub.refl _) (.cons rfl (Sub.refl _) .nil))))) .nil .nil)
      rw [hh]; rfl
    | false =>
      have := Falls.ge (p := fun s => decide (s < key)) hs (by simpa using hp)
      (repeat' (first | (refine LW.is ?_; first | (apply s_vr; exact rfl; apply v_indexA; exact rfl; exact rfl; exact g0; exact g1; exact rfl) | (apply s_vr; exact rfl; apply v_addI; exact rfl; exact rfl; exact g2; exact g3) | (apply s_call0; exact rfl; rotate_left; exact rfl; rotate_left 3; exact less_any s key; exact rfl) | refine s_v ?_ | refine s_m ?_ | refine s_nil ?_ | refine s_gd ?_ | (refine s_gsplit rfl rfl rfl (fun hb => ?_) (fun hb => ?_) <;> refine fct hb (fun hp => ?_))) | (refine DR.is ?_; first | (apply d_vr; exact rfl; apply v_indexA; exact rfl; exact rfl; exact g0; exact g1; exact rfl) | (apply d_vr; exact rfl; apply v_addI; exact rfl; exact rfl; exact g2; exact g3) | (apply d_call0; exact rfl; rotate_left; exact rfl; rotate_left 3; exact less_any s key; exact rfl) | refine d_v ?_ | refine d_m ?_ | (apply d_nil; kernel_rfl) | refine d_gd ?_ | (refine d_gsplit rfl rfl rfl (fun hb => ?_) (fun hb => ?_) <;> refine fct hb (fun hp => ?_))) | refine c_go ?_ | refine s_region ?_ | refine d_region ?_ | (refine L.cond rfl (fun hb => ?_) (fun hb => ?_) <;> refine fct hb (fun hp => ?_))))
      refine hK _ (i, (i + j) / 2) ⟨h1, by unfold lbM; omega, by dsimp only; omega⟩ (by dsimp only; omega) (Wk.mk' (by intro id h; cases h) (.cons rfl (Sub.refl _) (.cons rfl (Sub.of_eq (congrArg (fun z => aI z) ?_)) (.cons rfl (Sub.refl _) (.cons rfl (Sub.refl _) (.cons rfl (Sub.refl _) .nil))))) .nil .nil)
      rw [hh]
  | false =>
    have hij : ¬ i < j := by simpa using hlt
    obtain rfl : i = lbM ks key := by omega
    cases hs : ks[lbM ks key]? with
    | none =>
      have hlt2 := ltF (l := ks.map Str.c) (getFN hs)
      (repeat' (first | (refine LW.is ?_; first | refine s_v ?_ | refine s_m ?_ | refine s_nil ?_ | refine s_gd ?_ | (refine s_gsplit rfl rfl rfl (fun hb => ?_) (fun hb => ?_) <;> refine fct hb (fun hp => ?_))) | (refine DR.is ?_; first | refine d_v ?_ | refine d_m ?_ | (apply d_nil; kernel_rfl) | refine d_gd ?_ | (refine d_gsplit rfl rfl rfl (fun hb => ?_) (fun hb => ?_) <;> refine fct hb (fun hp => ?_))) | refine c_go ?_ | refine s_region ?_ | refine d_region ?_ | (refine L.cond rfl (fun hb => ?_) (fun hb => ?_) <;> refine fct hb (fun hp => ?_))))
      all_goals (first | (apply L.ends1; exact rfl; exact rfl; exact rfl) | (apply L.ends2; exact rfl; exact rfl; exact rfl) | (apply L.ends3; exact rfl; exact rfl; exact rfl) | (apply L.ends1A; exact rfl; exact rfl; exact rfl) | (apply L.ends2A; exact rfl; exact rfl; exact rfl) | (apply L.ends3A; exact rfl; exact rfl; exact rfl))
      simp [foundM, hs]
    | some s =>
      have hlt2 := ltT (l := ks.map Str.c) (getF hs)
      have g1 : (ks.map Str.c)[((lbM ks key : Nat) : Int).toNat]? = some [S s] := by simp [hs, Str.c]
      cases hq : s == key with
      | true =>
        (repeat' (first | (refine LW.is ?_; first | (apply s_vr; exact rfl; apply v_indexA; exact rfl; exact rfl; omega; exact g1; exact rfl) | refine s_v ?_ | refine s_m ?_ | refine s_nil ?_ | refine s_gd ?_ | (refine s_gsplit rfl rfl rfl (fun hb => ?_) (fun hb => ?_) <;> refine fct hb (fun hp => ?_))) | (refine DR.is ?_; first | (apply d_vr; exact rfl; apply v_indexA; exact rfl; exact rfl; omega; exact g1; exact rfl) | refine d_v ?_ | refine d_m ?_ | (apply d_nil; kernel_rfl) | refine d_gd ?_ | (refine d_gsplit rfl rfl rfl (fun hb => ?_) (fun hb => ?_) <;> refine fct hb (fun hp => ?_))) | refine c_go ?_ | refine s_region ?_ | refine d_region ?_ | (refine L.cond rfl (fun hb => ?_) (fun hb => ?_) <;> refine fct hb (fun hp => ?_))))
        all_goals (first | (apply L.ends1; exact rfl; exact rfl; exact rfl) | (apply L.ends2; exact rfl; exact rfl; exact rfl) | (apply L.ends3; exact rfl; exact rfl; exact rfl) | (apply L.ends1A; exact rfl; exact rfl; exact rfl) | (apply L.ends2A; exact rfl; exact rfl; exact rfl) | (apply L.ends3A; exact rfl; exact rfl; exact rfl))
        simp at hq
        simp [foundM, hs, hq]
      | false =>
        (repeat' (first | (refine LW.is ?_; first | (apply s_vr; exact rfl; apply v_indexA; exact rfl; exact rfl; omega; exact g1; exact rfl) | (apply s_call0; exact rfl; rotate_left; exact rfl; rotate_left 3; exact nanS3_any s; exact rfl) | refine s_v ?_ | refine s_m ?_ | refine s_nil ?_ | refine s_gd ?_ | (refine s_gsplit rfl rfl rfl (fun hb => ?_) (fun hb => ?_) <;> refine fct hb (fun hp => ?_))) | (refine DR.is ?_; first | (apply d_vr; exact rfl; apply v_indexA; exact rfl; exact rfl; omega; exact g1; exact rfl) | (apply d_call0; exact rfl; rotate_left; exact rfl; rotate_left 3; exact nanS3_any s; exact rfl) | refine d_v ?_ | refine d_m ?_ | (apply d_nil; kernel_rfl) | refine d_gd ?_ | (refine d_gsplit rfl rfl rfl (fun hb => ?_) (fun hb => ?_) <;> refine fct hb (fun hp => ?_))) | refine c_go ?_ | refine s_region ?_ | refine d_region ?_ | (refine L.cond rfl (fun hb => ?_) (fun hb => ?_) <;> refine fct hb (fun hp => ?_))))
        all_goals (first | (apply L.ends1; exact rfl; exact rfl; exact rfl) | (apply L.ends2; exact rfl; exact rfl; exact rfl) | (apply L.ends3; exact rfl; exact rfl; exact rfl) | (apply L.ends1A; exact rfl; exact rfl; exact rfl) | (apply L.ends2A; exact rfl; exact rfl; exact rfl) | (apply L.ends3A; exact rfl; exact rfl; exact rfl))
        simp at hq
        simp [foundM, hs, hq]
end Go.Proofs.YthkobnpogigkiaaDoor
/- Trees: what place and Get compute. Conditions: the tree is good; how much there is of what comes in. -/
namespace Go.Proofs.YthkobnpogigkiaaDoor
open Go.Abs
set_option maxRecDepth 100000
attribute [local irreducible] L Code.wp bodyPost Exit.then Exit.inBlock
set_option linter.unusedVariables false
set_option linter.unusedSimpArgs false
def fstLe (key : Str) (p : Pg) : Bool := decide (p.ks.headD [] ≤ key)
def pgOf (ps : List Pg) (key : Str) : Nat := pre (fstLe key) ps - 1
def placeM (ps : List Pg) (key : Str) : Nat × Nat × Bool :=
  match ps[pgOf ps key]? with
  | some p => (pgOf ps key, lbM p.ks key, foundM p.ks key)
  | none => (0, 0, false)
structure Sorted (ps : List Pg) (key : Str) : Prop where
  ne : ∀ p ∈ ps, p.ks ≠ []
  len : ∀ p ∈ ps, p.ks.length ≤ 4
  vs : ∀ p ∈ ps, p.vs.length = p.ks.length
  pages : Falls (fstLe key) ps
  keys : ∀ p ∈ ps, Falls (fun s => decide (s < key)) p.ks
theorem half2 (i j : Nat) : ((i : Int) + (j : Int)).tdiv 2 = (((i + j) / 2 : Nat) : Int) := by
  rw [Int.tdiv_eq_ediv_of_nonneg (by omega)]; omega
set_option maxRecDepth 100000 in
set_option maxHeartbeats 4000000 in
theorem place_any (ps : List Pg) (key : Str) (hl : ps.length ≤ 140737488355328) (hs : Sorted ps key) :
    CallA Tryd.prog 104 [.agg [.iv (.sl (ps.map Pg.c))], aS key] [] [] [] (.tup [.iv (I ((placeM ps key).1 : Int)), .iv (I ((placeM ps key).2.1 : Int)), .iv (B (placeM ps key).2.2)]) := by
  refine CallA.intro _ Tryd.func104 rfl Tryd.ntmps104 rfl (fun w0 E0 => ?_)
  have hle := pre_le (fstLe key) ps
  generalize hq : pre (fstLe key) ps = q at hle
  (repeat' (first | (refine LW.is ?_; first | refine s_v ?_ | refine s_m ?_ | refine s_nil ?_ | refine s_gd ?_ | (refine s_gsplit rfl rfl rfl (fun hb => ?_) (fun hb => ?_) <;> refine fct hb (fun hp => ?_))) | (refine DR.is ?_; first | refine d_v ?_ | refine d_m ?_ | (apply d_nil; kernel_rfl) | refine d_gd ?_ | (refine d_gsplit rfl rfl rfl (fun hb => ?_) (fun hb => ?_) <;> refine fct hb (fun hp => ?_))) | refine c_go ?_ | refine s_region ?_ | refine d_region ?_ | (refine L.cond rfl (fun hb => ?_) (fun hb => ?_) <;> refine fct hb (fun hp => ?_))))
  refine L.loopP (ι := Nat × Nat) (fun i => ⟨[(7, aI ((i.1 - 1 : Nat) : Int)), (8, aI (i.1 : Int)), (9, aI (i.2 : Int)), (2, .ptr 2 0), (1, aS key)], [(2, ⟨61, .l [.iv (.sl (ps.map Pg.c))]⟩)], []⟩) (fun i => i.2 - i.1) (fun i => i.1 ≤ q ∧ q ≤ i.2 ∧ i.2 ≤ ps.length) (i0 := (0, ps.length)) ?_ ⟨Nat.zero_le _, hle, Nat.le_refl _⟩ ?_
  · refine Wk.mk' (by intro id h; cases h) (.cons rfl (Sub.refl _) (.cons rfl (Sub.refl _) (.cons rfl (Sub.of_eq ?_) (.cons rfl (Sub.refl _) (.cons rfl (Sub.refl _) .nil))))) (.cons rfl rfl (Subs.refl _) .nil) .nil
    simp
  rintro ⟨i, j⟩ ⟨h1, h2, h3⟩ K hK
  dsimp only at h1 h2 h3 ⊢
  cases hlt : decide ((i : Int) < (j : Int)) with
  | true =>
    have hij : i < j := by simpa using hlt
    have hh := half2 i j
    have hm : (i + j) / 2 < ps.length := by omega
    obtain ⟨p, hp⟩ : ∃ p, ps[(i + j) / 2]? = some p := ⟨_, List.getElem?_eq_getElem hm⟩
    have hmem := List.mem_of_getElem? hp
    have hne := hs.ne p hmem
    obtain ⟨ks, vs⟩ := p
    cases ks with
    | nil => exact absurd rfl hne
    | cons s ks =>
    have g0 : 0 ≤ ((i : Int) + (j : Int)).tdiv 2 := by rw [hh]; omega
    have g1 : (ps.map Pg.c)[(((i : Int) + (j : Int)).tdiv 2).toNat]? = some [.sl ((s :: ks).map Str.c), .sl (vs.map Str.c)] := by rw [hh, Int.toNat_natCast, List.getElem?_map, hp]; rfl
    have g2 : -9223372036854775808 ≤ ((i : Int) + (j : Int)).tdiv 2 + 1 := by omega
    have g3 : ((i : Int) + (j : Int)).tdiv 2 + 1 ≤ 9223372036854775807 := by rw [hh]; omega
    have hleS : (Op.bytesLess s key || s == key) = decide (s ≤ key) := leS
    cases hp' : decide (s ≤ key) with
    | true =>
      rw [hp'] at hleS
      have hlt' : (i + j) / 2 < q := by
        rw [← hq]
        exact hs.pages.le hp (by simpa [fstLe] using hp')
      (repeat' (first | (refine LW.is ?_; first | (apply s_vr; exact rfl; apply v_indexA; exact rfl; exact rfl; exact g0; exact g1; exact rfl) | (apply s_vr; exact rfl; apply v_indexA; exact rfl; exact rfl; decide; exact rfl; exact rfl) | (apply s_vr; exact rfl; apply v_addI; exact rfl; exact rfl; exact g2; exact g3) | refine s_v ?_ | refine s_m ?_ | refine s_nil ?_ | refine s_gd ?_ | (refine s_gsplit rfl rfl rfl (fun hb => ?_) (fun hb => ?_) <;> refine fct hb (fun hp => ?_))) | (refine DR.is ?_; first | (apply d_vr; exact rfl; apply v_indexA; exact rfl; exact rfl; exact g0; exact g1; exact rfl) | (apply d_vr; exact rfl; apply v_indexA; exact rfl; exact rfl; decide; exact rfl; exact rfl) | (apply d_vr; exact rfl; apply v_addI; exact rfl; exact rfl; exact g2; exact g3) | refine d_v ?_ | refine d_m ?_ | (apply d_nil; kernel_rfl) | refine d_gd ?_ | (refine d_gsplit rfl rfl rfl (fun hb => ?_) (fun hb => ?_) <;> refine fct hb (fun hp => ?_))) | refine c_go ?_ | refine s_region ?_ | refine d_region ?_ | (refine L.cond rfl (fun hb => ?_) (fun hb => ?_) <;> refine fct hb (fun hp => ?_))))
      refine hK _ ((i + j) / 2 + 1, j) ⟨by omega, h2, h3⟩ (by dsimp only; omega) (Wk.mk' (by intro id h; cases h) (.cons rfl (Sub.of_eq (congrArg (fun z => aI z) ?_)) (.cons rfl (Sub.of_eq (congrArg (fun z => aI z) ?_)) (.cons rfl (Sub.refl _) (.cons rfl (Sub.refl _) (.cons rfl (Sub.refl _) .nil))))) (.cons rfl rfl (Subs.refl _) .nil) .nil)
      · rw [hh]; simp
      · rw [hh]; rfl
    | false =>
      rw [hp'] at hleS
      have hlt' : q ≤ (i + j) / 2 := by
        rw [← hq]
        exact Falls.ge hp (by simpa [fstLe] using hp')
      (repeat' (first | (refine LW.is ?_; first | (apply s_vr; exact rfl; apply v_indexA; exact rfl; exact rfl; exact g0; exact g1; exact rfl) | (apply s_vr; exact rfl; apply v_indexA; exact rfl; exact rfl; decide; exact rfl; exact rfl) | (apply s_vr; exact rfl; apply v_addI; exact rfl; exact rfl; exact g2; exact g3) | refine s_v ?_ | refine s_m ?_ | refine s_nil ?_ | refine s_gd ?_ | (refine s_gsplit rfl rfl rfl (fun hb => ?_) (fun hb => ?_) <;> refine fct hb (fun hp => ?_))) | (refine DR.is ?_; first | (apply d_vr; exact rfl; apply v_indexA; exact rfl; exact rfl; exact g0; exact g1; exact rfl) | (apply d_vr; exact rfl; apply v_indexA; exact rfl; exact rfl; decide; exact rfl; exact rfl) | (apply d_vr; exact rfl; apply v_addI; exact rfl; exact rfl; exact g2; exact g3) | refine d_v ?_ | refine d_m ?_ | (apply d_nil; kernel_rfl) | refine d_gd ?_ | (refine d_gsplit rfl rfl rfl (fun hb => ?_) (fun hb => ?_) <;> refine fct hb (fun hp => ?_))) | refine c_go ?_ | refine s_region ?_ | refine d_region ?_ | (refine L.cond rfl (fun hb => ?_) (fun hb => ?_) <;> refine fct hb (fun hp => ?_))))
      refine hK _ (i, (i + j) / 2) ⟨h1, by omega, by dsimp only; omega⟩ (by dsimp only; omega) (Wk.mk' (by intro id h; cases h) (.cons rfl (Sub.refl _) (.cons rfl (Sub.refl _) (.cons rfl (Sub.of_eq (congrArg (fun z => aI z) ?_)) (.cons rfl (Sub.refl _) (.cons rfl (Sub.refl _) .nil))))) (.cons rfl rfl (Subs.refl _) .nil) .nil)
      rw [hh]
  | false =>
    have hij : ¬ i < j := by simpa using hlt
    obtain rfl : i = q := by omega
    have hpg : pgOf ps key = i - 1 := by rw [pgOf, hq]
    cases hp : ps[i - 1]? with
    | none =>
      have hps : ps = [] := by
        cases ps with
        | nil => rfl
        | cons p ps =>
          have := List.getElem?_eq_none_iff.1 hp
          simp at this hle; omega
      subst hps
      (repeat' (first | (refine LW.is ?_; first | refine s_v ?_ | refine s_m ?_ | refine s_nil ?_ | refine s_gd ?_ | (refine s_gsplit rfl rfl rfl (fun hb => ?_) (fun hb => ?_) <;> refine fct hb (fun hp => ?_))) | (refine DR.is ?_; first | refine d_v ?_ | refine d_m ?_ | (apply d_nil; kernel_rfl) | refine d_gd ?_ | (refine d_gsplit rfl rfl rfl (fun hb => ?_) (fun hb => ?_) <;> refine fct hb (fun hp => ?_))) | refine c_go ?_ | refine s_region ?_ | refine d_region ?_ | (refine L.cond rfl (fun hb => ?_) (fun hb => ?_) <;> refine fct hb (fun hp => ?_))))
      all_goals (first | (apply L.ends1; exact rfl; exact rfl; exact rfl) | (apply L.ends2; exact rfl; exact rfl; exact rfl) | (apply L.ends3; exact rfl; exact rfl; exact rfl) | (apply L.ends1A; exact rfl; exact rfl; exact rfl) | (apply L.ends2A; exact rfl; exact rfl; exact rfl) | (apply L.ends3A; exact rfl; exact rfl; exact rfl))
      all_goals simp [placeM]
    | some p =>
      have hmem := List.mem_of_getElem? hp
      have hlen := hs.len p hmem
      have kb := bsearch_any p.ks key (by omega) (hs.keys p hmem)
      have hm : placeM ps key = (i - 1, lbM p.ks key, foundM p.ks key) := by rw [placeM, hpg, hp]
      rw [hm]
      have hne : (((ps.map Pg.c).length : Int) == 0) = false := by
        cases ps with
        | nil => simp at hp
        | cons p ps => simp; omega
      obtain ⟨ks, vs⟩ := p
      have g1 : (ps.map Pg.c)[((i - 1 : Nat) : Int).toNat]? = some [.sl (ks.map Str.c), .sl (vs.map Str.c)] := by rw [Int.toNat_natCast, List.getElem?_map, hp]; rfl
      clear hij h1 h2 h3 hle hK
      (repeat' (first | (refine LW.is ?_; first | (apply s_vr; exact rfl; apply v_indexA; exact rfl; exact rfl; omega; exact g1; exact rfl) | (apply s_call0; exact rfl; exact kb; exact rfl; exact rfl) | refine s_v ?_ | refine s_m ?_ | refine s_nil ?_ | refine s_gd ?_ | (refine s_gsplit rfl rfl rfl (fun hb => ?_) (fun hb => ?_) <;> refine fct hb (fun hp => ?_))) | (refine DR.is ?_; first | (apply d_vr; exact rfl; apply v_indexA; exact rfl; exact rfl; omega; exact g1; exact rfl) | (apply d_call0; exact rfl; exact kb; exact rfl; exact rfl) | refine d_v ?_ | refine d_m ?_ | (apply d_nil; kernel_rfl) | refine d_gd ?_ | (refine d_gsplit rfl rfl rfl (fun hb => ?_) (fun hb => ?_) <;> refine fct hb (fun hp => ?_))) | refine c_go ?_ | refine s_region ?_ | refine d_region ?_ | (refine L.cond rfl (fun hb => ?_) (fun hb => ?_) <;> refine fct hb (fun hp => ?_))))
      all_goals (first | (apply L.ends1; exact rfl; exact rfl; exact rfl) | (apply L.ends2; exact rfl; exact rfl; exact rfl) | (apply L.ends3; exact rfl; exact rfl; exact rfl) | (apply L.ends1A; exact rfl; exact rfl; exact rfl) | (apply L.ends2A; exact rfl; exact rfl; exact rfl) | (apply L.ends3A; exact rfl; exact rfl; exact rfl))
      all_goals rfl
end Go.Proofs.YthkobnpogigkiaaDoor
/- Trees, plain laws: a good tree's keys rise. Conditions: none. -/
namespace Go.Proofs.YthkobnpogigkiaaDoor
open Go.Abs
set_option linter.unusedVariables false
set_option linter.unusedSimpArgs false
theorem lt_trans' {a b c : Str} (h : a < b) (k : b < c) : a < c := List.lt_trans h k
theorem rises_some : ∀ (l : List Str) (a : Str), risesM (some a) l = true ↔ (a :: l).Pairwise (· < ·)
  | [], a => by simp [risesM]
  | s :: l, a => by
    rw [risesM, Bool.and_eq_true, rises_some l s, decide_eq_true_eq]
    constructor
    · rintro ⟨h1, h2⟩
      refine List.pairwise_cons.2 ⟨fun x hx => ?_, h2⟩
      rcases List.mem_cons.1 hx with rfl | hx
      · exact h1
      · exact lt_trans' h1 ((List.pairwise_cons.1 h2).1 x hx)
    · intro h
      have := List.pairwise_cons.1 h
      exact ⟨this.1 s (by simp), this.2⟩
theorem rises_none : ∀ (l : List Str), risesM none l = true ↔ l.Pairwise (· < ·)
  | [] => by simp [risesM]
  | s :: l => by rw [risesM, rises_some]
def okP (p : Pg) : Prop := 1 ≤ p.ks.length ∧ p.ks.length ≤ 4 ∧ p.vs.length = p.ks.length
def keysT (ps : List Pg) : List Str := ps.flatMap Pg.ks
theorem risesM_append : ∀ (l m : List Str) (o : Option Str), risesM o (l ++ m) = (risesM o l && risesM (lastM o l) m)
  | [], m, o => by simp [risesM, lastM]
  | s :: l, m, none => by simp [risesM, lastM, risesM_append l m]
  | s :: l, m, some a => by simp [risesM, lastM, risesM_append l m, Bool.and_assoc]
theorem goodT_iff : ∀ (ps : List Pg) (o : Option Str), goodT o ps = true ↔ (∀ p ∈ ps, okP p) ∧ risesM o (keysT ps) = true
  | [], o => by cases o <;> simp [goodT, keysT, risesM]
  | p :: ps, o => by
    rw [goodT]
    simp only [Bool.and_eq_true, decide_eq_true_eq, goodT_iff ps, keysT, List.flatMap_cons, risesM_append, List.mem_cons, forall_eq_or_imp, okP]
    constructor
    · rintro ⟨a, b, c, d, e, f⟩; exact ⟨⟨⟨a, b, c⟩, e⟩, d, f⟩
    · rintro ⟨⟨⟨a, b, c⟩, e⟩, d, f⟩; exact ⟨a, b, c, d, e, f⟩
theorem good_iff (ps : List Pg) : goodTree ps = true ↔ (∀ p ∈ ps, okP p) ∧ (keysT ps).Pairwise (· < ·) := by
  rw [goodTree, goodT_iff, rises_none]
theorem falls_keys {ks : List Str} (key : Str) (h : ks.Pairwise (· < ·)) : Falls (fun s => decide (s < key)) ks := by
  intro i j x y hij hx hy hp
  simp only [decide_eq_true_eq] at hp ⊢
  rcases Nat.lt_or_eq_of_le hij with h1 | rfl
  · obtain ⟨hi', ex⟩ := List.getElem?_eq_some_iff.1 hx
    obtain ⟨hj', ey⟩ := List.getElem?_eq_some_iff.1 hy
    have := List.pairwise_iff_getElem.1 h i j hi' hj' h1
    rw [ex, ey] at this
    exact lt_trans' this hp
  · rw [hx] at hy; cases hy; exact hp
theorem keys_page {ps : List Pg} (h : (keysT ps).Pairwise (· < ·)) {p : Pg} (hp : p ∈ ps) : p.ks.Pairwise (· < ·) := by
  obtain ⟨a, b, rfl⟩ := List.append_of_mem hp
  simp only [keysT, List.flatMap_append, List.flatMap_cons] at h
  exact (List.pairwise_append.1 (List.pairwise_append.1 h).2.1).1
theorem sorted_of_good {ps : List Pg} (key : Str) (h : goodTree ps = true) : Sorted ps key := by
  obtain ⟨h1, h2⟩ := (good_iff ps).1 h
  refine ⟨fun p hp e => ?_, fun p hp => (h1 p hp).2.1, fun p hp => (h1 p hp).2.2, ?_, fun p hp => falls_keys key (keys_page h2 hp)⟩
  · have := (h1 p hp).1; rw [e] at this; simp at this
  · intro i j x y hij hx hy hpy
    simp only [fstLe, decide_eq_true_eq] at hpy ⊢
    rcases Nat.lt_or_eq_of_le hij with hlt | rfl
    · obtain ⟨hi', ex⟩ := List.getElem?_eq_some_iff.1 hx
      obtain ⟨hj', ey⟩ := List.getElem?_eq_some_iff.1 hy
      have hx1 := (h1 x (List.mem_of_getElem? hx)).1
      have hy1 := (h1 y (List.mem_of_getElem? hy)).1
      obtain ⟨kx, vx⟩ := x
      obtain ⟨ky, vy⟩ := y
      cases kx with
      | nil => simp at hx1
      | cons a kx =>
        cases ky with
        | nil => simp at hy1
        | cons b ky =>
          have hab : a < b := by
            have hsp : ps = ps.take j ++ ps.drop j := (List.take_append_drop j ps).symm
            rw [hsp, keysT, List.flatMap_append] at h2
            have h3 := (List.pairwise_append.1 h2).2.2
            refine h3 a (List.mem_flatMap.2 ⟨⟨a :: kx, vx⟩, ?_, by simp⟩) b (List.mem_flatMap.2 ⟨⟨b :: ky, vy⟩, ?_, by simp⟩)
            · rw [← ex]; exact List.mem_take_iff_getElem.2 ⟨i, by omega, rfl⟩
            · rw [← ey]; exact List.mem_of_getElem? (i := 0) (by rw [List.getElem?_drop, Nat.add_zero]; exact List.getElem?_eq_getElem hj')
          simp only [List.headD_cons] at hpy ⊢
          exact List.not_lt.1 (fun hc => (List.not_lt.2 hpy) (lt_trans' hc hab))
    · rw [hx] at hy; cases hy; exact hpy
end Go.Proofs.YthkobnpogigkiaaDoor
/- Trees: what Get and Range compute. Conditions: how much there is of what comes in. -/
namespace Go.Proofs.YthkobnpogigkiaaDoor
open Go.Abs
set_option maxRecDepth 100000
attribute [local irreducible] L Code.wp bodyPost Exit.then Exit.inBlock
set_option linter.unusedVariables false
set_option linter.unusedSimpArgs false
def getM (ps : List Pg) (key : Str) : Str × Bool :=
  if goodTree ps then
    match ps[pgOf ps key]? with
    | some p => if foundM p.ks key then ((p.vs[lbM p.ks key]?).getD [], true) else ([], false)
    | none => ([], false)
  else ([], false)
set_option maxRecDepth 100000 in
set_option maxHeartbeats 4000000 in
theorem get_any (ps : List Pg) (key : Str) (hl : ps.length ≤ 140737488355328) :
    CallA Tryd.prog 70 [.agg [.iv (.sl (ps.map Pg.c))], aS key] [] [] [] (.tup [.iv (S (getM ps key).1), .iv (B (getM ps key).2)]) := by
  have kg := goodtree_any ps hl
  refine CallA.intro _ Tryd.func70 rfl Tryd.ntmps70 rfl (fun w0 E0 => ?_)
  cases hg : goodTree ps with
  | false =>
    rw [hg] at kg
    have e : getM ps key = ([], false) := by simp [getM, hg]
    rw [e]
    (repeat' (first | (refine LW.is ?_; first | (apply s_call0; exact rfl; exact kg; exact rfl; exact rfl) | refine s_v ?_ | refine s_m ?_ | refine s_nil ?_ | refine s_gd ?_ | (refine s_gsplit rfl rfl rfl (fun hb => ?_) (fun hb => ?_) <;> refine fct hb (fun hp => ?_))) | (refine DR.is ?_; first | (apply d_call0; exact rfl; exact kg; exact rfl; exact rfl) | refine d_v ?_ | refine d_m ?_ | (apply d_nil; kernel_rfl) | refine d_gd ?_ | (refine d_gsplit rfl rfl rfl (fun hb => ?_) (fun hb => ?_) <;> refine fct hb (fun hp => ?_))) | refine c_go ?_ | refine s_region ?_ | refine d_region ?_ | (refine L.cond rfl (fun hb => ?_) (fun hb => ?_) <;> refine fct hb (fun hp => ?_))))
    all_goals (first | (apply L.ends1; exact rfl; exact rfl; exact rfl) | (apply L.ends2; exact rfl; exact rfl; exact rfl) | (apply L.ends3; exact rfl; exact rfl; exact rfl) | (apply L.ends1A; exact rfl; exact rfl; exact rfl) | (apply L.ends2A; exact rfl; exact rfl; exact rfl) | (apply L.ends3A; exact rfl; exact rfl; exact rfl))
    all_goals rfl
  | true =>
    rw [hg] at kg
    have hs := sorted_of_good key hg
    have kp := place_any ps key hl hs
    cases hp : ps[pgOf ps key]? with
    | none =>
      have e : getM ps key = ([], false) := by simp [getM, hp]
      have em : placeM ps key = (0, 0, false) := by rw [placeM, hp]
      rw [e]
      rw [em] at kp
      (repeat' (first | (refine LW.is ?_; first | (apply s_call0; exact rfl; exact kg; exact rfl; exact rfl) | (apply s_call0; exact rfl; exact kp; exact rfl; exact rfl) | refine s_v ?_ | refine s_m ?_ | refine s_nil ?_ | refine s_gd ?_ | (refine s_gsplit rfl rfl rfl (fun hb => ?_) (fun hb => ?_) <;> refine fct hb (fun hp => ?_))) | (refine DR.is ?_; first | (apply d_call0; exact rfl; exact kg; exact rfl; exact rfl) | (apply d_call0; exact rfl; exact kp; exact rfl; exact rfl) | refine d_v ?_ | refine d_m ?_ | (apply d_nil; kernel_rfl) | refine d_gd ?_ | (refine d_gsplit rfl rfl rfl (fun hb => ?_) (fun hb => ?_) <;> refine fct hb (fun hp => ?_))) | refine c_go ?_ | refine s_region ?_ | refine d_region ?_ | (refine L.cond rfl (fun hb => ?_) (fun hb => ?_) <;> refine fct hb (fun hp => ?_))))
      all_goals (first | (apply L.ends1; exact rfl; exact rfl; exact rfl) | (apply L.ends2; exact rfl; exact rfl; exact rfl) | (apply L.ends3; exact rfl; exact rfl; exact rfl) | (apply L.ends1A; exact rfl; exact rfl; exact rfl) | (apply L.ends2A; exact rfl; exact rfl; exact rfl) | (apply L.ends3A; exact rfl; exact rfl; exact rfl))
      all_goals rfl
    | some p =>
      have em : placeM ps key = (pgOf ps key, lbM p.ks key, foundM p.ks key) := by rw [placeM, hp]
      rw [em] at kp
      have hv := hs.vs p (List.mem_of_getElem? hp)
      cases hf : foundM p.ks key with
      | false =>
        rw [hf] at kp
        have e : getM ps key = ([], false) := by simp [getM, hp, hf]
        rw [e]
        (repeat' (first | (refine LW.is ?_; first | (apply s_call0; exact rfl; exact kg; exact rfl; exact rfl) | (apply s_call0; exact rfl; exact kp; exact rfl; exact rfl) | refine s_v ?_ | refine s_m ?_ | refine s_nil ?_ | refine s_gd ?_ | (refine s_gsplit rfl rfl rfl (fun hb => ?_) (fun hb => ?_) <;> refine fct hb (fun hp => ?_))) | (refine DR.is ?_; first | (apply d_call0; exact rfl; exact kg; exact rfl; exact rfl) | (apply d_call0; exact rfl; exact kp; exact rfl; exact rfl) | refine d_v ?_ | refine d_m ?_ | (apply d_nil; kernel_rfl) | refine d_gd ?_ | (refine d_gsplit rfl rfl rfl (fun hb => ?_) (fun hb => ?_) <;> refine fct hb (fun hp => ?_))) | refine c_go ?_ | refine s_region ?_ | refine d_region ?_ | (refine L.cond rfl (fun hb => ?_) (fun hb => ?_) <;> refine fct hb (fun hp => ?_))))
        all_goals (first | (apply L.ends1; exact rfl; exact rfl; exact rfl) | (apply L.ends2; exact rfl; exact rfl; exact rfl) | (apply L.ends3; exact rfl; exact rfl; exact rfl) | (apply L.ends1A; exact rfl; exact rfl; exact rfl) | (apply L.ends2A; exact rfl; exact rfl; exact rfl) | (apply L.ends3A; exact rfl; exact rfl; exact rfl))
        all_goals rfl
      | true =>
        rw [hf] at kp
        have hlt : lbM p.ks key < p.vs.length := by
          rw [hv]
          unfold foundM at hf
          have : p.ks[lbM p.ks key]? = some key := by simpa using hf
          exact (List.getElem?_eq_some_iff.1 this).1
        obtain ⟨x, hx⟩ : ∃ x, p.vs[lbM p.ks key]? = some x := ⟨_, List.getElem?_eq_getElem hlt⟩
        have e : getM ps key = (x, true) := by simp [getM, hg, hp, hf, hx]
        rw [e]
        have g1 : (ps.map Pg.c)[((pgOf ps key : Nat) : Int).toNat]? = some [.sl (p.ks.map Str.c), .sl (p.vs.map Str.c)] := by rw [Int.toNat_natCast, List.getElem?_map, hp]; rfl
        have g2 : (p.vs.map Str.c)[((lbM p.ks key : Nat) : Int).toNat]? = some [S x] := by rw [Int.toNat_natCast, List.getElem?_map, hx]; rfl
        (repeat' (first | (refine LW.is ?_; first | (apply s_call0; exact rfl; exact kg; exact rfl; exact rfl) | (apply s_call0; exact rfl; exact kp; exact rfl; exact rfl) | (apply s_vr; exact rfl; apply v_indexA; exact rfl; exact rfl; omega; exact g1; exact rfl) | (apply s_vr; exact rfl; apply v_indexA; exact rfl; exact rfl; omega; exact g2; exact rfl) | refine s_v ?_ | refine s_m ?_ | refine s_nil ?_ | refine s_gd ?_ | (refine s_gsplit rfl rfl rfl (fun hb => ?_) (fun hb => ?_) <;> refine fct hb (fun hp => ?_))) | (refine DR.is ?_; first | (apply d_call0; exact rfl; exact kg; exact rfl; exact rfl) | (apply d_call0; exact rfl; exact kp; exact rfl; exact rfl) | (apply d_vr; exact rfl; apply v_indexA; exact rfl; exact rfl; omega; exact g1; exact rfl) | (apply d_vr; exact rfl; apply v_indexA; exact rfl; exact rfl; omega; exact g2; exact rfl) | refine d_v ?_ | refine d_m ?_ | (apply d_nil; kernel_rfl) | refine d_gd ?_ | (refine d_gsplit rfl rfl rfl (fun hb => ?_) (fun hb => ?_) <;> refine fct hb (fun hp => ?_))) | refine c_go ?_ | refine s_region ?_ | refine d_region ?_ | (refine L.cond rfl (fun hb => ?_) (fun hb => ?_) <;> refine fct hb (fun hp => ?_))))
        all_goals (first | (apply L.ends1; exact rfl; exact rfl; exact rfl) | (apply L.ends2; exact rfl; exact rfl; exact rfl) | (apply L.ends3; exact rfl; exact rfl; exact rfl) | (apply L.ends1A; exact rfl; exact rfl; exact rfl) | (apply L.ends2A; exact rfl; exact rfl; exact rfl) | (apply L.ends3A; exact rfl; exact rfl; exact rfl))
        all_goals rfl
abbrev Pr := Str × Str
def Pg.prs (p : Pg) : List Pr := p.ks.zip p.vs
def flatP (ps : List Pg) : List Pr := ps.flatMap Pg.prs
def fromP (ps : List Pg) (i k : Nat) : List Pr := match ps[i]? with
  | some p => p.prs.drop k ++ flatP (ps.drop (i + 1))
  | none => []
def rangeM (ps : List Pg) (lo hi : Str) : List Pr :=
  if goodTree ps then (fromP ps (placeM ps lo).1 (placeM ps lo).2.1).takeWhile (fun x => decide (x.1 < hi)) else []
theorem fromP_next {ps : List Pg} {i : Nat} {p : Pg} (hp : ps[i]? = some p) {k : Nat} (hk : p.prs.length ≤ k) : fromP ps i k = fromP ps (i + 1) 0 := by
  rw [fromP, hp]
  simp only [List.drop_eq_nil_of_le hk, List.nil_append]
  rw [fromP]
  cases hq : ps[i + 1]? with
  | none => rw [dropN hq]; rfl
  | some q => rw [dropC hq]; simp [flatP]
theorem fromP_step {ps : List Pg} {i k : Nat} {p : Pg} (hp : ps[i]? = some p) {s x : Str} (hs : p.ks[k]? = some s) (hx : p.vs[k]? = some x) : fromP ps i k = (s, x) :: fromP ps i (k + 1) := by
  have h : p.prs[k]? = some (s, x) := by simp [Pg.prs, List.getElem?_zip_eq_some, hs, hx]
  rw [fromP, fromP, hp]
  simp only [dropC h, List.cons_append]
theorem flatP_len {ps : List Pg} (h : ∀ p ∈ ps, p.ks.length ≤ 4) : (flatP ps).length ≤ 4 * ps.length := by
  induction ps with
  | nil => simp [flatP]
  | cons p ps ih =>
    have h1 := ih (fun q hq => h q (by simp [hq]))
    have h2 := h p (by simp)
    have h3 : p.prs.length ≤ 4 := by simp only [Pg.prs, List.length_zip]; omega
    have e : flatP (p :: ps) = p.prs ++ flatP ps := rfl
    rw [e, List.length_append, List.length_cons]; omega
theorem fromP_len {ps : List Pg} (h : ∀ p ∈ ps, p.ks.length ≤ 4) (i k : Nat) : (fromP ps i k).length ≤ 4 * ps.length := by
  unfold fromP
  cases hp : ps[i]? with
  | none => simp
  | some p =>
    have hi := (List.getElem?_eq_some_iff.1 hp).1
    have h1 := flatP_len (ps := ps.drop (i + 1)) (fun q hq => h q (List.mem_of_mem_drop hq))
    have h2 := h p (List.mem_of_getElem? hp)
    simp only [List.length_append, List.length_drop, Pg.prs, List.length_zip] at h1 ⊢
    omega
set_option maxRecDepth 100000 in
set_option maxHeartbeats 4000000 in
theorem range_any (ps : List Pg) (lo hi : Str) (hl : 64 * ps.length ≤ 225000000000000) :
    CallA Tryd.prog 72 [.agg [.iv (.sl (ps.map Pg.c))], aS lo, aS hi] [] [] [] (.tup [.iv (.sl ((rangeM ps lo hi).map fun x => Str.c x.1)), .iv (.sl ((rangeM ps lo hi).map fun x => Str.c x.2))]) := by
  have kg := goodtree_any ps (by omega)
  refine CallA.intro _ Tryd.func72 rfl Tryd.ntmps72 rfl (fun w0 E0 => ?_)
  cases hg : goodTree ps with
  | false =>
    rw [hg] at kg
    have e : rangeM ps lo hi = [] := by simp [rangeM, hg]
    rw [e]
    (repeat' (first | (refine LW.is ?_; first | (apply s_call0; exact rfl; exact kg; exact rfl; exact rfl) | refine s_v ?_ | refine s_m ?_ | refine s_nil ?_ | refine s_gd ?_ | (refine s_gsplit rfl rfl rfl (fun hb => ?_) (fun hb => ?_) <;> refine fct hb (fun hp => ?_))) | (refine DR.is ?_; first | (apply d_call0; exact rfl; exact kg; exact rfl; exact rfl) | refine d_v ?_ | refine d_m ?_ | (apply d_nil; kernel_rfl) | refine d_gd ?_ | (refine d_gsplit rfl rfl rfl (fun hb => ?_) (fun hb => ?_) <;> refine fct hb (fun hp => ?_))) | refine c_go ?_ | refine s_region ?_ | refine d_region ?_ | (refine L.cond rfl (fun hb => ?_) (fun hb => ?_) <;> refine fct hb (fun hp => ?_))))
    all_goals (first | (apply L.ends1; exact rfl; exact rfl; exact rfl) | (apply L.ends2; exact rfl; exact rfl; exact rfl) | (apply L.ends3; exact rfl; exact rfl; exact rfl) | (apply L.ends1A; exact rfl; exact rfl; exact rfl) | (apply L.ends2A; exact rfl; exact rfl; exact rfl) | (apply L.ends3A; exact rfl; exact rfl; exact rfl))
    all_goals rfl
  | true =>
    rw [hg] at kg
    have hs := sorted_of_good lo hg
    have kp := place_any ps lo (by omega) hs
    have e : rangeM ps lo hi = (fromP ps (placeM ps lo).1 (placeM ps lo).2.1).takeWhile (fun x => decide (x.1 < hi)) := by simp [rangeM, hg]
    rw [e]
    clear e
    generalize placeM ps lo = pl at kp
    obtain ⟨i0, k0, ok⟩ := pl
    dsimp only at kp ⊢
    (repeat' (first | (refine LW.is ?_; first | (apply s_call0; exact rfl; exact kg; exact rfl; exact rfl) | (apply s_call0; exact rfl; exact kp; exact rfl; exact rfl) | refine s_v ?_ | refine s_m ?_ | refine s_nil ?_ | refine s_gd ?_ | (refine s_gsplit rfl rfl rfl (fun hb => ?_) (fun hb => ?_) <;> refine fct hb (fun hp => ?_))) | (refine DR.is ?_; first | (apply d_call0; exact rfl; exact kg; exact rfl; exact rfl) | (apply d_call0; exact rfl; exact kp; exact rfl; exact rfl) | refine d_v ?_ | refine d_m ?_ | (apply d_nil; kernel_rfl) | refine d_gd ?_ | (refine d_gsplit rfl rfl rfl (fun hb => ?_) (fun hb => ?_) <;> refine fct hb (fun hp => ?_))) | refine c_go ?_ | refine s_region ?_ | refine d_region ?_ | (refine L.cond rfl (fun hb => ?_) (fun hb => ?_) <;> refine fct hb (fun hp => ?_))))
    refine L.adopt 8 (s := 8) (t := 9) (k := 1) rfl rfl rfl ?_
    refine L.adopt 9 (s := 9) (t := 9) (k := 1) rfl rfl rfl ?_
    have hb0 := fromP_len hs.len i0 k0
    refine L.loopP (ι := Nat × Nat × List Pr) (fun i => ⟨[(10, aI (i.1 : Int)), (11, aI (i.2.1 : Int)), (8, .row 8 (i.2.2.map fun x => Str.c x.1)), (9, .row 9 (i.2.2.map fun x => Str.c x.2)), (2, aS hi), (3, .ptr 3 0)], [(3, ⟨61, .l [.iv (.sl (ps.map Pg.c))]⟩)], [(9, ⟨9, 1⟩), (8, ⟨9, 1⟩)]⟩) (fun i => ps.length - i.1)
      (fun i => (fromP ps i0 k0).takeWhile (fun x => decide (x.1 < hi)) = i.2.2 ++ (fromP ps i.1 i.2.1).takeWhile (fun x => decide (x.1 < hi)) ∧ i.2.2.length + (fromP ps i.1 i.2.1).length ≤ 4 * ps.length) (i0 := (i0, k0, [])) ?_ ⟨by simp, by simpa using hb0⟩ ?_
    · (refine Wk.mk' (by intro id h; cases h) ?_ ?_ ?_ <;> repeat' (first | exact WkF.nil | exact WkB.nil | exact WkT.nil | (refine WkF.cons rfl (Sub.refl _) ?_) | (refine WkB.cons rfl rfl (Subs.refl _) ?_) | (refine WkT.cons rfl ?_)))
    rintro ⟨i, k, acc⟩ ⟨hi', hb⟩ K hK
    dsimp only at hi' hb ⊢
    cases hp : ps[i]? with
    | none =>
      have hlt := ltF (l := ps.map Pg.c) (getFN hp)
      have ef : fromP ps i k = [] := by rw [fromP, hp]
      rw [ef] at hi'
      (repeat' (first | (refine LW.is ?_; first | refine s_v ?_ | refine s_m ?_ | refine s_nil ?_ | refine s_gd ?_ | (refine s_gsplit rfl rfl rfl (fun hb => ?_) (fun hb => ?_) <;> refine fct hb (fun hp => ?_))) | (refine DR.is ?_; first | refine d_v ?_ | refine d_m ?_ | (apply d_nil; kernel_rfl) | refine d_gd ?_ | (refine d_gsplit rfl rfl rfl (fun hb => ?_) (fun hb => ?_) <;> refine fct hb (fun hp => ?_))) | refine c_go ?_ | refine s_region ?_ | refine d_region ?_ | (refine L.cond rfl (fun hb => ?_) (fun hb => ?_) <;> refine fct hb (fun hp => ?_))))
      all_goals (first | (apply L.ends1; exact rfl; exact rfl; exact rfl) | (apply L.ends2; exact rfl; exact rfl; exact rfl) | (apply L.ends3; exact rfl; exact rfl; exact rfl) | (apply L.ends1A; exact rfl; exact rfl; exact rfl) | (apply L.ends2A; exact rfl; exact rfl; exact rfl) | (apply L.ends3A; exact rfl; exact rfl; exact rfl))
      rw [hi']; simp
    | some p =>
      have hlt := ltT (l := ps.map Pg.c) (getF hp)
      have hlt' := ltN hp
      have hv := hs.vs p (List.mem_of_getElem? hp)
      have hk4 := hs.len p (List.mem_of_getElem? hp)
      obtain ⟨ks, vs⟩ := p
      dsimp only at hv hk4
      have g1 : (ps.map Pg.c)[((i : Nat) : Int).toNat]? = some [.sl (ks.map Str.c), .sl (vs.map Str.c)] := by rw [Int.toNat_natCast, List.getElem?_map, hp]; rfl
      (repeat' (first | (refine LW.is ?_; first | refine s_v ?_ | refine s_m ?_ | refine s_nil ?_ | refine s_gd ?_ | (refine s_gsplit rfl rfl rfl (fun hb => ?_) (fun hb => ?_) <;> refine fct hb (fun hp => ?_))) | (refine DR.is ?_; first | refine d_v ?_ | refine d_m ?_ | (apply d_nil; kernel_rfl) | refine d_gd ?_ | (refine d_gsplit rfl rfl rfl (fun hb => ?_) (fun hb => ?_) <;> refine fct hb (fun hp => ?_))) | refine c_go ?_ | refine s_region ?_ | refine d_region ?_ | (refine L.cond rfl (fun hb => ?_) (fun hb => ?_) <;> refine fct hb (fun hp => ?_))))
      refine L.loopP (ι := Nat × List Pr) (fun j => ⟨[(10, aI (i : Int)), (11, aI (j.1 : Int)), (8, .row 8 (j.2.map fun x => Str.c x.1)), (9, .row 9 (j.2.map fun x => Str.c x.2)), (2, aS hi), (3, .ptr 3 0)], [(3, ⟨61, .l [.iv (.sl (ps.map Pg.c))]⟩)], [(9, ⟨9, 1⟩), (8, ⟨9, 1⟩)]⟩) (fun j => ks.length - j.1)
        (fun j => (fromP ps i0 k0).takeWhile (fun x => decide (x.1 < hi)) = j.2 ++ (fromP ps i j.1).takeWhile (fun x => decide (x.1 < hi)) ∧ j.2.length + (fromP ps i j.1).length ≤ 4 * ps.length) (i0 := (k, acc)) ?_ ⟨hi', hb⟩ ?_
      · (refine Wk.mk' (by intro id h; cases h) ?_ ?_ ?_ <;> repeat' (first | exact WkF.nil | exact WkB.nil | exact WkT.nil | (refine WkF.cons rfl (Sub.refl _) ?_) | (refine WkB.cons rfl rfl (Subs.refl _) ?_) | (refine WkT.cons rfl ?_)))
      clear hi' hb
      rintro ⟨k, acc⟩ ⟨hi', hb⟩ K2 hK2
      dsimp only at hi' hb ⊢
      cases hw : ks[k]? with
      | none =>
        have hlt2 := ltF (l := ks.map Str.c) (getFN hw)
        have hk : (Pg.prs ⟨ks, vs⟩).length ≤ k := by
          have := List.getElem?_eq_none_iff.1 hw
          simp [Pg.prs]; omega
        rw [fromP_next hp hk] at hi' hb
        (repeat' (first | (refine LW.is ?_; first | (apply s_vr; exact rfl; apply v_indexA; exact rfl; exact rfl; omega; exact g1; exact rfl) | refine s_v ?_ | refine s_m ?_ | refine s_nil ?_ | refine s_gd ?_ | (refine s_gsplit rfl rfl rfl (fun hb => ?_) (fun hb => ?_) <;> refine fct hb (fun hp => ?_))) | (refine DR.is ?_; first | (apply d_vr; exact rfl; apply v_indexA; exact rfl; exact rfl; omega; exact g1; exact rfl) | refine d_v ?_ | refine d_m ?_ | (apply d_nil; kernel_rfl) | refine d_gd ?_ | (refine d_gsplit rfl rfl rfl (fun hb => ?_) (fun hb => ?_) <;> refine fct hb (fun hp => ?_))) | refine c_go ?_ | refine s_region ?_ | refine d_region ?_ | (refine L.cond rfl (fun hb => ?_) (fun hb => ?_) <;> refine fct hb (fun hp => ?_))))
        refine hK _ (i + 1, 0, acc) ⟨hi', hb⟩ (by dsimp only; omega) ?_
        (refine Wk.mk' (by intro id h; cases h) ?_ ?_ ?_ <;> repeat' (first | exact WkF.nil | exact WkB.nil | exact WkT.nil | (refine WkF.cons rfl (Sub.refl _) ?_) | (refine WkB.cons rfl rfl (Subs.refl _) ?_) | (refine WkT.cons rfl ?_)))
      | some s =>
        have hlt2 := ltT (l := ks.map Str.c) (getF hw)
        have hlt2' := ltN hw
        obtain ⟨x, hx⟩ : ∃ x, vs[k]? = some x := ⟨_, List.getElem?_eq_getElem (by omega)⟩
        have g2 : (ks.map Str.c)[((k : Nat) : Int).toNat]? = some [S s] := by rw [Int.toNat_natCast, List.getElem?_map, hw]; rfl
        have g3 : (vs.map Str.c)[((k : Nat) : Int).toNat]? = some [S x] := by rw [Int.toNat_natCast, List.getElem?_map, hx]; rfl
        rw [fromP_step hp hw hx] at hi' hb
        simp only [List.length_cons] at hb
        have hge : (!(Op.bytesLess s hi)) = (!decide (s < hi)) := by rw [ltS]
        cases hq : decide (s < hi) with
        | false =>
          rw [hq] at hge
          (repeat' (first | (refine LW.is ?_; first | (apply s_vr; exact rfl; apply v_indexA; exact rfl; exact rfl; omega; exact g1; exact rfl) | (apply s_vr; exact rfl; apply v_indexA; exact rfl; exact rfl; omega; exact g2; exact rfl) | refine s_v ?_ | refine s_m ?_ | refine s_nil ?_ | refine s_gd ?_ | (refine s_gsplit rfl rfl rfl (fun hb => ?_) (fun hb => ?_) <;> refine fct hb (fun hp => ?_))) | (refine DR.is ?_; first | (apply d_vr; exact rfl; apply v_indexA; exact rfl; exact rfl; omega; exact g1; exact rfl) | (apply d_vr; exact rfl; apply v_indexA; exact rfl; exact rfl; omega; exact g2; exact rfl) | refine d_v ?_ | refine d_m ?_ | (apply d_nil; kernel_rfl) | refine d_gd ?_ | (refine d_gsplit rfl rfl rfl (fun hb => ?_) (fun hb => ?_) <;> refine fct hb (fun hp => ?_))) | refine c_go ?_ | refine s_region ?_ | refine d_region ?_ | (refine L.cond rfl (fun hb => ?_) (fun hb => ?_) <;> refine fct hb (fun hp => ?_))))
          all_goals (first | (apply L.ends1; exact rfl; exact rfl; exact rfl) | (apply L.ends2; exact rfl; exact rfl; exact rfl) | (apply L.ends3; exact rfl; exact rfl; exact rfl) | (apply L.ends1A; exact rfl; exact rfl; exact rfl) | (apply L.ends2A; exact rfl; exact rfl; exact rfl) | (apply L.ends3A; exact rfl; exact rfl; exact rfl))
          rw [hi', List.takeWhile_cons, hq]; simp
        | true =>
          rw [hq] at hge
          rw [List.takeWhile_cons, hq] at hi'
          (repeat' (first | (refine LW.is ?_; first | (apply s_vr; exact rfl; apply v_indexA; exact rfl; exact rfl; omega; exact g1; exact rfl) | (apply s_vr; exact rfl; apply v_indexA; exact rfl; exact rfl; omega; exact g2; exact rfl) | (apply s_vr; exact rfl; apply v_indexA; exact rfl; exact rfl; omega; exact g3; exact rfl) | refine s_v ?_ | refine s_m ?_ | refine s_nil ?_ | refine s_gd ?_ | (refine s_gsplit rfl rfl rfl (fun hb => ?_) (fun hb => ?_) <;> refine fct hb (fun hp => ?_))) | (refine DR.is ?_; first | (apply d_vr; exact rfl; apply v_indexA; exact rfl; exact rfl; omega; exact g1; exact rfl) | (apply d_vr; exact rfl; apply v_indexA; exact rfl; exact rfl; omega; exact g2; exact rfl) | (apply d_vr; exact rfl; apply v_indexA; exact rfl; exact rfl; omega; exact g3; exact rfl) | refine d_v ?_ | refine d_m ?_ | (apply d_nil; kernel_rfl) | refine d_gd ?_ | (refine d_gsplit rfl rfl rfl (fun hb => ?_) (fun hb => ?_) <;> refine fct hb (fun hp => ?_))) | refine c_go ?_ | refine s_region ?_ | refine d_region ?_ | (refine L.cond rfl (fun hb => ?_) (fun hb => ?_) <;> refine fct hb (fun hp => ?_))))
          refine L.only [10, 11, 8, 9, 2, 3] ?_
          refine L.retok 8 65 8 rfl rfl rfl rfl ?_
          refine L.retok 9 77 9 rfl rfl rfl rfl ?_
          refine hK2 _ (k + 1, acc ++ [(s, x)]) ⟨by rw [hi']; simp, by simp; omega⟩ (by dsimp only; omega) (Wk.mk' (by intro id h; cases h) (.cons rfl (Sub.refl _) (.cons rfl (Sub.refl _) (.cons rfl (Sub.of_eq (congrArg (AV.row 8) ?_)) (.cons rfl (Sub.of_eq (congrArg (AV.row 9) ?_)) (.cons rfl (Sub.refl _) (.cons rfl (Sub.refl _) .nil)))))) (.cons rfl rfl (Subs.refl _) .nil) (.cons rfl (.cons rfl .nil)))
          · simp [chunks, Str.c]
          · simp [chunks, Str.c]
end Go.Proofs.YthkobnpogigkiaaDoor
/- Trees, plain laws: what a range holds. Conditions: none. -/
namespace Go.Proofs.YthkobnpogigkiaaDoor
open Go.Abs
set_option linter.unusedVariables false
set_option linter.unusedSimpArgs false
theorem prs_key {p : Pg} {x : Pr} (h : x ∈ p.prs) : x.1 ∈ p.ks := (List.of_mem_zip h).1
theorem fst_prs {p : Pg} (h : p.vs.length = p.ks.length) : p.prs.map Prod.fst = p.ks := by
  unfold Pg.prs; rw [List.map_fst_zip (by omega)]
theorem keys_flat {ps : List Pg} (h : ∀ p ∈ ps, okP p) : (flatP ps).map Prod.fst = keysT ps := by
  induction ps with
  | nil => rfl
  | cons p ps ih =>
    have e : flatP (p :: ps) = p.prs ++ flatP ps := rfl
    rw [e, List.map_append, fst_prs (h p (by simp)).2.2, ih (fun q hq => h q (by simp [hq]))]; rfl
theorem flatP_append (a b : List Pg) : flatP (a ++ b) = flatP a ++ flatP b := by simp [flatP]
theorem keysT_append (a b : List Pg) : keysT (a ++ b) = keysT a ++ keysT b := by simp [keysT]
theorem mem_flat_key {ps : List Pg} {x : Pr} (h : x ∈ flatP ps) : x.1 ∈ keysT ps := by
  obtain ⟨p, hp, hx⟩ := List.mem_flatMap.1 h
  exact List.mem_flatMap.2 ⟨p, hp, prs_key hx⟩
theorem pre_drop {key : Str} : ∀ (p : Pg), p.ks.Pairwise (· < ·) → p.prs.drop (lbM p.ks key) = p.prs.filter (fun x => !decide (x.1 < key)) := by
  rintro ⟨ks, vs⟩ h
  induction ks generalizing vs with
  | nil => simp [Pg.prs]
  | cons s ks ih =>
    cases vs with
    | nil => simp [Pg.prs]
    | cons v vs =>
      have hp := List.pairwise_cons.1 h
      have ih := ih vs hp.2
      simp only [Pg.prs, lbM, pre] at ih ⊢
      by_cases hs : s < key
      · simp only [hs, decide_true, if_true, List.zip_cons_cons, List.drop_succ_cons, List.filter_cons, Bool.not_true, Bool.false_eq_true, if_false]
        exact ih
      · have all : ∀ x ∈ (ks.zip vs), (!decide (x.1 < key)) = true := by
          intro x hx
          have hx1 : x.1 ∈ ks := (List.of_mem_zip (a := x.1) (b := x.2) hx).1
          have h1 := hp.1 _ hx1
          simp only [Bool.not_eq_true', decide_eq_false_iff_not]
          exact fun hc => hs (lt_trans' h1 hc)
        simp only [hs, decide_false, Bool.false_eq_true, if_false, List.zip_cons_cons, List.drop_zero, List.filter_cons, Bool.not_false, if_true]
        rw [List.filter_eq_self.2 all]
theorem from_place {ps : List Pg} (lo : Str) (h : goodTree ps = true) : fromP ps (placeM ps lo).1 (placeM ps lo).2.1 = (flatP ps).filter (fun x => !decide (x.1 < lo)) := by
  obtain ⟨h1, h2⟩ := (good_iff ps).1 h
  have hs := sorted_of_good lo h
  cases hp : ps[pgOf ps lo]? with
  | none =>
    have : ps = [] := by
      cases ps with
      | nil => rfl
      | cons p t =>
        have hle := pre_le (fstLe lo) (p :: t)
        have := List.getElem?_eq_none_iff.1 hp
        simp only [pgOf, List.length_cons] at this hle; omega
    subst this
    rfl
  | some p =>
    have em : placeM ps lo = (pgOf ps lo, lbM p.ks lo, foundM p.ks lo) := by rw [placeM, hp]
    rw [em]
    dsimp only
    rw [fromP, hp]
    dsimp only
    have hmem := List.mem_of_getElem? hp
    have hi := (List.getElem?_eq_some_iff.1 hp).1
    have hsplit : ps = ps.take (pgOf ps lo) ++ p :: ps.drop (pgOf ps lo + 1) := by
      rw [← dropC hp, List.take_append_drop]
    have hk := keys_page h2 hmem
    have hkeys := h2
    rw [hsplit, keysT_append] at hkeys
    have hcons : keysT (p :: ps.drop (pgOf ps lo + 1)) = p.ks ++ keysT (ps.drop (pgOf ps lo + 1)) := rfl
    rw [hcons] at hkeys
    obtain ⟨_, hr, hcross⟩ := List.pairwise_append.1 hkeys
    obtain ⟨_, _, hcross2⟩ := List.pairwise_append.1 hr
    have hne := (h1 p hmem).1
    have before : (flatP (ps.take (pgOf ps lo))).filter (fun x => !decide (x.1 < lo)) = [] := by
      rw [List.filter_eq_nil_iff]
      intro x hx
      have hx1 := mem_flat_key hx
      have hpos : 0 < pgOf ps lo := by
        refine Nat.pos_of_ne_zero (fun e => ?_)
        rw [e] at hx; simp [flatP] at hx
      have hq : pgOf ps lo < pre (fstLe lo) ps := by unfold pgOf at hpos ⊢; omega
      have hf := pre_lt hp hq
      obtain ⟨ks, vs⟩ := p
      cases ks with
      | nil => simp at hne
      | cons s ks =>
        have hlt := hcross x.1 hx1 s (by simp)
        have hf : s ≤ lo := of_decide_eq_true hf
        have : x.1 < lo := by
          refine List.not_le.1 (fun hc => ?_)
          exact absurd hlt (List.not_lt.2 (List.le_trans hf hc))
        simp [this]
    have after : (flatP (ps.drop (pgOf ps lo + 1))).filter (fun x => !decide (x.1 < lo)) = flatP (ps.drop (pgOf ps lo + 1)) := by
      rw [List.filter_eq_self]
      intro x hx
      cases hq : ps.drop (pgOf ps lo + 1) with
      | nil => rw [hq] at hx; simp [flatP] at hx
      | cons q t =>
        have hq1 : ps[pgOf ps lo + 1]? = some q := by
          have := congrArg (fun l => l[0]?) hq
          simpa using this
        have hnot : fstLe lo q = false := by
          cases hfl : fstLe lo q with
          | false => rfl
          | true =>
            have := hs.pages.le hq1 hfl
            unfold pgOf at this; omega
        have hqmem := List.mem_of_getElem? hq1
        have hqne := (h1 q hqmem).1
        have hx1 := mem_flat_key hx
        rw [hq] at hx1
        have hsub : (keysT (q :: t)).Pairwise (· < ·) := by
          have := (List.pairwise_append.1 hr).2.1
          rwa [hq] at this
        obtain ⟨ks, vs⟩ := q
        cases ks with
        | nil => simp at hqne
        | cons s ks =>
          have hnot : ¬ s ≤ lo := of_decide_eq_false hnot
          have hlo : lo < s := List.not_le.1 hnot
          have hge : x.1 = s ∨ s < x.1 := by
            have e : keysT (⟨s :: ks, vs⟩ :: t) = s :: (ks ++ keysT t) := rfl
            rw [e] at hx1 hsub
            rcases List.mem_cons.1 hx1 with h | h
            · exact .inl h
            · exact .inr ((List.pairwise_cons.1 hsub).1 _ h)
          have : ¬ x.1 < lo := by
            rcases hge with h | h
            · rw [h]; exact List.lt_asymm hlo
            · exact List.lt_asymm (lt_trans' hlo h)
          simp [this]
    have hflat : flatP ps = flatP (ps.take (pgOf ps lo)) ++ (p.prs ++ flatP (ps.drop (pgOf ps lo + 1))) := by
      conv => lhs; rw [hsplit]
      rw [flatP_append]; rfl
    rw [hflat, List.filter_append, List.filter_append, before, after, ← pre_drop p hk]
    rfl
theorem take_filter {hi : Str} : ∀ {l : List Pr}, (l.map Prod.fst).Pairwise (· < ·) → l.takeWhile (fun x => decide (x.1 < hi)) = l.filter (fun x => decide (x.1 < hi))
  | [], _ => rfl
  | x :: l, h => by
    simp only [List.map_cons] at h
    have hp := List.pairwise_cons.1 h
    rw [List.takeWhile_cons, List.filter_cons]
    by_cases hx : x.1 < hi
    · simp only [hx, decide_true, if_true]; rw [take_filter hp.2]
    · simp only [hx, decide_false, Bool.false_eq_true, if_false]
      rw [eq_comm, List.filter_eq_nil_iff]
      intro y hy
      have := hp.1 y.1 (List.mem_map.2 ⟨y, hy, rfl⟩)
      simp only [decide_eq_true_eq]
      exact fun hc => hx (lt_trans' this hc)
theorem range_law {ps : List Pg} (lo hi : Str) (h : goodTree ps = true) : rangeM ps lo hi = (flatP ps).filter (fun x => !decide (x.1 < lo) && decide (x.1 < hi)) := by
  obtain ⟨h1, h2⟩ := (good_iff ps).1 h
  have hk : ((flatP ps).map Prod.fst).Pairwise (· < ·) := by rw [keys_flat h1]; exact h2
  rw [rangeM, if_pos h, from_place lo h, take_filter, List.filter_filter]
  · congr 1; funext x; rw [Bool.and_comm]
  · exact hk.sublist (List.Sublist.map _ List.filter_sublist)
end Go.Proofs.YthkobnpogigkiaaDoor
/- The law TreeRanges answers true, if 'trees' does. Conditions: how much there is of what comes in. -/
namespace Go.Proofs.YthkobnpogigkiaaDoor
open Go.Abs
set_option maxRecDepth 100000
attribute [local irreducible] L Code.wp bodyPost Exit.then Exit.inBlock
set_option linter.unusedVariables false
set_option linter.unusedSimpArgs false
theorem range_len (ps : List Pg) (lo hi : Str) : (rangeM ps lo hi).length ≤ 4 * ps.length := by
  unfold rangeM
  split
  · rename_i hg
    exact Nat.le_trans (List.takeWhile_sublist _).length_le (fromP_len (sorted_of_good lo hg).len _ _)
  · simp
end Go.Proofs.YthkobnpogigkiaaDoor
/- Trees: what slices.Clone computes: a row of one's own. Conditions: how much there is of what comes in. -/
namespace Go.Proofs.YthkobnpogigkiaaDoor
open Go.Abs
set_option maxRecDepth 100000
attribute [local irreducible] L Code.wp bodyPost Exit.then Exit.inBlock
set_option linter.unusedVariables false
set_option linter.unusedSimpArgs false
set_option maxRecDepth 100000 in
set_option maxHeartbeats 4000000 in
theorem cloneS_any (es : List (List IV)) (hk : ∀ e ∈ es, e.length = 1) (hne : es ≠ []) (hm : es.length ≤ maxLen) (hl : es.length * 16 ≤ 140737488355328) :
    CallA Tryd.prog 116 [.iv (.sl es)] [] [(1000, ⟨9, .r es.flatten 0⟩)] [] (.bsh 1000 0 es.length 1) := by
  refine CallA.intro _ Tryd.func116 rfl Tryd.ntmps116 rfl (fun w0 E0 => ?_)
  (repeat' (first | (refine LW.is ?_; first | (apply s_vr; exact rfl; apply v_eqlNil; exact rfl; exact rfl; exact hne) | (apply s_mkEmpty; exact rfl; exact rfl; exact rfl; exact rfl; exact rfl) | (apply s_cloneR 1000; exact rfl; exact rfl; exact rfl; exact hk; exact hne; exact hm; exact hl; exact rfl) | refine s_v ?_ | refine s_m ?_ | refine s_nil ?_ | refine s_gd ?_ | (refine s_gsplit rfl rfl rfl (fun hb => ?_) (fun hb => ?_) <;> refine fct hb (fun hp => ?_))) | (refine DR.is ?_; first | (apply d_vr; exact rfl; apply v_eqlNil; exact rfl; exact rfl; exact hne) | (apply d_mkEmpty; exact rfl; exact rfl; exact rfl; exact rfl; exact rfl) | (apply d_cloneR 1000; exact rfl; exact rfl; exact rfl; exact hk; exact hne; exact hm; exact hl; exact rfl) | refine d_v ?_ | refine d_m ?_ | (apply d_nil; kernel_rfl) | refine d_gd ?_ | (refine d_gsplit rfl rfl rfl (fun hb => ?_) (fun hb => ?_) <;> refine fct hb (fun hp => ?_))) | refine c_go ?_ | refine s_region ?_ | refine d_region ?_ | (refine L.cond rfl (fun hb => ?_) (fun hb => ?_) <;> refine fct hb (fun hp => ?_))))
  all_goals (apply L.ends; exact rfl; exact rfl; exact Sub.refl _; exact Wk.mk' (by intro id h; cases h) .nil (.cons rfl rfl (Subs.refl _) .nil) .nil)
set_option maxRecDepth 100000 in
set_option maxHeartbeats 4000000 in
theorem cloneP_any (es : List (List IV)) (hk : ∀ e ∈ es, e.length = 2) (hne : es ≠ []) (hm : es.length ≤ maxLen) (hl : es.length * 48 ≤ 140737488355328) :
    CallA Tryd.prog 107 [.iv (.sl es)] [] [(1000, ⟨127, .r es.flatten 0⟩)] [] (.bsh 1000 0 es.length 2) := by
  refine CallA.intro _ Tryd.func107 rfl Tryd.ntmps107 rfl (fun w0 E0 => ?_)
  (repeat' (first | (refine LW.is ?_; first | (apply s_vr; exact rfl; apply v_eqlNil; exact rfl; exact rfl; exact hne) | (apply s_mkEmpty; exact rfl; exact rfl; exact rfl; exact rfl; exact rfl) | (apply s_cloneR 1000; exact rfl; exact rfl; exact rfl; exact hk; exact hne; exact hm; exact hl; exact rfl) | refine s_v ?_ | refine s_m ?_ | refine s_nil ?_ | refine s_gd ?_ | (refine s_gsplit rfl rfl rfl (fun hb => ?_) (fun hb => ?_) <;> refine fct hb (fun hp => ?_))) | (refine DR.is ?_; first | (apply d_vr; exact rfl; apply v_eqlNil; exact rfl; exact rfl; exact hne) | (apply d_mkEmpty; exact rfl; exact rfl; exact rfl; exact rfl; exact rfl) | (apply d_cloneR 1000; exact rfl; exact rfl; exact rfl; exact hk; exact hne; exact hm; exact hl; exact rfl) | refine d_v ?_ | refine d_m ?_ | (apply d_nil; kernel_rfl) | refine d_gd ?_ | (refine d_gsplit rfl rfl rfl (fun hb => ?_) (fun hb => ?_) <;> refine fct hb (fun hp => ?_))) | refine c_go ?_ | refine s_region ?_ | refine d_region ?_ | (refine L.cond rfl (fun hb => ?_) (fun hb => ?_) <;> refine fct hb (fun hp => ?_))))
  all_goals (apply L.ends; exact rfl; exact rfl; exact Sub.refl _; exact Wk.mk' (by intro id h; cases h) .nil (.cons rfl rfl (Subs.refl _) .nil) .nil)
set_option maxRecDepth 100000 in
set_option maxHeartbeats 4000000 in
theorem cloneP_nil :
    CallA Tryd.prog 107 [.iv (.sl [])] [] [] [] (.iv (.sl [])) := by
  refine CallA.intro _ Tryd.func107 rfl Tryd.ntmps107 rfl (fun w0 E0 => ?_)
  (repeat' (first | (apply s_eqlNil0; exact rfl; exact rfl; exact rfl; rintro (_ | _)) | (refine LW.is ?_; first | (apply s_vr; exact rfl; apply v_app0; exact rfl; exact rfl) | refine s_v ?_ | refine s_m ?_ | refine s_nil ?_ | refine s_gd ?_ | (refine s_gsplit rfl rfl rfl (fun hb => ?_) (fun hb => ?_) <;> refine fct hb (fun hp => ?_))) | (refine DR.is ?_; first | (apply d_vr; exact rfl; apply v_app0; exact rfl; exact rfl) | refine d_v ?_ | refine d_m ?_ | (apply d_nil; kernel_rfl) | refine d_gd ?_ | (refine d_gsplit rfl rfl rfl (fun hb => ?_) (fun hb => ?_) <;> refine fct hb (fun hp => ?_))) | refine c_go ?_ | refine s_region ?_ | refine d_region ?_ | (refine L.cond rfl (fun hb => ?_) (fun hb => ?_) <;> refine fct hb (fun hp => ?_))))
  all_goals (first | (apply L.ends1; exact rfl; exact rfl; exact rfl) | (apply L.ends2; exact rfl; exact rfl; exact rfl) | (apply L.ends3; exact rfl; exact rfl; exact rfl) | (apply L.ends1A; exact rfl; exact rfl; exact rfl) | (apply L.ends2A; exact rfl; exact rfl; exact rfl) | (apply L.ends3A; exact rfl; exact rfl; exact rfl))
  all_goals rfl
end Go.Proofs.YthkobnpogigkiaaDoor
/- Trees: what slices.Insert computes: a row of one's own with one element more. Conditions: the place is within; how much there is of what comes in. -/
namespace Go.Proofs.YthkobnpogigkiaaDoor
open Go.Abs
set_option maxRecDepth 100000
attribute [local irreducible] L Code.wp bodyPost Exit.then Exit.inBlock
set_option linter.unusedVariables false
set_option linter.unusedSimpArgs false
theorem flat_ne {k : Nat} {es : List (List IV)} (hk : ∀ e ∈ es, e.length = k) (h0 : 0 < k) (hne : es ≠ []) : es.flatten ≠ [] := fun e => by
  have := flatten_len es hk
  rw [e] at this
  have hp : 0 < es.length := List.length_pos_iff.2 hne
  have : 0 < es.length * k := Nat.mul_pos hp h0
  simp at *; omega
theorem mem_ins {k i : Nat} {es : List (List IV)} {v : List IV} (hk : ∀ e ∈ es, e.length = k) (hv : v.length = k) : ∀ e ∈ es.take i ++ v :: es.drop i, e.length = k := fun e he => by
  rcases List.mem_append.1 he with h | h
  · exact hk e (List.mem_of_mem_take h)
  · rcases List.mem_cons.1 h with rfl | h
    · exact hv
    · exact hk e (List.mem_of_mem_drop h)
theorem len_ins {i : Nat} {es : List (List IV)} {v : List IV} (hi : i ≤ es.length) : (es.take i ++ v :: es.drop i).length = es.length + 1 := by
  simp; omega
theorem take1 (v : List IV) : ([v].drop 0).take 1 = [v] := rfl
theorem ins1 {es : List (List IV)} {v : List IV} {i : Nat} (hi : i ≤ es.length) : (es.take i).take i ++ (([v].drop 0).take 1 ++ (es.take i).drop (i + 1)) = es.take i ++ [v] := by
  rw [take1, List.take_take, Nat.min_self, @List.drop_eq_nil_of_le _ (es.take i) _ (by simp; omega)]; simp
theorem ins2 {es : List (List IV)} {v : List IV} {i : Nat} (hi : i ≤ es.length) : (es.take i ++ [v]).take (i + 1) ++ ((es.drop i).take (es.length - i) ++ (es.take i ++ [v]).drop (i + 1 + (es.length - i))) = es.take i ++ v :: es.drop i := by
  rw [List.take_of_length_le (l := es.take i ++ [v]) (by simp; omega), @List.drop_eq_nil_of_le _ (es.take i ++ [v]) _ (by simp; omega), List.take_of_length_le (l := es.drop i) (by simp)]; simp
theorem ins3 {es : List (List IV)} {i : Nat} (hi : i ≤ es.length) : es.take (i + 1) ++ ((es.drop i).take (es.length - i) ++ es.drop (i + 1 + (es.length - i))) = es.take (i + 1) ++ es.drop i := by
  rw [@List.drop_eq_nil_of_le _ es (i + 1 + (es.length - i)) (by omega), List.take_of_length_le (l := es.drop i) (by simp)]; simp
theorem ins4 {es : List (List IV)} {v : List IV} {i : Nat} (hi : i < es.length) : (es.take (i + 1) ++ es.drop i).take i ++ (([v].drop 0).take 1 ++ (es.take (i + 1) ++ es.drop i).drop (i + 1)) = es.take i ++ v :: es.drop i := by
  have hl : (es.take (i + 1)).length = i + 1 := by simp; omega
  rw [take1, List.take_append_of_le_length (by omega), List.take_take, Nat.min_eq_left (by omega), List.drop_append_of_le_length (by omega), @List.drop_eq_nil_of_le _ (es.take (i + 1)) _ (by omega)]
  simp
theorem ins5 {es : List (List IV)} {v : List IV} : es.take es.length ++ (([v].drop 0).take 1 ++ es.drop (es.length + 1)) = es.take es.length ++ v :: es.drop es.length := by
  rw [take1, @List.drop_eq_nil_of_le _ es (es.length + 1) (by omega)]; simp
theorem ins6 {es : List (List IV)} {v : List IV} : es.take es.length ++ ([v].drop 0).take 1 = es.take es.length ++ v :: es.drop es.length := by simp
set_option maxRecDepth 100000 in
set_option maxHeartbeats 8000000 in
theorem insertS_any (es : List (List IV)) (v : List IV) (i : Nat) (hk : ∀ e ∈ es, e.length = 1) (hv : v.length = 1) (hne : es ≠ []) (hi : i ≤ es.length) (hm : es.length + 1 ≤ maxLen) (hl : (es.length + 1) * 16 ≤ 140737488355328) :
    CallA Tryd.prog 115 [.bsh 1000 0 es.length 1, aI (i : Int), .bsl 1001 0 1 1] [(1000, ⟨9, .r es.flatten 0⟩), (1001, ⟨9, .r [v].flatten 0⟩)] [(1002, ⟨9, .r (es.take i ++ v :: es.drop i).flatten 0⟩), (1000, ⟨9, .l []⟩), (1001, ⟨9, .l []⟩)] [] (.bsh 1002 0 (es.length + 1) 1) := by
  have hfl := flatten_len es hk
  have hpos : 0 < es.length := List.length_pos_iff.2 hne
  have hfne := flat_ne hk (by decide) hne
  have hkv : ∀ e ∈ [v], e.length = 1 := by simpa using hv
  have hvl : [v].flatten.length = 1 := by simpa using hv
  have hki := mem_ins (i := i) hk hv
  have hli := len_ins (v := v) hi
  have hkt : ∀ e ∈ es.take i, e.length = 1 := mem_take_len hk
  have hlt : (es.take i).length = i := by simp; omega
  have hft := flatten_len _ hkt
  have hk1 : ∀ e ∈ es.take i ++ [v], e.length = 1 := len_app hkt hkv
  have hl1 : (es.take i ++ [v]).length = i + 1 := by simp; omega
  have hk3 : ∀ e ∈ es.take (i + 1) ++ es.drop i, e.length = 1 := len_app (mem_take_len hk) (mem_drop_len hk)
  have h1v : [v].length = 1 := rfl
  have hl3 : i < es.length → (es.take (i + 1) ++ es.drop i).length = es.length + 1 := fun h => by simp; omega
  refine CallA.intro _ Tryd.func115 rfl Tryd.ntmps115 rfl (fun w0 E0 => ?_)
  refine L.openRow 0 rfl rfl (.inl hfne) (by omega) (fun cap hc1 hc2 => ?_)
  generalize hmm : cap * 1 - es.flatten.length = mm
  have hz : (((1 : Nat) : Int) == 0) = false := rfl
  by_cases hin : i = es.length
  · have hb : (((i : Nat) : Int) == ((es.length : Nat) : Int)) = true := by simp [hin]
    subst hin
    by_cases hroom : es.length + 1 ≤ cap
    · (repeat' (first | (refine LW.is ?_; first | (apply s_vr; exact rfl; apply v_slBl; exact rfl; exact rfl; omega; omega; exact rfl; exact rfl; exact rfl) | (apply s_roomRR (i' := 0); exact rfl; exact rfl; exact rfl; exact rfl; exact rfl; exact .inl hfne; exact hk; exact hkv; exact rfl; exact Nat.le_refl 1; omega; exact hroom; exact Nat.le_refl _; omega; exact ins5; exact rfl; exact rfl) | refine s_v ?_ | refine s_m ?_ | refine s_nil ?_ | refine s_gd ?_ | (refine s_gsplit rfl rfl rfl (fun hb => ?_) (fun hb => ?_) <;> refine fct hb (fun hp => ?_))) | (refine DR.is ?_; first | (apply d_vr; exact rfl; apply v_slBl; exact rfl; exact rfl; omega; omega; exact rfl; exact rfl; exact rfl) | (apply d_roomRR (i' := 0); exact rfl; exact rfl; exact rfl; exact rfl; exact rfl; exact .inl hfne; exact hk; exact hkv; exact rfl; exact Nat.le_refl 1; omega; exact hroom; exact Nat.le_refl _; omega; exact ins5; exact rfl; exact rfl) | refine d_v ?_ | refine d_m ?_ | (apply d_nil; kernel_rfl) | refine d_gd ?_ | (refine d_gsplit rfl rfl rfl (fun hb => ?_) (fun hb => ?_) <;> refine fct hb (fun hp => ?_))) | refine c_go ?_ | refine s_region ?_ | refine d_region ?_ | (refine L.cond rfl (fun hb => ?_) (fun hb => ?_) <;> refine fct hb (fun hp => ?_))))
      all_goals (apply L.renameR 6 1002 (k := 1) (n := es.length + 1); exact rfl; exact rfl; exact rfl; exact hki; exact hli; omega; omega)
      all_goals refine L.kill 1001 rfl (row_ne (.inl (flat_ne hkv (by decide) (by simp)))) ?_
      all_goals (apply L.ends; exact rfl; exact rfl; exact Sub.refl _; exact Wk.mk' (by intro id h; simp [keys] at h; rcases h with rfl | rfl <;> rfl) .nil (.cons rfl rfl (Subs.refl _) (.cons rfl rfl (Subs.refl _) (.cons rfl rfl (Subs.refl _) .nil))) .nil)
    · (repeat' (first | (refine LW.is ?_; first | (apply s_vr; exact rfl; apply v_slBl; exact rfl; exact rfl; omega; omega; exact rfl; exact rfl; exact rfl) | (apply s_growRR 1002 (i' := 0); exact rfl; exact rfl; exact rfl; exact rfl; exact rfl; exact hk; exact hkv; exact rfl; exact Nat.one_pos; exact Nat.le_refl 1; exact Nat.le_refl _; omega; exact hm; exact hl; exact rfl; exact ins6; exact rfl) | refine s_v ?_ | refine s_m ?_ | refine s_nil ?_ | refine s_gd ?_ | (refine s_gsplit rfl rfl rfl (fun hb => ?_) (fun hb => ?_) <;> refine fct hb (fun hp => ?_))) | (refine DR.is ?_; first | (apply d_vr; exact rfl; apply v_slBl; exact rfl; exact rfl; omega; omega; exact rfl; exact rfl; exact rfl) | (apply d_growRR 1002 (i' := 0); exact rfl; exact rfl; exact rfl; exact rfl; exact rfl; exact hk; exact hkv; exact rfl; exact Nat.one_pos; exact Nat.le_refl 1; exact Nat.le_refl _; omega; exact hm; exact hl; exact rfl; exact ins6; exact rfl) | refine d_v ?_ | refine d_m ?_ | (apply d_nil; kernel_rfl) | refine d_gd ?_ | (refine d_gsplit rfl rfl rfl (fun hb => ?_) (fun hb => ?_) <;> refine fct hb (fun hp => ?_))) | refine c_go ?_ | refine s_region ?_ | refine d_region ?_ | (refine L.cond rfl (fun hb => ?_) (fun hb => ?_) <;> refine fct hb (fun hp => ?_))))
      all_goals refine L.kill 1000 rfl (row_ne (.inl hfne)) ?_
      all_goals refine L.kill 1001 rfl (row_ne (.inl (flat_ne hkv (by decide) (by simp)))) ?_
      all_goals (apply L.ends; exact rfl; exact rfl; exact Sub.refl _; exact Wk.mk' (by intro id h; simp [keys] at h; rcases h with rfl | rfl <;> rfl) .nil (.cons rfl rfl (Subs.refl _) (.cons rfl rfl (Subs.refl _) (.cons rfl rfl (Subs.refl _) .nil))) .nil)
  · have hb : (((i : Nat) : Int) == ((es.length : Nat) : Int)) = false := by simp; omega
    have hilt : i < es.length := by omega
    have hl3 := hl3 hilt
    by_cases hroom : es.length + 1 ≤ cap
    · have hb2 : decide ((cap : Int) < (es.length : Int) + ((1 : Nat) : Int)) = false := by simp; omega
      (repeat' (first | (refine LW.is ?_; first | (apply s_vr; exact rfl; apply v_slBl; exact rfl; exact rfl; omega; omega; exact rfl; exact rfl; exact rfl) | (apply s_vr; exact rfl; apply v_slBh; exact rfl; exact rfl; omega; omega; exact rfl) | (apply s_vr; exact rfl; apply v_overlapsR; exact rfl; exact rfl; exact rfl; exact rfl; exact rfl; decide; omega; exact hfne) | (apply s_copyRR (es := es) (es' := es) (i := i + 1) (i' := i) (cnt := es.length - i) (er := es.take (i + 1) ++ es.drop i); exact rfl; exact rfl; exact rfl; exact rfl; exact rfl; exact hk; exact hk; decide; omega; omega; (show min _ _ = _; omega); omega; omega; omega; omega; omega; exact ins3 hi; exact rfl) | (apply s_copyRR (es := es.take (i + 1) ++ es.drop i) (es' := [v]) (i := i) (i' := 0) (cnt := 1) (er := es.take i ++ v :: es.drop i); exact rfl; exact rfl; exact rfl; exact rfl; exact rfl; exact hk3; exact hkv; decide; omega; exact rfl; (show min _ _ = _; omega); decide; omega; omega; (simp; omega); (simp; omega); exact ins4 hilt; exact rfl) | refine s_v ?_ | refine s_m ?_ | refine s_nil ?_ | refine s_gd ?_ | (refine s_gsplit rfl rfl rfl (fun hb => ?_) (fun hb => ?_) <;> refine fct hb (fun hp => ?_))) | (refine DR.is ?_; first | (apply d_vr; exact rfl; apply v_slBl; exact rfl; exact rfl; omega; omega; exact rfl; exact rfl; exact rfl) | (apply d_vr; exact rfl; apply v_slBh; exact rfl; exact rfl; omega; omega; exact rfl) | (apply d_vr; exact rfl; apply v_overlapsR; exact rfl; exact rfl; exact rfl; exact rfl; exact rfl; decide; omega; exact hfne) | (apply d_copyRR (es := es) (es' := es) (i := i + 1) (i' := i) (cnt := es.length - i) (er := es.take (i + 1) ++ es.drop i); exact rfl; exact rfl; exact rfl; exact rfl; exact rfl; exact hk; exact hk; decide; omega; omega; (show min _ _ = _; omega); omega; omega; omega; omega; omega; exact ins3 hi; exact rfl) | (apply d_copyRR (es := es.take (i + 1) ++ es.drop i) (es' := [v]) (i := i) (i' := 0) (cnt := 1) (er := es.take i ++ v :: es.drop i); exact rfl; exact rfl; exact rfl; exact rfl; exact rfl; exact hk3; exact hkv; decide; omega; exact rfl; (show min _ _ = _; omega); decide; omega; omega; (simp; omega); (simp; omega); exact ins4 hilt; exact rfl) | refine d_v ?_ | refine d_m ?_ | (apply d_nil; kernel_rfl) | refine d_gd ?_ | (refine d_gsplit rfl rfl rfl (fun hb => ?_) (fun hb => ?_) <;> refine fct hb (fun hp => ?_))) | refine c_go ?_ | refine s_region ?_ | refine d_region ?_ | (refine L.cond rfl (fun hb => ?_) (fun hb => ?_) <;> refine fct hb (fun hp => ?_))))
      all_goals (apply L.renameR 6 1002 (k := 1) (n := es.length + 1); exact rfl; exact rfl; exact rfl; exact hki; exact hli; omega; omega)
      all_goals refine L.kill 1001 rfl (row_ne (.inl (flat_ne hkv (by decide) (by simp)))) ?_
      all_goals (apply L.ends; exact rfl; exact rfl; exact Sub.refl _; exact Wk.mk' (by intro id h; simp [keys] at h; rcases h with rfl | rfl <;> rfl) .nil (.cons rfl rfl (Subs.refl _) (.cons rfl rfl (Subs.refl _) (.cons rfl rfl (Subs.refl _) .nil))) .nil)
    · have hb2 : decide ((cap : Int) < (es.length : Int) + ((1 : Nat) : Int)) = true := by simp; omega
      (repeat' (first | (refine L.openRow 9 (id := 2000) (n := es.length + 1) (k := 1) (ty := 9) (xs := (es.take i).flatten) (m := (es.length + 1 - i) * 1) rfl rfl (.inr (by omega)) (by omega) (fun cap2 hd1 hd2 => ?_)) | (refine LW.is ?_; first | (apply s_vr; exact rfl; apply v_slBl; exact rfl; exact rfl; omega; omega; exact rfl; exact rfl; exact rfl) | (apply s_vr; exact rfl; apply v_slBh; exact rfl; exact rfl; omega; omega; exact rfl) | (apply s_growRZ 2000 (n := i) (m := es.length + 1 - i) (nr := es.length + 1); exact rfl; exact rfl; exact rfl; omega; exact rfl; exact hk; omega; omega; omega; omega; omega; exact rfl; exact rfl; omega; exact rfl) | (apply s_copyRR (es := es.take i) (es' := [v]) (i := i) (i' := 0) (cnt := 1) (er := es.take i ++ [v]); exact rfl; exact rfl; exact rfl; exact rfl; exact rfl; exact hkt; exact hkv; decide; omega; exact rfl; (show min _ _ = _; omega); decide; omega; omega; omega; omega; exact ins1 hi; exact rfl) | (apply s_copyRR (es := es.take i ++ [v]) (es' := es) (i := i + 1) (i' := i) (cnt := es.length - i) (er := es.take i ++ v :: es.drop i); exact rfl; exact rfl; exact rfl; exact rfl; exact rfl; exact hk1; exact hk; decide; omega; omega; (show min _ _ = _; omega); omega; omega; omega; omega; omega; exact ins2 hi; exact rfl) | refine s_v ?_ | refine s_m ?_ | refine s_nil ?_ | refine s_gd ?_ | (refine s_gsplit rfl rfl rfl (fun hb => ?_) (fun hb => ?_) <;> refine fct hb (fun hp => ?_))) | (refine DR.is ?_; first | (apply d_vr; exact rfl; apply v_slBl; exact rfl; exact rfl; omega; omega; exact rfl; exact rfl; exact rfl) | (apply d_vr; exact rfl; apply v_slBh; exact rfl; exact rfl; omega; omega; exact rfl) | (apply d_growRZ 2000 (n := i) (m := es.length + 1 - i) (nr := es.length + 1); exact rfl; exact rfl; exact rfl; omega; exact rfl; exact hk; omega; omega; omega; omega; omega; exact rfl; exact rfl; omega; exact rfl) | (apply d_copyRR (es := es.take i) (es' := [v]) (i := i) (i' := 0) (cnt := 1) (er := es.take i ++ [v]); exact rfl; exact rfl; exact rfl; exact rfl; exact rfl; exact hkt; exact hkv; decide; omega; exact rfl; (show min _ _ = _; omega); decide; omega; omega; omega; omega; exact ins1 hi; exact rfl) | (apply d_copyRR (es := es.take i ++ [v]) (es' := es) (i := i + 1) (i' := i) (cnt := es.length - i) (er := es.take i ++ v :: es.drop i); exact rfl; exact rfl; exact rfl; exact rfl; exact rfl; exact hk1; exact hk; decide; omega; omega; (show min _ _ = _; omega); omega; omega; omega; omega; omega; exact ins2 hi; exact rfl) | refine d_v ?_ | refine d_m ?_ | (apply d_nil; kernel_rfl) | refine d_gd ?_ | (refine d_gsplit rfl rfl rfl (fun hb => ?_) (fun hb => ?_) <;> refine fct hb (fun hp => ?_))) | refine c_go ?_ | refine s_region ?_ | refine d_region ?_ | (refine L.cond rfl (fun hb => ?_) (fun hb => ?_) <;> refine fct hb (fun hp => ?_))))
      all_goals (apply L.renameR 6 1002 (k := 1) (n := es.length + 1); exact rfl; exact rfl; exact rfl; exact hki; exact hli; omega; omega)
      all_goals refine L.kill 1000 rfl (row_ne (.inl hfne)) ?_
      all_goals refine L.kill 1001 rfl (row_ne (.inl (flat_ne hkv (by decide) (by simp)))) ?_
      all_goals (apply L.ends; exact rfl; exact rfl; exact Sub.refl _; exact Wk.mk' (by intro id h; simp [keys] at h; rcases h with rfl | rfl <;> rfl) .nil (.cons rfl rfl (Subs.refl _) (.cons rfl rfl (Subs.refl _) (.cons rfl rfl (Subs.refl _) .nil))) .nil)
set_option maxRecDepth 100000 in
set_option maxHeartbeats 8000000 in
theorem insertP_any (es : List (List IV)) (v : List IV) (i : Nat) (hk : ∀ e ∈ es, e.length = 2) (hv : v.length = 2) (hne : es ≠ []) (hi : i ≤ es.length) (hm : es.length + 1 ≤ maxLen) (hl : (es.length + 1) * 48 ≤ 140737488355328) :
    CallA Tryd.prog 117 [.bsh 1000 0 es.length 2, aI (i : Int), .bsl 1001 0 1 1] [(1000, ⟨127, .r es.flatten 0⟩), (1001, ⟨127, .r [v].flatten 0⟩)] [(1002, ⟨127, .r (es.take i ++ v :: es.drop i).flatten 0⟩), (1000, ⟨127, .l []⟩), (1001, ⟨127, .l []⟩)] [] (.bsh 1002 0 (es.length + 1) 2) := by
  have hfl := flatten_len es hk
  have hpos : 0 < es.length := List.length_pos_iff.2 hne
  have hfne := flat_ne hk (by decide) hne
  have hkv : ∀ e ∈ [v], e.length = 2 := by simpa using hv
  have hvl : [v].flatten.length = 2 := by simpa using hv
  have hki := mem_ins (i := i) hk hv
  have hli := len_ins (v := v) hi
  have hkt : ∀ e ∈ es.take i, e.length = 2 := mem_take_len hk
  have hlt : (es.take i).length = i := by simp; omega
  have hft := flatten_len _ hkt
  have hk1 : ∀ e ∈ es.take i ++ [v], e.length = 2 := len_app hkt hkv
  have hl1 : (es.take i ++ [v]).length = i + 1 := by simp; omega
  have hk3 : ∀ e ∈ es.take (i + 1) ++ es.drop i, e.length = 2 := len_app (mem_take_len hk) (mem_drop_len hk)
  have h1v : [v].length = 1 := rfl
  have hl3 : i < es.length → (es.take (i + 1) ++ es.drop i).length = es.length + 1 := fun h => by simp; omega
  refine CallA.intro _ Tryd.func117 rfl Tryd.ntmps117 rfl (fun w0 E0 => ?_)
  refine L.openRow 0 rfl rfl (.inl hfne) (by omega) (fun cap hc1 hc2 => ?_)
  generalize hmm : cap * 2 - es.flatten.length = mm
  have hz : (((1 : Nat) : Int) == 0) = false := rfl
  by_cases hin : i = es.length
  · have hb : (((i : Nat) : Int) == ((es.length : Nat) : Int)) = true := by simp [hin]
    subst hin
    by_cases hroom : es.length + 1 ≤ cap
    · (repeat' (first | (refine LW.is ?_; first | (apply s_vr; exact rfl; apply v_slBl; exact rfl; exact rfl; omega; omega; exact rfl; exact rfl; exact rfl) | (apply s_roomRR (i' := 0); exact rfl; exact rfl; exact rfl; exact rfl; exact rfl; exact .inl hfne; exact hk; exact hkv; exact rfl; exact Nat.le_refl 1; omega; exact hroom; exact Nat.le_refl _; omega; exact ins5; exact rfl; exact rfl) | refine s_v ?_ | refine s_m ?_ | refine s_nil ?_ | refine s_gd ?_ | (refine s_gsplit rfl rfl rfl (fun hb => ?_) (fun hb => ?_) <;> refine fct hb (fun hp => ?_))) | (refine DR.is ?_; first | (apply d_vr; exact rfl; apply v_slBl; exact rfl; exact rfl; omega; omega; exact rfl; exact rfl; exact rfl) | (apply d_roomRR (i' := 0); exact rfl; exact rfl; exact rfl; exact rfl; exact rfl; exact .inl hfne; exact hk; exact hkv; exact rfl; exact Nat.le_refl 1; omega; exact hroom; exact Nat.le_refl _; omega; exact ins5; exact rfl; exact rfl) | refine d_v ?_ | refine d_m ?_ | (apply d_nil; kernel_rfl) | refine d_gd ?_ | (refine d_gsplit rfl rfl rfl (fun hb => ?_) (fun hb => ?_) <;> refine fct hb (fun hp => ?_))) | refine c_go ?_ | refine s_region ?_ | refine d_region ?_ | (refine L.cond rfl (fun hb => ?_) (fun hb => ?_) <;> refine fct hb (fun hp => ?_))))
      all_goals (apply L.renameR 6 1002 (k := 2) (n := es.length + 1); exact rfl; exact rfl; exact rfl; exact hki; exact hli; omega; omega)
      all_goals refine L.kill 1001 rfl (row_ne (.inl (flat_ne hkv (by decide) (by simp)))) ?_
      all_goals (apply L.ends; exact rfl; exact rfl; exact Sub.refl _; exact Wk.mk' (by intro id h; simp [keys] at h; rcases h with rfl | rfl <;> rfl) .nil (.cons rfl rfl (Subs.refl _) (.cons rfl rfl (Subs.refl _) (.cons rfl rfl (Subs.refl _) .nil))) .nil)
    · (repeat' (first | (refine LW.is ?_; first | (apply s_vr; exact rfl; apply v_slBl; exact rfl; exact rfl; omega; omega; exact rfl; exact rfl; exact rfl) | (apply s_growRR 1002 (i' := 0); exact rfl; exact rfl; exact rfl; exact rfl; exact rfl; exact hk; exact hkv; exact rfl; exact Nat.one_pos; exact Nat.le_refl 1; exact Nat.le_refl _; omega; exact hm; exact hl; exact rfl; exact ins6; exact rfl) | refine s_v ?_ | refine s_m ?_ | refine s_nil ?_ | refine s_gd ?_ | (refine s_gsplit rfl rfl rfl (fun hb => ?_) (fun hb => ?_) <;> refine fct hb (fun hp => ?_))) | (refine DR.is ?_; first | (apply d_vr; exact rfl; apply v_slBl; exact rfl; exact rfl; omega; omega; exact rfl; exact rfl; exact rfl) | (apply d_growRR 1002 (i' := 0); exact rfl; exact rfl; exact rfl; exact rfl; exact rfl; exact hk; exact hkv; exact rfl; exact Nat.one_pos; exact Nat.le_refl 1; exact Nat.le_refl _; omega; exact hm; exact hl; exact rfl; exact ins6; exact rfl) | refine d_v ?_ | refine d_m ?_ | (apply d_nil; kernel_rfl) | refine d_gd ?_ | (refine d_gsplit rfl rfl rfl (fun hb => ?_) (fun hb => ?_) <;> refine fct hb (fun hp => ?_))) | refine c_go ?_ | refine s_region ?_ | refine d_region ?_ | (refine L.cond rfl (fun hb => ?_) (fun hb => ?_) <;> refine fct hb (fun hp => ?_))))
      all_goals refine L.kill 1000 rfl (row_ne (.inl hfne)) ?_
      all_goals refine L.kill 1001 rfl (row_ne (.inl (flat_ne hkv (by decide) (by simp)))) ?_
      all_goals (apply L.ends; exact rfl; exact rfl; exact Sub.refl _; exact Wk.mk' (by intro id h; simp [keys] at h; rcases h with rfl | rfl <;> rfl) .nil (.cons rfl rfl (Subs.refl _) (.cons rfl rfl (Subs.refl _) (.cons rfl rfl (Subs.refl _) .nil))) .nil)
  · have hb : (((i : Nat) : Int) == ((es.length : Nat) : Int)) = false := by simp; omega
    have hilt : i < es.length := by omega
    have hl3 := hl3 hilt
    by_cases hroom : es.length + 1 ≤ cap
    · have hb2 : decide ((cap : Int) < (es.length : Int) + ((1 : Nat) : Int)) = false := by simp; omega
      (repeat' (first | (refine LW.is ?_; first | (apply s_vr; exact rfl; apply v_slBl; exact rfl; exact rfl; omega; omega; exact rfl; exact rfl; exact rfl) | (apply s_vr; exact rfl; apply v_slBh; exact rfl; exact rfl; omega; omega; exact rfl) | (apply s_vr; exact rfl; apply v_overlapsR; exact rfl; exact rfl; exact rfl; exact rfl; exact rfl; decide; omega; exact hfne) | (apply s_copyRR (es := es) (es' := es) (i := i + 1) (i' := i) (cnt := es.length - i) (er := es.take (i + 1) ++ es.drop i); exact rfl; exact rfl; exact rfl; exact rfl; exact rfl; exact hk; exact hk; decide; omega; omega; (show min _ _ = _; omega); omega; omega; omega; omega; omega; exact ins3 hi; exact rfl) | (apply s_copyRR (es := es.take (i + 1) ++ es.drop i) (es' := [v]) (i := i) (i' := 0) (cnt := 1) (er := es.take i ++ v :: es.drop i); exact rfl; exact rfl; exact rfl; exact rfl; exact rfl; exact hk3; exact hkv; decide; omega; exact rfl; (show min _ _ = _; omega); decide; omega; omega; (simp; omega); (simp; omega); exact ins4 hilt; exact rfl) | refine s_v ?_ | refine s_m ?_ | refine s_nil ?_ | refine s_gd ?_ | (refine s_gsplit rfl rfl rfl (fun hb => ?_) (fun hb => ?_) <;> refine fct hb (fun hp => ?_))) | (refine DR.is ?_; first | (apply d_vr; exact rfl; apply v_slBl; exact rfl; exact rfl; omega; omega; exact rfl; exact rfl; exact rfl) | (apply d_vr; exact rfl; apply v_slBh; exact rfl; exact rfl; omega; omega; exact rfl) | (apply d_vr; exact rfl; apply v_overlapsR; exact rfl; exact rfl; exact rfl; exact rfl; exact rfl; decide; omega; exact hfne) | (apply d_copyRR (es := es) (es' := es) (i := i + 1) (i' := i) (cnt := es.length - i) (er := es.take (i + 1) ++ es.drop i); exact rfl; exact rfl; exact rfl; exact rfl; exact rfl; exact hk; exact hk; decide; omega; omega; (show min _ _ = _; omega); omega; omega; omega; omega; omega; exact ins3 hi; exact rfl) | (apply d_copyRR (es := es.take (i + 1) ++ es.drop i) (es' := [v]) (i := i) (i' := 0) (cnt := 1) (er := es.take i ++ v :: es.drop i); exact rfl; exact rfl; exact rfl; exact rfl; exact rfl; exact hk3; exact hkv; decide; omega; exact rfl; (show min _ _ = _; omega); decide; omega; omega; (simp; omega); (simp; omega); exact ins4 hilt; exact rfl) | refine d_v ?_ | refine d_m ?_ | (apply d_nil; kernel_rfl) | refine d_gd ?_ | (refine d_gsplit rfl rfl rfl (fun hb => ?_) (fun hb => ?_) <;> refine fct hb (fun hp => ?_))) | refine c_go ?_ | refine s_region ?_ | refine d_region ?_ | (refine L.cond rfl (fun hb => ?_) (fun hb => ?_) <;> refine fct hb (fun hp => ?_))))
      all_goals (apply L.renameR 6 1002 (k := 2) (n := es.length + 1); exact rfl; exact rfl; exact rfl; exact hki; exact hli; omega; omega)
      all_goals refine L.kill 1001 rfl (row_ne (.inl (flat_ne hkv (by decide) (by simp)))) ?_
      all_goals (apply L.ends; exact rfl; exact rfl; exact Sub.refl _; exact Wk.mk' (by intro id h; simp [keys] at h; rcases h with rfl | rfl <;> rfl) .nil (.cons rfl rfl (Subs.refl _) (.cons rfl rfl (Subs.refl _) (.cons rfl rfl (Subs.refl _) .nil))) .nil)
    · have hb2 : decide ((cap : Int) < (es.length : Int) + ((1 : Nat) : Int)) = true := by simp; omega
      (repeat' (first | (refine L.openRow 9 (id := 2000) (n := es.length + 1) (k := 2) (ty := 127) (xs := (es.take i).flatten) (m := (es.length + 1 - i) * 2) rfl rfl (.inr (by omega)) (by omega) (fun cap2 hd1 hd2 => ?_)) | (refine LW.is ?_; first | (apply s_vr; exact rfl; apply v_slBl; exact rfl; exact rfl; omega; omega; exact rfl; exact rfl; exact rfl) | (apply s_vr; exact rfl; apply v_slBh; exact rfl; exact rfl; omega; omega; exact rfl) | (apply s_growRZ 2000 (n := i) (m := es.length + 1 - i) (nr := es.length + 1); exact rfl; exact rfl; exact rfl; omega; exact rfl; exact hk; omega; omega; omega; omega; omega; exact rfl; exact rfl; omega; exact rfl) | (apply s_copyRR (es := es.take i) (es' := [v]) (i := i) (i' := 0) (cnt := 1) (er := es.take i ++ [v]); exact rfl; exact rfl; exact rfl; exact rfl; exact rfl; exact hkt; exact hkv; decide; omega; exact rfl; (show min _ _ = _; omega); decide; omega; omega; omega; omega; exact ins1 hi; exact rfl) | (apply s_copyRR (es := es.take i ++ [v]) (es' := es) (i := i + 1) (i' := i) (cnt := es.length - i) (er := es.take i ++ v :: es.drop i); exact rfl; exact rfl; exact rfl; exact rfl; exact rfl; exact hk1; exact hk; decide; omega; omega; (show min _ _ = _; omega); omega; omega; omega; omega; omega; exact ins2 hi; exact rfl) | refine s_v ?_ | refine s_m ?_ | refine s_nil ?_ | refine s_gd ?_ | (refine s_gsplit rfl rfl rfl (fun hb => ?_) (fun hb => ?_) <;> refine fct hb (fun hp => ?_))) | (refine DR.is ?_; first | (apply d_vr; exact rfl; apply v_slBl; exact rfl; exact rfl; omega; omega; exact rfl; exact rfl; exact rfl) | (apply d_vr; exact rfl; apply v_slBh; exact rfl; exact rfl; omega; omega; exact rfl) | (apply d_growRZ 2000 (n := i) (m := es.length + 1 - i) (nr := es.length + 1); exact rfl; exact rfl; exact rfl; omega; exact rfl; exact hk; omega; omega; omega; omega; omega; exact rfl; exact rfl; omega; exact rfl) | (apply d_copyRR (es := es.take i) (es' := [v]) (i := i) (i' := 0) (cnt := 1) (er := es.take i ++ [v]); exact rfl; exact rfl; exact rfl; exact rfl; exact rfl; exact hkt; exact hkv; decide; omega; exact rfl; (show min _ _ = _; omega); decide; omega; omega; omega; omega; exact ins1 hi; exact rfl) | (apply d_copyRR (es := es.take i ++ [v]) (es' := es) (i := i + 1) (i' := i) (cnt := es.length - i) (er := es.take i ++ v :: es.drop i); exact rfl; exact rfl; exact rfl; exact rfl; exact rfl; exact hk1; exact hk; decide; omega; omega; (show min _ _ = _; omega); omega; omega; omega; omega; omega; exact ins2 hi; exact rfl) | refine d_v ?_ | refine d_m ?_ | (apply d_nil; kernel_rfl) | refine d_gd ?_ | (refine d_gsplit rfl rfl rfl (fun hb => ?_) (fun hb => ?_) <;> refine fct hb (fun hp => ?_))) | refine c_go ?_ | refine s_region ?_ | refine d_region ?_ | (refine L.cond rfl (fun hb => ?_) (fun hb => ?_) <;> refine fct hb (fun hp => ?_))))
      all_goals (apply L.renameR 6 1002 (k := 2) (n := es.length + 1); exact rfl; exact rfl; exact rfl; exact hki; exact hli; omega; omega)
      all_goals refine L.kill 1000 rfl (row_ne (.inl hfne)) ?_
      all_goals refine L.kill 1001 rfl (row_ne (.inl (flat_ne hkv (by decide) (by simp)))) ?_
      all_goals (apply L.ends; exact rfl; exact rfl; exact Sub.refl _; exact Wk.mk' (by intro id h; simp [keys] at h; rcases h with rfl | rfl <;> rfl) .nil (.cons rfl rfl (Subs.refl _) (.cons rfl rfl (Subs.refl _) (.cons rfl rfl (Subs.refl _) .nil))) .nil)
end Go.Proofs.YthkobnpogigkiaaDoor
/- Trees: what slices.Delete computes of one element: a row of one's own with one element less. Conditions: the place is within. -/
namespace Go.Proofs.YthkobnpogigkiaaDoor
open Go.Abs
set_option maxRecDepth 100000
attribute [local irreducible] L Code.wp bodyPost Exit.then Exit.inBlock
set_option linter.unusedVariables false
set_option linter.unusedSimpArgs false
end Go.Proofs.YthkobnpogigkiaaDoor
/- Trees: what page and Put compute. Conditions: the tree is good; how much there is of what comes in. -/
namespace Go.Proofs.YthkobnpogigkiaaDoor
open Go.Abs
set_option maxRecDepth 100000
attribute [local irreducible] L Code.wp bodyPost Exit.then Exit.inBlock
set_option linter.unusedVariables false
set_option linter.unusedSimpArgs false
def insAt {α : Type} (l : List α) (i : Nat) (a : α) : List α := l.take i ++ a :: l.drop i
theorem insAt_len {α : Type} {l : List α} {i : Nat} {a : α} (hi : i ≤ l.length) : (insAt l i a).length = l.length + 1 := by simp [insAt]; omega
theorem insAt_map {α β : Type} (f : α → β) (l : List α) (i : Nat) (a : α) : (insAt l i a).map f = (l.map f).take i ++ f a :: (l.map f).drop i := by simp [insAt, List.map_take, List.map_drop]
theorem lenS1 (ks : List Str) : ∀ e ∈ ks.map Str.c, e.length = 1 := fun e he => by
  obtain ⟨s, _, rfl⟩ := List.mem_map.1 he; rfl
theorem lenP2 (ps : List Pg) : ∀ e ∈ ps.map Pg.c, e.length = 2 := fun e he => by
  obtain ⟨s, _, rfl⟩ := List.mem_map.1 he; rfl
theorem map_ne {α β : Type} {f : α → β} {l : List α} (h : l ≠ []) : l.map f ≠ [] := by simpa using h
theorem maxL : maxLen = 9223372036854775807 := rfl
theorem cloneS_str (ks : List Str) (hne : ks ≠ []) (hl : ks.length ≤ 1000) :
    CallA Tryd.prog 116 [.iv (.sl (ks.map Str.c))] [] [(1000, ⟨9, .r (ks.map Str.c).flatten 0⟩)] [] (.bsh 1000 0 ks.length 1) := by
  have := cloneS_any (ks.map Str.c) (lenS1 ks) (map_ne hne) (by rw [List.length_map, maxL]; omega) (by rw [List.length_map]; omega)
  rw [List.length_map] at this; exact this
theorem cloneP_pg (ps : List Pg) (hne : ps ≠ []) (hl : ps.length * 48 ≤ 140737488355328) :
    CallA Tryd.prog 107 [.iv (.sl (ps.map Pg.c))] [] [(1000, ⟨127, .r (ps.map Pg.c).flatten 0⟩)] [] (.bsh 1000 0 ps.length 2) := by
  have := cloneP_any (ps.map Pg.c) (lenP2 ps) (map_ne hne) (by rw [List.length_map, maxL]; omega) (by rw [List.length_map]; omega)
  rw [List.length_map] at this; exact this
theorem insertS_str (ks : List Str) (key : Str) (i : Nat) (a : Int) (ha : a = i) (hne : ks ≠ []) (hi : i ≤ ks.length) (hl : ks.length ≤ 1000) :
    CallA Tryd.prog 115 [.bsh 1000 0 ks.length 1, aI a, .bsl 1001 0 1 1] [(1000, ⟨9, .r (ks.map Str.c).flatten 0⟩), (1001, ⟨9, .r [[S key]].flatten 0⟩)] [(1002, ⟨9, .r ((insAt ks i key).map Str.c).flatten 0⟩), (1000, ⟨9, .l []⟩), (1001, ⟨9, .l []⟩)] [] (.bsh 1002 0 (insAt ks i key).length 1) := by
  have := insertS_any (ks.map Str.c) [S key] i (lenS1 ks) rfl (map_ne hne) (by rw [List.length_map]; exact hi) (by rw [List.length_map, maxL]; omega) (by rw [List.length_map]; omega)
  rw [List.length_map, ← insAt_len hi (a := key)] at this
  rw [insAt_map, ha]; exact this
theorem insertP_pg (ps : List Pg) (y : Pg) (i : Nat) (a : Int) (ha : a = i) (hne : ps ≠ []) (hi : i ≤ ps.length) (hl : (ps.length + 1) * 48 ≤ 140737488355328) :
    CallA Tryd.prog 117 [.bsh 1000 0 ps.length 2, aI a, .bsl 1001 0 1 1] [(1000, ⟨127, .r (ps.map Pg.c).flatten 0⟩), (1001, ⟨127, .r [Pg.c y].flatten 0⟩)] [(1002, ⟨127, .r ((insAt ps i y).map Pg.c).flatten 0⟩), (1000, ⟨127, .l []⟩), (1001, ⟨127, .l []⟩)] [] (.bsh 1002 0 (insAt ps i y).length 2) := by
  have := insertP_any (ps.map Pg.c) (Pg.c y) i (lenP2 ps) rfl (map_ne hne) (by rw [List.length_map]; exact hi) (by rw [List.length_map, maxL]; omega) (by rw [List.length_map]; exact hl)
  rw [List.length_map, ← insAt_len hi (a := y)] at this
  rw [insAt_map, ha]; exact this
set_option maxRecDepth 100000 in
set_option maxHeartbeats 4000000 in
theorem page_any (p : Pg) (hk : p.ks ≠ []) (hv : p.vs ≠ []) (h1 : p.ks.length ≤ 1000) (h2 : p.vs.length ≤ 1000) :
    CallA Tryd.prog 108 [.agg [.iv (.sl (p.ks.map Str.c)), .iv (.sl (p.vs.map Str.c))]] [] [(1000, ⟨9, .r (p.ks.map Str.c).flatten 0⟩), (1001, ⟨9, .r (p.vs.map Str.c).flatten 0⟩)] [] (.agg [.bsh 1000 0 p.ks.length 1, .bsh 1001 0 p.vs.length 1]) := by
  have h : CallA Tryd.prog 108 [.agg [.iv (.sl (p.ks.map Str.c)), .iv (.sl (p.vs.map Str.c))]] [] [(5, ⟨9, .r (p.ks.map Str.c).flatten 0⟩), (8, ⟨9, .r (p.vs.map Str.c).flatten 0⟩)] [] (.agg [.bsh 5 0 p.ks.length 1, .bsh 8 0 p.vs.length 1]) := by
    refine CallA.intro _ Tryd.func108 rfl Tryd.ntmps108 rfl (fun w0 E0 => ?_)
    (repeat' (first | (refine LW.is ?_; first | (apply s_call01; exact rfl; exact cloneS_str p.ks hk h1; exact rfl; exact rfl; exact rfl) | (apply s_call01; exact rfl; exact cloneS_str p.vs hv h2; exact rfl; exact rfl; exact rfl) | refine s_v ?_ | refine s_m ?_ | refine s_nil ?_ | refine s_gd ?_ | (refine s_gsplit rfl rfl rfl (fun hb => ?_) (fun hb => ?_) <;> refine fct hb (fun hp => ?_))) | (refine DR.is ?_; first | (apply d_call01; exact rfl; exact cloneS_str p.ks hk h1; exact rfl; exact rfl; exact rfl) | (apply d_call01; exact rfl; exact cloneS_str p.vs hv h2; exact rfl; exact rfl; exact rfl) | refine d_v ?_ | refine d_m ?_ | (apply d_nil; kernel_rfl) | refine d_gd ?_ | (refine d_gsplit rfl rfl rfl (fun hb => ?_) (fun hb => ?_) <;> refine fct hb (fun hp => ?_))) | refine c_go ?_ | refine s_region ?_ | refine d_region ?_ | (refine L.cond rfl (fun hb => ?_) (fun hb => ?_) <;> refine fct hb (fun hp => ?_))))
    all_goals (apply L.ends; exact rfl; exact rfl; exact Sub.refl _; exact Wk.mk' (by intro id h; simp [keys] at h) .nil (.cons rfl rfl (Subs.refl _) (.cons rfl rfl (Subs.refl _) .nil)) .nil)
  exact h.sws [(5, 1000), (8, 1001)] rfl rfl rfl rfl rfl
end Go.Proofs.YthkobnpogigkiaaDoor
