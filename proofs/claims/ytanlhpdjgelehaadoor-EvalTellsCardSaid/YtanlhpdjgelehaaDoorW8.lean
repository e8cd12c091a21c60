/- Expressions, as the reference evaluates them: EvalOf, all cases together. Conditions: the table stands; how much there is of what comes in. -/
import Derived.Test.YtanlhpdjgelehaaDoorW4
import Derived.Test.YtanlhpdjgelehaaDoorW6
import Derived.Test.YtanlhpdjgelehaaDoorW7
namespace Go.Proofs.YtanlhpdjgelehaaDoor
open Go.Abs
attribute [local irreducible] L Code.wp bodyPost Exit.then Exit.inBlock
set_option linter.unusedVariables false
set_option linter.unusedSimpArgs false

set_option maxRecDepth 100000 in
set_option maxHeartbeats 8000000 in
theorem ev_36 (row : List Val) (op : Int) (v : Val) (s name : List UInt8) (n : Int) (h36 : 3 ≤ op ∧ op ≤ 6) (x y : Ex) (a b : Val) (sa : a.s.length ≤ 140737488355328) (sb : b.s.length ≤ 140737488355328) (k0 : CK row op v s name n [x, y] 0 a) (k1 : CK row op v s name n [x, y] 1 b) : CM row op v s name n [x, y] (if a.k ≠ b.k ∨ goodM a = false ∨ goodM b = false ∨ a.k = 0 then nilV else if op = 5 then truthM (numM (cmpM a b == 0)) else if op = 6 then truthM (numM (decide (cmpM a b < 0))) else if a.k ≠ 1 ∨ (op ≠ 3 ∧ op ≠ 4) then nilV else sumM op a b) := by
  by_cases hg : goodM a = true ∧ goodM b = true ∧ a.k = b.k ∧ ¬ a.k = 0
  · obtain ⟨ga, gb, hk, h0⟩ := hg
    rw [if_neg (by
      rintro (h | h | h | h)
      · exact h hk
      · rw [ga] at h; cases h
      · rw [gb] at h; cases h
      · exact h0 h)]
    exact ev_good row op v s name n h36 x y a b sa sb k0 k1 ga gb hk h0
  refine CallG.intro _ Tryd.func17 rfl Tryd.ntmps17 rfl (fun w0 E0 hG => ?_)
  have h7 : op ≠ 7 := by omega
  have h8 : op ≠ 8 := by omega
  have h1 : op ≠ 1 := by omega
  have h2 : op ≠ 2 := by omega
  have q1 : (op == 1) = false := by simp [h1]
  have q2 : (op == 2) = false := by simp [h2]
  have q7 : (op == 7) = false := by simp [h7]
  have q8 : (op == 8) = false := by simp [h8]
  have q3 : decide (op < 3) = false := by simp; omega
  have q6 : decide ((6 : Int) < op) = false := by simp; omega
  have q9 : (op == 9) = false := by simp; omega
  have q10 : (op == 10) = false := by simp; omega
  cases ga : goodM a with
  | false =>
    rw [if_pos (.inr (.inl rfl))]
    have qa : (!goodM a) = true := by rw [ga]; rfl
    (repeat' (first | ((apply s_makeFunc; exact rfl; exact rfl)) | ((apply s_callFn (f := 30) (avs := [aI ((0 : Nat) : Int)]); exact rfl; exact hG; exact rfl; exact k0; exact rfl; exact (.cons rfl rfl (Subs.refl _) (.cons rfl rfl (Subs.refl _) .nil)); exact rfl; exact rfl)) | ((apply s_callFn (f := 30) (avs := [aI ((1 : Nat) : Int)]); exact rfl; exact hG; exact rfl; exact k1; exact rfl; exact (.cons rfl rfl (Subs.refl _) (.cons rfl rfl (Subs.refl _) .nil)); exact rfl; exact rfl)) | (refine LW.is ?_; first | ((apply s_call0; exact rfl; rotate_left; exact rfl; rotate_left 3; exact isval_any a sa; exact rfl)) | (refine s_nil ?_) | (apply s_mvIv; exact rfl; exact rfl) | (apply s_mvFn; exact rfl; exact rfl) | (apply s_asIv; exact rfl; exact rfl) | (apply s_asFn; exact rfl; exact rfl) | (apply s_fieldP; exact rfl; exact rfl; exact rfl) | (apply s_load1P; exact rfl; exact rfl; exact rfl; (apply n_some; exact rfl; (first | exact nIm rfl | exact nSl rfl | exact nIv rfl | exact nRow rfl | exact nNil rfl | exact nPtr rfl | exact nAny rfl | exact rfl))) | (apply s_loadAP; exact rfl; exact rfl; exact rfl; (focus repeat' (first | exact nl_nil rfl | (apply nl_cons; exact rfl) | exact nIm rfl | exact nSl rfl | exact nIv rfl | exact nRow rfl | exact nNil rfl | exact nPtr rfl | exact nAny rfl | exact nIIm rfl | exact nISl rfl | exact rfl)); exact rfl) | (apply s_lenSl; exact rfl; exact rfl) | (apply s_eqlI; exact rfl; exact rfl; exact rfl) | (apply s_neqI; exact rfl; exact rfl; exact rfl) | (apply s_lssI; exact rfl; exact rfl; exact rfl) | (apply s_gtrI; exact rfl; exact rfl; exact rfl) | (apply s_not; exact rfl; exact rfl) | (apply s_box; exact rfl; exact rfl; exact rfl; (focus repeat' (first | exact nl_nil rfl | (apply nl_cons; exact rfl) | exact nIm rfl | exact nSl rfl | exact nIv rfl | exact nRow rfl | exact nNil rfl | exact nPtr rfl | exact nAny rfl | exact nIIm rfl | exact nISl rfl | exact rfl)); exact rfl; exact rfl) | (apply s_alloc; exact rfl; exact rfl; (focus repeat' (first | exact nl_nil rfl | (apply nl_cons; exact rfl) | exact nIm rfl | exact nSl rfl | exact nIv rfl | exact nRow rfl | exact nNil rfl | exact nPtr rfl | exact nAny rfl | exact nIIm rfl | exact nISl rfl | exact rfl)); exact rfl; exact rfl) | (apply s_build; exact rfl; exact rfl; (apply n_some; exact rfl; (focus repeat' (first | exact nl_nil rfl | (apply nl_cons; exact rfl) | exact nIm rfl | exact nSl rfl | exact nIv rfl | exact nRow rfl | exact nNil rfl | exact nPtr rfl | exact nAny rfl | exact nIIm rfl | exact nISl rfl | exact rfl)))) | (apply s_store; exact rfl; exact rfl; exact rfl; exact rfl; exact rfl; exact rfl; (focus repeat' (first | exact nl_nil rfl | (apply nl_cons; exact rfl) | exact nIm rfl | exact nSl rfl | exact nIv rfl | exact nRow rfl | exact nNil rfl | exact nPtr rfl | exact nAny rfl | exact nIIm rfl | exact nISl rfl | exact rfl))) | (apply s_gdo; exact rfl; exact rfl; (first | exact rfl | assumption)) | (apply s_gskipT; exact rfl; exact rfl; exact rfl; (first | exact rfl | assumption)) | (apply s_gskipF; exact rfl; exact rfl; exact rfl; (first | exact rfl | assumption)) | (apply s_pickTIv; exact rfl; exact rfl; (first | exact rfl | assumption); exact rfl) | (apply s_pickFIv; exact rfl; exact rfl; (first | exact rfl | assumption); exact rfl)) | (refine c_seq ?_) | (refine L.block ?_) | (refine s_region ?_) | (refine L.thenN ?_) | (refine L.thenR ?_) | (refine L.inN ?_) | (refine L.ret ?_) | (refine L.skip ?_) | (apply c_condT; exact rfl; (first | exact rfl | assumption)) | (apply c_condF; exact rfl; (first | exact rfl | assumption))))
    all_goals (first | (apply L.ends1; exact rfl; exact rfl; exact rfl) | (apply L.ends2; exact rfl; exact rfl; exact rfl) | (apply L.ends3; exact rfl; exact rfl; exact rfl) | (apply L.ends1A; exact rfl; exact rfl; exact rfl) | (apply L.ends2A; exact rfl; exact rfl; exact rfl))
    all_goals kernel_rfl
  | true =>
  have qa : (!goodM a) = false := by rw [ga]; rfl
  cases gb : goodM b with
  | false =>
    rw [if_pos (.inr (.inr (.inl rfl)))]
    have qb : (!goodM b) = true := by rw [gb]; rfl
    (repeat' (first | ((apply s_makeFunc; exact rfl; exact rfl)) | ((apply s_callFn (f := 30) (avs := [aI ((0 : Nat) : Int)]); exact rfl; exact hG; exact rfl; exact k0; exact rfl; exact (.cons rfl rfl (Subs.refl _) (.cons rfl rfl (Subs.refl _) .nil)); exact rfl; exact rfl)) | ((apply s_callFn (f := 30) (avs := [aI ((1 : Nat) : Int)]); exact rfl; exact hG; exact rfl; exact k1; exact rfl; exact (.cons rfl rfl (Subs.refl _) (.cons rfl rfl (Subs.refl _) .nil)); exact rfl; exact rfl)) | (refine LW.is ?_; first | ((apply s_call0; exact rfl; rotate_left; exact rfl; rotate_left 3; exact isval_any a sa; exact rfl)) | ((apply s_call0; exact rfl; rotate_left; exact rfl; rotate_left 3; exact isval_any b sb; exact rfl)) | (refine s_nil ?_) | (apply s_mvIv; exact rfl; exact rfl) | (apply s_mvFn; exact rfl; exact rfl) | (apply s_asIv; exact rfl; exact rfl) | (apply s_asFn; exact rfl; exact rfl) | (apply s_fieldP; exact rfl; exact rfl; exact rfl) | (apply s_load1P; exact rfl; exact rfl; exact rfl; (apply n_some; exact rfl; (first | exact nIm rfl | exact nSl rfl | exact nIv rfl | exact nRow rfl | exact nNil rfl | exact nPtr rfl | exact nAny rfl | exact rfl))) | (apply s_loadAP; exact rfl; exact rfl; exact rfl; (focus repeat' (first | exact nl_nil rfl | (apply nl_cons; exact rfl) | exact nIm rfl | exact nSl rfl | exact nIv rfl | exact nRow rfl | exact nNil rfl | exact nPtr rfl | exact nAny rfl | exact nIIm rfl | exact nISl rfl | exact rfl)); exact rfl) | (apply s_lenSl; exact rfl; exact rfl) | (apply s_eqlI; exact rfl; exact rfl; exact rfl) | (apply s_neqI; exact rfl; exact rfl; exact rfl) | (apply s_lssI; exact rfl; exact rfl; exact rfl) | (apply s_gtrI; exact rfl; exact rfl; exact rfl) | (apply s_not; exact rfl; exact rfl) | (apply s_box; exact rfl; exact rfl; exact rfl; (focus repeat' (first | exact nl_nil rfl | (apply nl_cons; exact rfl) | exact nIm rfl | exact nSl rfl | exact nIv rfl | exact nRow rfl | exact nNil rfl | exact nPtr rfl | exact nAny rfl | exact nIIm rfl | exact nISl rfl | exact rfl)); exact rfl; exact rfl) | (apply s_alloc; exact rfl; exact rfl; (focus repeat' (first | exact nl_nil rfl | (apply nl_cons; exact rfl) | exact nIm rfl | exact nSl rfl | exact nIv rfl | exact nRow rfl | exact nNil rfl | exact nPtr rfl | exact nAny rfl | exact nIIm rfl | exact nISl rfl | exact rfl)); exact rfl; exact rfl) | (apply s_build; exact rfl; exact rfl; (apply n_some; exact rfl; (focus repeat' (first | exact nl_nil rfl | (apply nl_cons; exact rfl) | exact nIm rfl | exact nSl rfl | exact nIv rfl | exact nRow rfl | exact nNil rfl | exact nPtr rfl | exact nAny rfl | exact nIIm rfl | exact nISl rfl | exact rfl)))) | (apply s_store; exact rfl; exact rfl; exact rfl; exact rfl; exact rfl; exact rfl; (focus repeat' (first | exact nl_nil rfl | (apply nl_cons; exact rfl) | exact nIm rfl | exact nSl rfl | exact nIv rfl | exact nRow rfl | exact nNil rfl | exact nPtr rfl | exact nAny rfl | exact nIIm rfl | exact nISl rfl | exact rfl))) | (apply s_gdo; exact rfl; exact rfl; (first | exact rfl | assumption)) | (apply s_gskipT; exact rfl; exact rfl; exact rfl; (first | exact rfl | assumption)) | (apply s_gskipF; exact rfl; exact rfl; exact rfl; (first | exact rfl | assumption)) | (apply s_pickTIv; exact rfl; exact rfl; (first | exact rfl | assumption); exact rfl) | (apply s_pickFIv; exact rfl; exact rfl; (first | exact rfl | assumption); exact rfl)) | (refine c_seq ?_) | (refine L.block ?_) | (refine s_region ?_) | (refine L.thenN ?_) | (refine L.thenR ?_) | (refine L.inN ?_) | (refine L.ret ?_) | (refine L.skip ?_) | (apply c_condT; exact rfl; (first | exact rfl | assumption)) | (apply c_condF; exact rfl; (first | exact rfl | assumption))))
    all_goals (first | (apply L.ends1; exact rfl; exact rfl; exact rfl) | (apply L.ends2; exact rfl; exact rfl; exact rfl) | (apply L.ends3; exact rfl; exact rfl; exact rfl) | (apply L.ends1A; exact rfl; exact rfl; exact rfl) | (apply L.ends2A; exact rfl; exact rfl; exact rfl))
    all_goals kernel_rfl
  | true =>
  have qb : (!goodM b) = false := by rw [gb]; rfl
  by_cases hk : a.k = b.k
  case neg =>
    rw [if_pos (.inl hk)]
    have qk : (a.k != b.k) = true := by simp [hk]
    (repeat' (first | ((apply s_makeFunc; exact rfl; exact rfl)) | ((apply s_callFn (f := 30) (avs := [aI ((0 : Nat) : Int)]); exact rfl; exact hG; exact rfl; exact k0; exact rfl; exact (.cons rfl rfl (Subs.refl _) (.cons rfl rfl (Subs.refl _) .nil)); exact rfl; exact rfl)) | ((apply s_callFn (f := 30) (avs := [aI ((1 : Nat) : Int)]); exact rfl; exact hG; exact rfl; exact k1; exact rfl; exact (.cons rfl rfl (Subs.refl _) (.cons rfl rfl (Subs.refl _) .nil)); exact rfl; exact rfl)) | (refine LW.is ?_; first | ((apply s_call0; exact rfl; rotate_left; exact rfl; rotate_left 3; exact isval_any a sa; exact rfl)) | ((apply s_call0; exact rfl; rotate_left; exact rfl; rotate_left 3; exact isval_any b sb; exact rfl)) | (refine s_nil ?_) | (apply s_mvIv; exact rfl; exact rfl) | (apply s_mvFn; exact rfl; exact rfl) | (apply s_asIv; exact rfl; exact rfl) | (apply s_asFn; exact rfl; exact rfl) | (apply s_fieldP; exact rfl; exact rfl; exact rfl) | (apply s_load1P; exact rfl; exact rfl; exact rfl; (apply n_some; exact rfl; (first | exact nIm rfl | exact nSl rfl | exact nIv rfl | exact nRow rfl | exact nNil rfl | exact nPtr rfl | exact nAny rfl | exact rfl))) | (apply s_loadAP; exact rfl; exact rfl; exact rfl; (focus repeat' (first | exact nl_nil rfl | (apply nl_cons; exact rfl) | exact nIm rfl | exact nSl rfl | exact nIv rfl | exact nRow rfl | exact nNil rfl | exact nPtr rfl | exact nAny rfl | exact nIIm rfl | exact nISl rfl | exact rfl)); exact rfl) | (apply s_lenSl; exact rfl; exact rfl) | (apply s_eqlI; exact rfl; exact rfl; exact rfl) | (apply s_neqI; exact rfl; exact rfl; exact rfl) | (apply s_lssI; exact rfl; exact rfl; exact rfl) | (apply s_gtrI; exact rfl; exact rfl; exact rfl) | (apply s_not; exact rfl; exact rfl) | (apply s_box; exact rfl; exact rfl; exact rfl; (focus repeat' (first | exact nl_nil rfl | (apply nl_cons; exact rfl) | exact nIm rfl | exact nSl rfl | exact nIv rfl | exact nRow rfl | exact nNil rfl | exact nPtr rfl | exact nAny rfl | exact nIIm rfl | exact nISl rfl | exact rfl)); exact rfl; exact rfl) | (apply s_alloc; exact rfl; exact rfl; (focus repeat' (first | exact nl_nil rfl | (apply nl_cons; exact rfl) | exact nIm rfl | exact nSl rfl | exact nIv rfl | exact nRow rfl | exact nNil rfl | exact nPtr rfl | exact nAny rfl | exact nIIm rfl | exact nISl rfl | exact rfl)); exact rfl; exact rfl) | (apply s_build; exact rfl; exact rfl; (apply n_some; exact rfl; (focus repeat' (first | exact nl_nil rfl | (apply nl_cons; exact rfl) | exact nIm rfl | exact nSl rfl | exact nIv rfl | exact nRow rfl | exact nNil rfl | exact nPtr rfl | exact nAny rfl | exact nIIm rfl | exact nISl rfl | exact rfl)))) | (apply s_store; exact rfl; exact rfl; exact rfl; exact rfl; exact rfl; exact rfl; (focus repeat' (first | exact nl_nil rfl | (apply nl_cons; exact rfl) | exact nIm rfl | exact nSl rfl | exact nIv rfl | exact nRow rfl | exact nNil rfl | exact nPtr rfl | exact nAny rfl | exact nIIm rfl | exact nISl rfl | exact rfl))) | (apply s_gdo; exact rfl; exact rfl; (first | exact rfl | assumption)) | (apply s_gskipT; exact rfl; exact rfl; exact rfl; (first | exact rfl | assumption)) | (apply s_gskipF; exact rfl; exact rfl; exact rfl; (first | exact rfl | assumption)) | (apply s_pickTIv; exact rfl; exact rfl; (first | exact rfl | assumption); exact rfl) | (apply s_pickFIv; exact rfl; exact rfl; (first | exact rfl | assumption); exact rfl)) | (refine c_seq ?_) | (refine L.block ?_) | (refine s_region ?_) | (refine L.thenN ?_) | (refine L.thenR ?_) | (refine L.inN ?_) | (refine L.ret ?_) | (refine L.skip ?_) | (apply c_condT; exact rfl; (first | exact rfl | assumption)) | (apply c_condF; exact rfl; (first | exact rfl | assumption))))
    all_goals (first | (apply L.ends1; exact rfl; exact rfl; exact rfl) | (apply L.ends2; exact rfl; exact rfl; exact rfl) | (apply L.ends3; exact rfl; exact rfl; exact rfl) | (apply L.ends1A; exact rfl; exact rfl; exact rfl) | (apply L.ends2A; exact rfl; exact rfl; exact rfl))
    all_goals kernel_rfl
  have qk : (a.k != b.k) = false := by simp [hk]
  by_cases h0 : a.k = 0
  · rw [if_pos (.inr (.inr (.inr h0)))]
    have q0 : (a.k == 0) = true := by simp [h0]
    (repeat' (first | ((apply s_makeFunc; exact rfl; exact rfl)) | ((apply s_callFn (f := 30) (avs := [aI ((0 : Nat) : Int)]); exact rfl; exact hG; exact rfl; exact k0; exact rfl; exact (.cons rfl rfl (Subs.refl _) (.cons rfl rfl (Subs.refl _) .nil)); exact rfl; exact rfl)) | ((apply s_callFn (f := 30) (avs := [aI ((1 : Nat) : Int)]); exact rfl; exact hG; exact rfl; exact k1; exact rfl; exact (.cons rfl rfl (Subs.refl _) (.cons rfl rfl (Subs.refl _) .nil)); exact rfl; exact rfl)) | (refine LW.is ?_; first | ((apply s_call0; exact rfl; rotate_left; exact rfl; rotate_left 3; exact isval_any a sa; exact rfl)) | ((apply s_call0; exact rfl; rotate_left; exact rfl; rotate_left 3; exact isval_any b sb; exact rfl)) | (refine s_nil ?_) | (apply s_mvIv; exact rfl; exact rfl) | (apply s_mvFn; exact rfl; exact rfl) | (apply s_asIv; exact rfl; exact rfl) | (apply s_asFn; exact rfl; exact rfl) | (apply s_fieldP; exact rfl; exact rfl; exact rfl) | (apply s_load1P; exact rfl; exact rfl; exact rfl; (apply n_some; exact rfl; (first | exact nIm rfl | exact nSl rfl | exact nIv rfl | exact nRow rfl | exact nNil rfl | exact nPtr rfl | exact nAny rfl | exact rfl))) | (apply s_loadAP; exact rfl; exact rfl; exact rfl; (focus repeat' (first | exact nl_nil rfl | (apply nl_cons; exact rfl) | exact nIm rfl | exact nSl rfl | exact nIv rfl | exact nRow rfl | exact nNil rfl | exact nPtr rfl | exact nAny rfl | exact nIIm rfl | exact nISl rfl | exact rfl)); exact rfl) | (apply s_lenSl; exact rfl; exact rfl) | (apply s_eqlI; exact rfl; exact rfl; exact rfl) | (apply s_neqI; exact rfl; exact rfl; exact rfl) | (apply s_lssI; exact rfl; exact rfl; exact rfl) | (apply s_gtrI; exact rfl; exact rfl; exact rfl) | (apply s_not; exact rfl; exact rfl) | (apply s_box; exact rfl; exact rfl; exact rfl; (focus repeat' (first | exact nl_nil rfl | (apply nl_cons; exact rfl) | exact nIm rfl | exact nSl rfl | exact nIv rfl | exact nRow rfl | exact nNil rfl | exact nPtr rfl | exact nAny rfl | exact nIIm rfl | exact nISl rfl | exact rfl)); exact rfl; exact rfl) | (apply s_alloc; exact rfl; exact rfl; (focus repeat' (first | exact nl_nil rfl | (apply nl_cons; exact rfl) | exact nIm rfl | exact nSl rfl | exact nIv rfl | exact nRow rfl | exact nNil rfl | exact nPtr rfl | exact nAny rfl | exact nIIm rfl | exact nISl rfl | exact rfl)); exact rfl; exact rfl) | (apply s_build; exact rfl; exact rfl; (apply n_some; exact rfl; (focus repeat' (first | exact nl_nil rfl | (apply nl_cons; exact rfl) | exact nIm rfl | exact nSl rfl | exact nIv rfl | exact nRow rfl | exact nNil rfl | exact nPtr rfl | exact nAny rfl | exact nIIm rfl | exact nISl rfl | exact rfl)))) | (apply s_store; exact rfl; exact rfl; exact rfl; exact rfl; exact rfl; exact rfl; (focus repeat' (first | exact nl_nil rfl | (apply nl_cons; exact rfl) | exact nIm rfl | exact nSl rfl | exact nIv rfl | exact nRow rfl | exact nNil rfl | exact nPtr rfl | exact nAny rfl | exact nIIm rfl | exact nISl rfl | exact rfl))) | (apply s_gdo; exact rfl; exact rfl; (first | exact rfl | assumption)) | (apply s_gskipT; exact rfl; exact rfl; exact rfl; (first | exact rfl | assumption)) | (apply s_pickFIv; exact rfl; exact rfl; (first | exact rfl | assumption); exact rfl)) | (refine c_seq ?_) | (refine L.block ?_) | (refine s_region ?_) | (refine L.thenN ?_) | (refine L.thenR ?_) | (refine L.inN ?_) | (refine L.ret ?_) | (refine L.skip ?_) | (apply c_condT; exact rfl; (first | exact rfl | assumption)) | (apply c_condF; exact rfl; (first | exact rfl | assumption))))
    all_goals (first | (apply L.ends1; exact rfl; exact rfl; exact rfl) | (apply L.ends2; exact rfl; exact rfl; exact rfl) | (apply L.ends3; exact rfl; exact rfl; exact rfl) | (apply L.ends1A; exact rfl; exact rfl; exact rfl) | (apply L.ends2A; exact rfl; exact rfl; exact rfl))
    all_goals kernel_rfl
  have q0 : (a.k == 0) = false := by simp [h0]
  exact absurd ⟨ga, gb, hk, h0⟩ hg

theorem evalof_any (row : List Val) (hr : ∀ v ∈ row, v.s.length ≤ 140737488355328) : ∀ (e : Ex) (hs : e.Str), CE row e
  | .mk op v s name n l, hs => by
    have ih : ∀ x ∈ l, CE row x := fun x hx => evalof_any row hr x (by cases hs with | mk _ h => exact h x hx)
    have ihs : ∀ x ∈ l, (evalM row x).s.length ≤ 140737488355328 := fun x hx => str_eval row hr x (by cases hs with | mk _ h => exact h x hx)
    unfold CE
    rw [Ex.c_eq, evalM_eq]
    by_cases h1 : op = 1
    · subst h1
      have e : evalOne 1 v n (l.map (evalM row)) row = v := by simp [evalOne]
      rw [e]; exact ev_lit row v s name n l
    by_cases h2 : op = 2
    · subst h2
      rw [evalOne_ref]; exact ev_ref row v s name n l
    rw [evalOne_rest _ _ _ _ h1 h2]
    match l, ih, ihs with
    | [], _, _ => exact ev_nil row op v s name n h1 h2
    | x :: y :: z :: t, _, _ => exact ev_many row op v s name n h1 h2 x y z t
    | [x], ih, _ => exact ev_one row op v s name n h1 h2 x (evalM row x) (clo_any row op v s name n [x] 0 x rfl (ih x (by simp)))
    | [x, y], ih, ihs =>
      have k0 := clo_any row op v s name n [x, y] 0 x rfl (ih x (by simp))
      have k1 := clo_any row op v s name n [x, y] 1 y rfl (ih y (by simp))
      have sa := ihs x (by simp)
      have sb := ihs y (by simp)
      have e : restM op (List.map (evalM row) [x, y]) = twoM op (evalM row x) (evalM row y) := rfl
      rw [e]
      clear e hs ih ihs
      generalize evalM row x = a at k0 sa
      generalize evalM row y = b at k1 sb
      by_cases h7 : op = 7
      · subst h7; exact ev_and row v s name n x y a b sa sb k0 k1
      by_cases h8 : op = 8
      · subst h8; exact ev_or row v s name n x y a b sa sb k0 k1
      rw [twoM, if_neg h7, if_neg h8]
      by_cases h36 : 3 ≤ op ∧ op ≤ 6
      · exact ev_36 row op v s name n h36 x y a b sa sb k0 k1
      · exact ev_out row op v s name n h1 h2 h7 h8 h36 x y a b sa sb k0 k1
 termination_by e => SizeOf.sizeOf e
 decreasing_by
  all_goals
    have := List.sizeOf_lt_of_mem hx
    simp; omega
end Go.Proofs.YtanlhpdjgelehaaDoor
