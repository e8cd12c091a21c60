/- Values: what Compare computes. Conditions: none. -/
import Derived.Test.YtanlhpdjgelehaaDoorV5
import Derived.Test.YtanlhpdjgelehaaDoorP1
namespace Go.Proofs.YtanlhpdjgelehaaDoor
open Go.Abs
attribute [local irreducible] L Code.wp bodyPost Exit.then Exit.inBlock
set_option linter.unusedVariables false
set_option linter.unusedSimpArgs false

def cmpI (a b : Int) : Int := if a < b then -1 else if b < a then 1 else 0
def cmpS (a b : List UInt8) : Int := if Op.bytesLess a b then -1 else if Op.bytesLess b a then 1 else 0
def orL : List Int → Int
  | [] => 0
  | x :: l => if x = 0 then orL l else x
def cmpM (v w : Val) : Int := orL [cmpI v.k w.k, cmpI v.n w.n, cmpS v.s w.s]
def cI (n : Int) : List IV := [I n]

theorem nanI_any (a : Int) : CallA Tryd.prog 32 [aI a] [] [] [] (aB false) := by
  refine CallA.intro _ Tryd.func32 rfl Tryd.ntmps32 rfl (fun w0 E0 => ?_)
  (repeat' (first | (refine LW.is ?_; first | (refine s_nil ?_) | (apply s_mvIv; exact rfl; exact rfl) | (apply s_asIv; exact rfl; exact rfl) | (apply s_neqI; exact rfl; exact rfl; exact rfl)) | (refine c_seq ?_) | (refine s_region ?_) | (refine L.thenN ?_) | (refine L.ret ?_)))
  all_goals (first | (apply L.ends1; exact rfl; exact rfl; exact rfl) | (apply L.ends2; exact rfl; exact rfl; exact rfl) | (apply L.ends3; exact rfl; exact rfl; exact rfl) | (apply L.ends1A; exact rfl; exact rfl; exact rfl) | (apply L.ends2A; exact rfl; exact rfl; exact rfl))
  all_goals simp [resOf]
theorem nanS_any (a : List UInt8) : CallA Tryd.prog 33 [aS a] [] [] [] (aB false) := by
  refine CallA.intro _ Tryd.func33 rfl Tryd.ntmps33 rfl (fun w0 E0 => ?_)
  (repeat' (first | (refine LW.is ?_; first | (refine s_nil ?_) | (apply s_mvIv; exact rfl; exact rfl) | (apply s_asIv; exact rfl; exact rfl) | (apply s_neqS; exact rfl; exact rfl; exact rfl)) | (refine c_seq ?_) | (refine s_region ?_) | (refine L.thenN ?_) | (refine L.ret ?_)))
  all_goals (first | (apply L.ends1; exact rfl; exact rfl; exact rfl) | (apply L.ends2; exact rfl; exact rfl; exact rfl) | (apply L.ends3; exact rfl; exact rfl; exact rfl) | (apply L.ends1A; exact rfl; exact rfl; exact rfl) | (apply L.ends2A; exact rfl; exact rfl; exact rfl))
  all_goals simp [resOf]
theorem cmpI_any (a b : Int) : CallA Tryd.prog 24 [aI a, aI b] [] [] [] (aI (cmpI a b)) := by
  refine CallA.intro _ Tryd.func24 rfl Tryd.ntmps24 rfl (fun w0 E0 => ?_)
  (repeat' (first | (refine LW.is ?_; first | ((apply s_call0; exact rfl; rotate_left; exact rfl; rotate_left 3; exact nanI_any _; exact rfl)) | (refine s_nil ?_) | (apply s_mvIv; exact rfl; exact rfl) | (apply s_asIv; exact rfl; exact rfl) | (apply s_lssI; exact rfl; exact rfl; exact rfl) | (apply s_gtrI; exact rfl; exact rfl; exact rfl)) | (refine c_seq ?_) | (refine s_region ?_) | (refine L.thenN ?_) | (refine L.thenR ?_) | (refine L.ret ?_) | (refine L.skip ?_) | (apply c_condF; exact rfl; (first | exact rfl | assumption)) | (refine L.cond rfl (fun hb => ?_) (fun hb => ?_) <;> (have hp := hb; try simp only [decide_eq_true_eq, decide_eq_false_iff_not, beq_iff_eq, beq_eq_false_iff_ne, bne_iff_ne, bne_eq_false_iff_eq, ne_eq, Bool.not_eq_true, Bool.not_eq_false, Bool.not_eq_eq_eq_not, Bool.not_true, Bool.not_false, Bool.or_eq_true, Bool.or_eq_false_iff, Bool.and_eq_true, Bool.and_eq_false_iff, Int.not_lt, Int.not_le] at hp))))
  all_goals (first | (apply L.ends1; exact rfl; exact rfl; exact rfl) | (apply L.ends2; exact rfl; exact rfl; exact rfl) | (apply L.ends3; exact rfl; exact rfl; exact rfl) | (apply L.ends1A; exact rfl; exact rfl; exact rfl) | (apply L.ends2A; exact rfl; exact rfl; exact rfl))
  all_goals simp only [decide_eq_true_eq, decide_eq_false_iff_not] at *
  all_goals simp [resOf, cmpI, *]
theorem less_lt : ∀ (x y : List UInt8), Op.bytesLess x y = decide (x < y) := by
  intro x
  induction x with
  | nil => intro y; cases y <;> simp [Op.bytesLess]
  | cons a x ih =>
    intro y
    cases y with
    | nil => simp [Op.bytesLess]
    | cons b y =>
      unfold Op.bytesLess
      rw [ih y, Bool.eq_iff_iff]
      simp [List.cons_lt_cons_iff]
theorem bytes_gt {a b : List UInt8} : (!(Op.bytesLess a b || a == b)) = Op.bytesLess b a := by
  rw [less_lt, less_lt]
  by_cases h : b < a
  · have h1 : ¬ a < b := List.lt_asymm h
    have h2 : a ≠ b := fun e => by subst e; exact List.lt_irrefl _ h
    simp [h, h1, h2]
  · by_cases h1 : a < b
    · simp [h, h1]
    · have : a = b := List.le_antisymm (List.not_lt.1 h) (List.not_lt.1 h1)
      simp [h, this]
theorem cmpS_any (a b : List UInt8) : CallA Tryd.prog 25 [aS a, aS b] [] [] [] (aI (cmpS a b)) := by
  refine CallA.intro _ Tryd.func25 rfl Tryd.ntmps25 rfl (fun w0 E0 => ?_)
  cases h1 : Op.bytesLess a b with
  | true =>
    (repeat' (first | (refine LW.is ?_; first | ((apply s_call0; exact rfl; rotate_left; exact rfl; rotate_left 3; exact nanS_any _; exact rfl)) | (refine s_nil ?_) | (apply s_mvIv; exact rfl; exact rfl) | (apply s_asIv; exact rfl; exact rfl) | (apply s_lssS; exact rfl; exact rfl; exact rfl)) | (refine c_seq ?_) | (refine s_region ?_) | (refine L.thenN ?_) | (refine L.thenR ?_) | (refine L.ret ?_) | (refine L.skip ?_) | (apply c_condT; exact rfl; (first | exact rfl | assumption)) | (apply c_condF; exact rfl; (first | exact rfl | assumption))))
    all_goals (first | (apply L.ends1; exact rfl; exact rfl; exact rfl) | (apply L.ends2; exact rfl; exact rfl; exact rfl) | (apply L.ends3; exact rfl; exact rfl; exact rfl) | (apply L.ends1A; exact rfl; exact rfl; exact rfl) | (apply L.ends2A; exact rfl; exact rfl; exact rfl))
    all_goals simp [resOf, cmpS, *]
  | false =>
    have h2 : (!(Op.bytesLess a b || a == b)) = Op.bytesLess b a := bytes_gt
    cases h3 : Op.bytesLess b a with
    | true =>
      rw [h3] at h2
      (repeat' (first | (refine LW.is ?_; first | ((apply s_call0; exact rfl; rotate_left; exact rfl; rotate_left 3; exact nanS_any _; exact rfl)) | (refine s_nil ?_) | (apply s_mvIv; exact rfl; exact rfl) | (apply s_asIv; exact rfl; exact rfl) | (apply s_lssS; exact rfl; exact rfl; exact rfl) | (apply s_gtrS; exact rfl; exact rfl; exact rfl)) | (refine c_seq ?_) | (refine s_region ?_) | (refine L.thenN ?_) | (refine L.thenR ?_) | (refine L.ret ?_) | (refine L.skip ?_) | (apply c_condT; exact rfl; (first | exact rfl | assumption)) | (apply c_condF; exact rfl; (first | exact rfl | assumption))))
      all_goals (first | (apply L.ends1; exact rfl; exact rfl; exact rfl) | (apply L.ends2; exact rfl; exact rfl; exact rfl) | (apply L.ends3; exact rfl; exact rfl; exact rfl) | (apply L.ends1A; exact rfl; exact rfl; exact rfl) | (apply L.ends2A; exact rfl; exact rfl; exact rfl))
      all_goals simp [resOf, cmpS, *]
    | false =>
      rw [h3] at h2
      (repeat' (first | (refine LW.is ?_; first | ((apply s_call0; exact rfl; rotate_left; exact rfl; rotate_left 3; exact nanS_any _; exact rfl)) | (refine s_nil ?_) | (apply s_mvIv; exact rfl; exact rfl) | (apply s_asIv; exact rfl; exact rfl) | (apply s_lssS; exact rfl; exact rfl; exact rfl) | (apply s_gtrS; exact rfl; exact rfl; exact rfl)) | (refine c_seq ?_) | (refine s_region ?_) | (refine L.thenN ?_) | (refine L.ret ?_) | (refine L.skip ?_) | (apply c_condF; exact rfl; (first | exact rfl | assumption))))
      all_goals (first | (apply L.ends1; exact rfl; exact rfl; exact rfl) | (apply L.ends2; exact rfl; exact rfl; exact rfl) | (apply L.ends3; exact rfl; exact rfl; exact rfl) | (apply L.ends1A; exact rfl; exact rfl; exact rfl) | (apply L.ends2A; exact rfl; exact rfl; exact rfl))
      all_goals simp [resOf, cmpS, *]

theorem or3_any (vs : List Int) (hl : vs.length ≤ 1000) : CallA Tryd.prog 23 [.iv (.sl (vs.map cI))] [] [] [] (aI (orL vs)) := by
  refine CallA.intro _ Tryd.func23 rfl Tryd.ntmps23 rfl (fun w0 E0 => ?_)
  (repeat' (first | (refine LW.is ?_; first | (refine s_nil ?_) | (apply s_mvIv; exact rfl; exact rfl) | (apply s_asIv; exact rfl; exact rfl) | (apply s_lenSl; exact rfl; exact rfl)) | (refine c_seq ?_) | (refine L.block ?_) | (refine s_region ?_) | (refine L.thenN ?_)))
  refine L.loopP (ι := Nat) (fun i => ⟨[(8, aI (i : Int)), (7, aI ((vs.map cI).length : Int)), (6, .iv (.sl (vs.map cI))), (3, aI 0)], [], []⟩) (fun i => vs.length - i) (fun i => orL vs = orL (vs.drop i)) (i0 := 0) ?_ rfl ?_
  · (refine Wk.mk' (by intro id h; cases h) ?_ ?_ ?_ <;> repeat' (first | exact WkF.nil | exact WkB.nil | exact WkT.nil | (refine WkF.cons rfl (Sub.refl _) ?_) | (refine WkB.cons rfl rfl (Subs.refl _) ?_) | (refine WkT.cons rfl ?_)))
  intro i hi K hK
  cases hv : vs[i]? with
  | none =>
    have hlt := ltF (l := vs.map cI) (getFN hv)
    (repeat' (first | (refine LW.is ?_; first | (refine s_nil ?_) | (apply s_mvIv; exact rfl; exact rfl) | (apply s_asIv; exact rfl; exact rfl) | (apply s_lssI; exact rfl; exact rfl; exact rfl)) | (refine c_seq ?_) | (refine s_region ?_) | (refine L.thenN ?_) | (refine L.thenE ?_) | (refine L.inE ?_) | (refine L.ret ?_) | (refine L.exit ?_) | (apply c_condF; exact rfl; (first | exact rfl | assumption))))
    all_goals (first | (apply L.ends1; exact rfl; exact rfl; exact rfl) | (apply L.ends2; exact rfl; exact rfl; exact rfl) | (apply L.ends3; exact rfl; exact rfl; exact rfl) | (apply L.ends1A; exact rfl; exact rfl; exact rfl) | (apply L.ends2A; exact rfl; exact rfl; exact rfl))
    rw [hi, dropN hv]; rfl
  | some v =>
    have hlt := ltT (l := vs.map cI) (getF hv)
    have hlt' := ltN hv
    rw [dropC hv] at hi
    cases hq : v != 0 with
    | true =>
      (repeat' (first | (refine LW.is ?_; first | (refine s_nil ?_) | (apply s_mvIv; exact rfl; exact rfl) | (apply s_asIv; exact rfl; exact rfl) | (apply s_load1E; exact rfl; exact rfl; exact rfl) | (apply s_neqI; exact rfl; exact rfl; exact rfl) | (apply s_lssI; exact rfl; exact rfl; exact rfl) | (apply s_indexA; exact rfl; exact rfl; exact rfl; (first | omega | decide | (dsimp only; omega)); (exact getM (by assumption)); exact rfl)) | (refine c_seq ?_) | (refine L.block ?_) | (refine s_region ?_) | (refine L.thenN ?_) | (refine L.thenR ?_) | (refine L.inR ?_) | (refine L.ret ?_) | (refine L.skip ?_) | (apply c_condT; exact rfl; (first | exact rfl | assumption))))
      all_goals (first | (apply L.ends1; exact rfl; exact rfl; exact rfl) | (apply L.ends2; exact rfl; exact rfl; exact rfl) | (apply L.ends3; exact rfl; exact rfl; exact rfl) | (apply L.ends1A; exact rfl; exact rfl; exact rfl) | (apply L.ends2A; exact rfl; exact rfl; exact rfl))
      simp at hq
      simp [hi, orL, hq]
    | false =>
      (repeat' (first | (refine LW.is ?_; first | (refine s_nil ?_) | (apply s_mvIv; exact rfl; exact rfl) | (apply s_asIv; exact rfl; exact rfl) | (apply s_load1E; exact rfl; exact rfl; exact rfl) | (apply s_neqI; exact rfl; exact rfl; exact rfl) | (apply s_lssI; exact rfl; exact rfl; exact rfl) | (apply s_addI; exact rfl; exact rfl; exact rfl; (first | omega | decide | (dsimp only; omega)); (first | omega | decide | (dsimp only; omega))) | (apply s_indexA; exact rfl; exact rfl; exact rfl; (first | omega | decide | (dsimp only; omega)); (exact getM (by assumption)); exact rfl)) | (refine c_seq ?_) | (refine L.block ?_) | (refine s_region ?_) | (refine L.thenN ?_) | (refine L.inN ?_) | (refine L.skip ?_) | (apply c_condT; exact rfl; (first | exact rfl | assumption)) | (apply c_condF; exact rfl; (first | exact rfl | assumption))))
      refine hK _ (i + 1) ?_ (by omega) ?_
      · simp at hq
        simp [hi, orL, hq]
      · (refine Wk.mk' (by intro id h; cases h) ?_ ?_ ?_ <;> repeat' (first | exact WkF.nil | exact WkB.nil | exact WkT.nil | (refine WkF.cons rfl (Sub.refl _) ?_) | (refine WkB.cons rfl rfl (Subs.refl _) ?_) | (refine WkT.cons rfl ?_)))

theorem cmp_any (v w : Val) : CallA Tryd.prog 13 [.agg (v.c.map .iv), .agg (w.c.map .iv)] [] [] [] (aI (cmpM v w)) := by
  refine CallA.intro _ Tryd.func13 rfl Tryd.ntmps13 rfl (fun w0 E0 => ?_)
  (repeat' (first | (refine LW.is ?_; first | (refine s_nil ?_) | (apply s_asIv; exact rfl; exact rfl) | (apply s_box; exact rfl; exact rfl; exact rfl; (focus repeat' (first | exact nl_nil rfl | (apply nl_cons; exact rfl) | exact nIm rfl | exact nSl rfl | exact nIv rfl | exact nRow rfl | exact nNil rfl | exact nPtr rfl | exact nAny rfl | exact nIIm rfl | exact nISl rfl | exact rfl)); exact rfl; exact rfl)) | (refine DR.is ?_; first | ((apply d_call0; exact rfl; rotate_left; exact rfl; rotate_left 3; exact cmpI_any _ _; exact rfl)) | ((apply d_call0; exact rfl; rotate_left; exact rfl; rotate_left 3; exact cmpS_any _ _; exact rfl)) | ((apply d_call0; exact rfl; exact or3_any [cmpI v.k w.k, cmpI v.n w.n, cmpS v.s w.s] (by simp); exact rfl; exact rfl)) | (apply d_nil; kernel_rfl) | (apply d_asIv; exact rfl; exact rfl) | (apply d_fieldP; exact rfl; exact rfl; exact rfl) | (apply d_load1P; exact rfl; exact rfl; exact rfl; (apply n_some; exact rfl; (first | exact nIm rfl | exact nSl rfl | exact nIv rfl | exact nRow rfl | exact nNil rfl | exact nPtr rfl | exact nAny rfl | exact rfl))) | (apply d_bslice; exact rfl; exact rfl; exact rfl; exact rfl; exact rfl; (apply n_some; exact rfl; (focus repeat' (first | exact nl_nil rfl | (apply nl_cons; exact rfl) | exact nIm rfl | exact nSl rfl | exact nIv rfl | exact nRow rfl | exact nNil rfl | exact nPtr rfl | exact nAny rfl | exact nIIm rfl | exact nISl rfl | exact rfl))); (apply n_some; exact rfl; (focus repeat' (first | exact nl_nil rfl | (apply nl_cons; exact rfl) | exact nIm rfl | exact nSl rfl | exact nIv rfl | exact nRow rfl | exact nNil rfl | exact nPtr rfl | exact nAny rfl | exact nIIm rfl | exact nISl rfl | exact rfl))); exact rfl; (focus repeat' (first | exact nl_nil rfl | (apply nl_cons; exact rfl) | exact nIm rfl | exact nSl rfl | exact nIv rfl | exact nRow rfl | exact nNil rfl | exact nPtr rfl | exact nAny rfl | exact nIIm rfl | exact nISl rfl | exact rfl)); exact rfl)) | (refine c_seq ?_) | (refine s_region ?_) | (refine d_region ?_) | (refine L.thenN ?_) | (refine L.ret ?_)))
  all_goals (first | (apply L.ends1; exact rfl; exact rfl; exact rfl) | (apply L.ends2; exact rfl; exact rfl; exact rfl) | (apply L.ends3; exact rfl; exact rfl; exact rfl) | (apply L.ends1A; exact rfl; exact rfl; exact rfl) | (apply L.ends2A; exact rfl; exact rfl; exact rfl))
  all_goals rfl
end Go.Proofs.YtanlhpdjgelehaaDoor
