/- Values: what the small functions of package value compute. Conditions: none. -/
import Derived.Test.YtanlhpdjgelehaaDoorRows
import Derived.Test.YtanlhpdjgelehaaDoorT
namespace Go.Proofs.YtanlhpdjgelehaaDoor
open Go.Abs
attribute [local irreducible] L Code.wp bodyPost Exit.then Exit.inBlock
set_option linter.unusedVariables false
set_option linter.unusedSimpArgs false

def andM (a b : Int) : Int := if a = 0 ∨ b = 0 then 0 else if a = 1 ∧ b = 1 then 1 else 2
def notM (a : Int) : Int := if a = 0 ∨ a = 1 then 1 - a else 2
def orM (a b : Int) : Int := notM (andM (notM a) (notM b))

theorem and_any (a b : Int) : CallA Tryd.prog 7 [aI a, aI b] [] [] [] (aI (andM a b)) := by
  refine CallA.intro 19 Tryd.func7 rfl rfl rfl (fun w0 E0 => ?_)
  (repeat' (first | (refine LW.is ?_; first | (refine s_nil ?_) | (apply s_mvIv; exact rfl; exact rfl) | (apply s_asIv; exact rfl; exact rfl) | (apply s_eqlI; exact rfl; exact rfl; exact rfl) | (apply s_gdo; exact rfl; exact rfl; (first | exact rfl | assumption)) | (apply s_gskipT; exact rfl; exact rfl; exact rfl; (first | exact rfl | assumption)) | (apply s_gskipF; exact rfl; exact rfl; exact rfl; (first | exact rfl | assumption)) | (apply s_pickTIv; exact rfl; exact rfl; (first | exact rfl | assumption); exact rfl) | (apply s_pickFIv; exact rfl; exact rfl; (first | exact rfl | assumption); exact rfl) | (refine s_gsplit rfl rfl rfl (fun hb => ?_) (fun hb => ?_) <;> (have hp := hb; try simp only [decide_eq_true_eq, decide_eq_false_iff_not, beq_iff_eq, beq_eq_false_iff_ne, bne_iff_ne, bne_eq_false_iff_eq, ne_eq, Bool.not_eq_true, Bool.not_eq_false, Bool.not_eq_eq_eq_not, Bool.not_true, Bool.not_false, Bool.or_eq_true, Bool.or_eq_false_iff, Bool.and_eq_true, Bool.and_eq_false_iff, Int.not_lt, Int.not_le] at hp))) | (refine c_seq ?_) | (refine L.block ?_) | (refine s_region ?_) | (refine L.thenN ?_) | (refine L.thenR ?_) | (refine L.inN ?_) | (refine L.inR ?_) | (refine L.ret ?_) | (refine L.skip ?_) | (apply c_condT; exact rfl; (first | exact rfl | assumption)) | (apply c_condF; exact rfl; (first | exact rfl | assumption)) | (refine L.cond rfl (fun hb => ?_) (fun hb => ?_) <;> (have hp := hb; try simp only [decide_eq_true_eq, decide_eq_false_iff_not, beq_iff_eq, beq_eq_false_iff_ne, bne_iff_ne, bne_eq_false_iff_eq, ne_eq, Bool.not_eq_true, Bool.not_eq_false, Bool.not_eq_eq_eq_not, Bool.not_true, Bool.not_false, Bool.or_eq_true, Bool.or_eq_false_iff, Bool.and_eq_true, Bool.and_eq_false_iff, Int.not_lt, Int.not_le] at hp))))
  all_goals (first | (apply L.ends1; exact rfl; exact rfl; exact rfl) | (apply L.ends2; exact rfl; exact rfl; exact rfl) | (apply L.ends3; exact rfl; exact rfl; exact rfl) | (apply L.ends1A; exact rfl; exact rfl; exact rfl) | (apply L.ends2A; exact rfl; exact rfl; exact rfl))
  all_goals simp [resOf, andM, *]

theorem not_any (a : Int) : CallA Tryd.prog 11 [aI a] [] [] [] (aI (notM a)) := by
  refine CallA.intro 11 Tryd.func11 rfl rfl rfl (fun w0 E0 => ?_)
  (repeat' (first | (refine LW.is ?_; first | (refine s_nil ?_) | (apply s_mvIv; exact rfl; exact rfl) | (apply s_asIv; exact rfl; exact rfl) | (apply s_eqlI; exact rfl; exact rfl; exact rfl) | (apply s_subI; exact rfl; exact rfl; exact rfl; (first | omega | decide | (dsimp only; omega)); (first | omega | decide | (dsimp only; omega))) | (apply s_gdo; exact rfl; exact rfl; (first | exact rfl | assumption)) | (apply s_gskipF; exact rfl; exact rfl; exact rfl; (first | exact rfl | assumption)) | (apply s_pickTIv; exact rfl; exact rfl; (first | exact rfl | assumption); exact rfl) | (apply s_pickFIv; exact rfl; exact rfl; (first | exact rfl | assumption); exact rfl) | (refine s_gsplit rfl rfl rfl (fun hb => ?_) (fun hb => ?_) <;> (have hp := hb; try simp only [decide_eq_true_eq, decide_eq_false_iff_not, beq_iff_eq, beq_eq_false_iff_ne, bne_iff_ne, bne_eq_false_iff_eq, ne_eq, Bool.not_eq_true, Bool.not_eq_false, Bool.not_eq_eq_eq_not, Bool.not_true, Bool.not_false, Bool.or_eq_true, Bool.or_eq_false_iff, Bool.and_eq_true, Bool.and_eq_false_iff, Int.not_lt, Int.not_le] at hp))) | (refine c_seq ?_) | (refine s_region ?_) | (refine L.thenN ?_) | (refine L.thenR ?_) | (refine L.ret ?_) | (refine L.skip ?_) | (apply c_condT; exact rfl; (first | exact rfl | assumption)) | (refine L.cond rfl (fun hb => ?_) (fun hb => ?_) <;> (have hp := hb; try simp only [decide_eq_true_eq, decide_eq_false_iff_not, beq_iff_eq, beq_eq_false_iff_ne, bne_iff_ne, bne_eq_false_iff_eq, ne_eq, Bool.not_eq_true, Bool.not_eq_false, Bool.not_eq_eq_eq_not, Bool.not_true, Bool.not_false, Bool.or_eq_true, Bool.or_eq_false_iff, Bool.and_eq_true, Bool.and_eq_false_iff, Int.not_lt, Int.not_le] at hp))))
  all_goals (first | (apply L.ends1; exact rfl; exact rfl; exact rfl) | (apply L.ends2; exact rfl; exact rfl; exact rfl) | (apply L.ends3; exact rfl; exact rfl; exact rfl) | (apply L.ends1A; exact rfl; exact rfl; exact rfl) | (apply L.ends2A; exact rfl; exact rfl; exact rfl))
  all_goals simp [resOf, notM, *]
end Go.Proofs.YtanlhpdjgelehaaDoor
