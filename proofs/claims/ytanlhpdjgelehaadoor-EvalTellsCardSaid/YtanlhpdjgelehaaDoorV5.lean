/- Values: 'values' answers true; the law ValueTruths answers true. Conditions: none. -/
import Derived.Test.YtanlhpdjgelehaaDoorV4
import Derived.Test.YtanlhpdjgelehaaDoorB3
namespace Go.Proofs.YtanlhpdjgelehaaDoor
open Go.Abs
attribute [local irreducible] L Code.wp bodyPost Exit.then Exit.inBlock
set_option linter.unusedVariables false
set_option linter.unusedSimpArgs false

theorem or_any (a b : Int) : CallA Tryd.prog 9 [aI a, aI b] [] [] [] (aI (orM a b)) := by
  refine CallA.intro _ Tryd.func9 rfl Tryd.ntmps9 rfl (fun w0 E0 => ?_)
  (repeat' (first | (refine LW.is ?_; first | ((apply s_call0; exact rfl; exact not_any a; exact rfl; exact rfl)) | ((apply s_call0; exact rfl; exact not_any b; exact rfl; exact rfl)) | ((apply s_call0; exact rfl; exact and_any (notM a) (notM b); exact rfl; exact rfl)) | ((apply s_call0; exact rfl; exact not_any (andM (notM a) (notM b)); exact rfl; exact rfl)) | (refine s_nil ?_) | (apply s_mvIv; exact rfl; exact rfl) | (apply s_asIv; exact rfl; exact rfl)) | (refine c_seq ?_) | (refine s_region ?_) | (refine L.thenN ?_) | (refine L.ret ?_)))
  all_goals (first | (apply L.ends1; exact rfl; exact rfl; exact rfl) | (apply L.ends2; exact rfl; exact rfl; exact rfl) | (apply L.ends3; exact rfl; exact rfl; exact rfl) | (apply L.ends1A; exact rfl; exact rfl; exact rfl) | (apply L.ends2A; exact rfl; exact rfl; exact rfl))
  rfl

end Go.Proofs.YtanlhpdjgelehaaDoor
