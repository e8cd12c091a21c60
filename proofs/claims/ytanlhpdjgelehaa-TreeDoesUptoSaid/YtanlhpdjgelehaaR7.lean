/- Trees: what slices.Clone computes: a row of one's own. Conditions: how much there is of what comes in. -/
import Derived.Test.YtanlhpdjgelehaaR6
namespace Go.Proofs.Ytanlhpdjgelehaa
open Go.Abs
attribute [local irreducible] L Code.wp bodyPost Exit.then Exit.inBlock
set_option linter.unusedVariables false
set_option linter.unusedSimpArgs false

set_option maxRecDepth 100000 in
set_option maxHeartbeats 4000000 in
theorem cloneS_any (es : List (List IV)) (hk : ∀ e ∈ es, e.length = 1) (hne : es ≠ []) (hm : es.length ≤ maxLen) (hl : es.length * 16 ≤ 140737488355328) :
    CallA Try.prog 54 [.iv (.sl es)] [] [(1000, ⟨9, .r es.flatten 0⟩)] [] (.bsh 1000 0 es.length 1) := by
  refine CallA.intro _ Try.func54 rfl Try.ntmps54 rfl (fun w0 E0 => ?_)
  (repeat' (first | (refine LW.is ?_; first | ((apply s_eqlNil; exact rfl; exact rfl; exact rfl; exact hne)) | ((apply s_mkEmpty; exact rfl; exact rfl; exact rfl; exact rfl; exact rfl)) | ((apply s_cloneR 1000; exact rfl; exact rfl; exact rfl; exact hk; exact hne; exact hm; exact hl; exact rfl)) | (refine s_nil ?_) | (apply s_mvIv; exact rfl; exact rfl) | (apply s_asNil; exact rfl; exact rfl) | (apply s_asBsh; exact rfl; exact rfl)) | (refine c_seq ?_) | (refine s_region ?_) | (refine L.thenN ?_) | (refine L.ret ?_) | (refine L.skip ?_) | (apply c_condF; exact rfl; (first | exact rfl | assumption))))
  all_goals (apply L.ends; exact rfl; exact rfl; exact Sub.refl _; exact Wk.mk' (by intro id h; cases h) .nil (.cons rfl rfl (Subs.refl _) .nil) .nil)

set_option maxRecDepth 100000 in
set_option maxHeartbeats 4000000 in
theorem cloneP_any (es : List (List IV)) (hk : ∀ e ∈ es, e.length = 2) (hne : es ≠ []) (hm : es.length ≤ maxLen) (hl : es.length * 48 ≤ 140737488355328) :
    CallA Try.prog 51 [.iv (.sl es)] [] [(1000, ⟨79, .r es.flatten 0⟩)] [] (.bsh 1000 0 es.length 2) := by
  refine CallA.intro _ Try.func51 rfl Try.ntmps51 rfl (fun w0 E0 => ?_)
  (repeat' (first | (refine LW.is ?_; first | ((apply s_eqlNil; exact rfl; exact rfl; exact rfl; exact hne)) | ((apply s_mkEmpty; exact rfl; exact rfl; exact rfl; exact rfl; exact rfl)) | ((apply s_cloneR 1000; exact rfl; exact rfl; exact rfl; exact hk; exact hne; exact hm; exact hl; exact rfl)) | (refine s_nil ?_) | (apply s_mvIv; exact rfl; exact rfl) | (apply s_asNil; exact rfl; exact rfl) | (apply s_asBsh; exact rfl; exact rfl)) | (refine c_seq ?_) | (refine s_region ?_) | (refine L.thenN ?_) | (refine L.ret ?_) | (refine L.skip ?_) | (apply c_condF; exact rfl; (first | exact rfl | assumption))))
  all_goals (apply L.ends; exact rfl; exact rfl; exact Sub.refl _; exact Wk.mk' (by intro id h; cases h) .nil (.cons rfl rfl (Subs.refl _) .nil) .nil)

set_option maxRecDepth 100000 in
set_option maxHeartbeats 4000000 in
theorem cloneP_nil :
    CallA Try.prog 51 [.iv (.sl [])] [] [] [] (.iv (.sl [])) := by
  refine CallA.intro _ Try.func51 rfl Try.ntmps51 rfl (fun w0 E0 => ?_)
  (repeat' (first | ((apply s_eqlNil0; exact rfl; exact rfl; exact rfl; rintro (_ | _))) | (refine LW.is ?_; first | ((apply s_app0; exact rfl; exact rfl; exact rfl)) | (refine s_nil ?_) | (apply s_mvIv; exact rfl; exact rfl) | (apply s_asIv; exact rfl; exact rfl) | (apply s_asNil; exact rfl; exact rfl) | (apply s_bslice; exact rfl; exact rfl; exact rfl; exact rfl; exact rfl; (apply n_some; exact rfl; (focus repeat' (first | exact nl_nil rfl | (apply nl_cons; exact rfl) | exact nIm rfl | exact nSl rfl | exact nIv rfl | exact nRow rfl | exact nNil rfl | exact nPtr rfl | exact nBsh rfl | exact nBsl rfl | exact nAny rfl | exact nIIm rfl | exact nISl rfl | exact rfl))); (apply n_some; exact rfl; (focus repeat' (first | exact nl_nil rfl | (apply nl_cons; exact rfl) | exact nIm rfl | exact nSl rfl | exact nIv rfl | exact nRow rfl | exact nNil rfl | exact nPtr rfl | exact nBsh rfl | exact nBsl rfl | exact nAny rfl | exact nIIm rfl | exact nISl rfl | exact rfl))); exact rfl; (focus repeat' (first | exact nl_nil rfl | (apply nl_cons; exact rfl) | exact nIm rfl | exact nSl rfl | exact nIv rfl | exact nRow rfl | exact nNil rfl | exact nPtr rfl | exact nBsh rfl | exact nBsl rfl | exact nAny rfl | exact nIIm rfl | exact nISl rfl | exact rfl)); exact rfl)) | (refine c_seq ?_) | (refine s_region ?_) | (refine L.thenN ?_) | (refine L.thenR ?_) | (refine L.ret ?_) | (refine L.skip ?_) | (apply c_condT; exact rfl; (first | exact rfl | assumption)) | (apply c_condF; exact rfl; (first | exact rfl | assumption))))
  all_goals (first | (apply L.ends1; exact rfl; exact rfl; exact rfl) | (apply L.ends2; exact rfl; exact rfl; exact rfl) | (apply L.ends3; exact rfl; exact rfl; exact rfl) | (apply L.ends1A; exact rfl; exact rfl; exact rfl) | (apply L.ends2A; exact rfl; exact rfl; exact rfl))
  all_goals rfl
end Go.Proofs.Ytanlhpdjgelehaa
