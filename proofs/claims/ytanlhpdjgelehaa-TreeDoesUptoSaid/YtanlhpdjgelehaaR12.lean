/- Trees: the given trees' own look at the tree answers true. Conditions: none. -/
import Derived.Test.YtanlhpdjgelehaaR11
namespace Go.Proofs.Ytanlhpdjgelehaa
open Go.Abs
attribute [local irreducible] L Code.wp bodyPost Exit.then Exit.inBlock
set_option linter.unusedVariables false
set_option linter.unusedSimpArgs false

theorem put_e1 : putM [] [98] [49] = [⟨[[98]], [[49]]⟩] := by simp [putM, goodTree, goodT]
theorem put_e2 : putM [⟨[[98]], [[49]]⟩] [97] [50] = [⟨[[97], [98]], [[50], [49]]⟩] := by rfl
theorem get_e : getM [⟨[[97], [98]], [[50], [49]]⟩] [97] = ([50], true) := by rfl
theorem size_e : sizeM [⟨[[97], [98]], [[50], [49]]⟩] = 2 := by rfl

set_option maxRecDepth 100000 in
set_option maxHeartbeats 4000000 in
theorem trees_any : CallA Try.prog 27 [] [] [] [] (aB true) := by
  have k1 := put_any [] [98] [49] (by decide)
  have k2 := put_any [⟨[[98]], [[49]]⟩] [97] [50] (by decide)
  have k3 := get_any [⟨[[97], [98]], [[50], [49]]⟩] [97] (by decide)
  have k4 := size_any [⟨[[97], [98]], [[50], [49]]⟩] (by decide) (by rw [size_e]; decide)
  rw [put_e1] at k1
  rw [put_e2] at k2
  rw [get_e] at k3
  rw [size_e] at k4
  refine CallA.intro _ Try.func27 rfl Try.ntmps27 rfl (fun w0 E0 => ?_)
  (repeat' (first | (refine LW.is ?_; first | ((apply s_call0; exact rfl; exact k1; exact rfl; exact rfl)) | ((apply s_call0; exact rfl; exact k2; exact rfl; exact rfl)) | ((apply s_call0; exact rfl; exact k3; exact rfl; exact rfl)) | ((apply s_call0; exact rfl; exact k4; exact rfl; exact rfl)) | (refine s_nil ?_) | (apply s_mvIv; exact rfl; exact rfl) | (apply s_mvTup; exact rfl; exact rfl) | (apply s_asIv; exact rfl; exact rfl) | (apply s_loadAP; exact rfl; exact rfl; exact rfl; (focus repeat' (first | exact nl_nil rfl | (apply nl_cons; exact rfl) | exact nIm rfl | exact nSl rfl | exact nIv rfl | exact nRow rfl | exact nNil rfl | exact nPtr rfl | exact nBsh rfl | exact nBsl rfl | exact nAny rfl | exact nIIm rfl | exact nISl rfl | exact rfl)); exact rfl) | (apply s_eqlI; exact rfl; exact rfl; exact rfl) | (apply s_eqlS; exact rfl; exact rfl; exact rfl) | (apply s_extract; exact rfl; exact rfl; (apply n_some; exact rfl; (first | exact nIm rfl | exact nSl rfl | exact nIv rfl | exact nRow rfl | exact nNil rfl | exact nPtr rfl | exact nBsh rfl | exact nBsl rfl | exact nAny rfl | exact rfl))) | (apply s_alloc; exact rfl; exact rfl; (focus repeat' (first | exact nl_nil rfl | (apply nl_cons; exact rfl) | exact nIm rfl | exact nSl rfl | exact nIv rfl | exact nRow rfl | exact nNil rfl | exact nPtr rfl | exact nBsh rfl | exact nBsl rfl | exact nAny rfl | exact nIIm rfl | exact nISl rfl | exact rfl)); exact rfl; exact rfl) | (apply s_build; exact rfl; exact rfl; (apply n_some; exact rfl; (focus repeat' (first | exact nl_nil rfl | (apply nl_cons; exact rfl) | exact nIm rfl | exact nSl rfl | exact nIv rfl | exact nRow rfl | exact nNil rfl | exact nPtr rfl | exact nBsh rfl | exact nBsl rfl | exact nAny rfl | exact nIIm rfl | exact nISl rfl | exact rfl)))) | (apply s_store; exact rfl; exact rfl; exact rfl; exact rfl; exact rfl; exact rfl; (focus repeat' (first | exact nl_nil rfl | (apply nl_cons; exact rfl) | exact nIm rfl | exact nSl rfl | exact nIv rfl | exact nRow rfl | exact nNil rfl | exact nPtr rfl | exact nBsh rfl | exact nBsl rfl | exact nAny rfl | exact nIIm rfl | exact nISl rfl | exact rfl))) | (apply s_gdo; exact rfl; exact rfl; (first | exact rfl | assumption)) | (apply s_pickTIv; exact rfl; exact rfl; (first | exact rfl | assumption); exact rfl)) | (refine c_seq ?_) | (refine s_region ?_) | (refine L.thenN ?_) | (refine L.ret ?_)))
  all_goals (first | (apply L.ends1; exact rfl; exact rfl; exact rfl) | (apply L.ends2; exact rfl; exact rfl; exact rfl) | (apply L.ends3; exact rfl; exact rfl; exact rfl) | (apply L.ends1A; exact rfl; exact rfl; exact rfl) | (apply L.ends2A; exact rfl; exact rfl; exact rfl))
  all_goals rfl
end Go.Proofs.Ytanlhpdjgelehaa
