/- Values: what the reference's ValuesOf and SameValues compute; the law ValueKeys answers true. Conditions: how much there is of what comes in. -/
import Derived.Test.YtanlhpdjgelehaaDoorV10
namespace Go.Proofs.YtanlhpdjgelehaaDoor
open Go.Abs
attribute [local irreducible] L Code.wp bodyPost Exit.then Exit.inBlock
set_option linter.unusedVariables false
set_option linter.unusedSimpArgs false

set_option maxRecDepth 100000 in
theorem law_values : CallA Tryd.prog 15 [] [] [] [] (aB true) := by
  have e1 : (keyM [⟨1, 1, []⟩, ⟨0, 0, []⟩]) = ([2, 64, 0, 0, 1, 1], 0) := by
    simp [keyM, goodM, keyOne, be4, u8, IntKind.wrap_u8]
  have e2 : valsR [2, 64, 0, 0, 1, 1] = ([⟨1, 1, []⟩, ⟨0, 0, []⟩], 0) := by
    have h1 : valsM [1] = some [⟨0, 0, []⟩] := by
      rw [valsM_some (v := ⟨0, 0, []⟩) (r := []) rfl, valsM_nil]; rfl
    have h2 : valsM [2, 64, 0, 0, 1, 1] = some [⟨1, 1, []⟩, ⟨0, 0, []⟩] := by
      rw [valsM_some (v := ⟨1, 1, []⟩) (r := [1]) (by simp [valOne, dec4]), h1]; rfl
    simp [valsR, h2]
  have k1 := key_any [⟨1, 1, []⟩, ⟨0, 0, []⟩] (by decide)
  rw [e1] at k1
  have k2 := vals_any [2, 64, 0, 0, 1, 1] (by decide)
  rw [e2] at k2
  have k3 := and_any 1 2
  refine CallA.intro _ Tryd.func15 rfl Tryd.ntmps15 rfl (fun w0 E0 => ?_)
  (repeat' (first | (refine LW.is ?_; first | ((apply s_call0; exact rfl; exact k1; exact rfl; exact rfl)) | ((apply s_call0; exact rfl; exact k2; exact rfl; exact rfl)) | ((apply s_call0; exact rfl; exact k3; exact rfl; exact rfl)) | (refine s_nil ?_) | (apply s_mvIv; exact rfl; exact rfl) | (apply s_mvTup; exact rfl; exact rfl) | (apply s_asIv; exact rfl; exact rfl) | (apply s_lenSl; exact rfl; exact rfl) | (apply s_eqlI; exact rfl; exact rfl; exact rfl) | (apply s_eqlS; exact rfl; exact rfl; exact rfl) | (apply s_extract; exact rfl; exact rfl; (apply n_some; exact rfl; (first | exact nIm rfl | exact nSl rfl | exact nIv rfl | exact nRow rfl | exact nNil rfl | exact nPtr rfl | exact nAny rfl | exact rfl))) | (apply s_build; exact rfl; exact rfl; (apply n_some; exact rfl; (focus repeat' (first | exact nl_nil rfl | (apply nl_cons; exact rfl) | exact nIm rfl | exact nSl rfl | exact nIv rfl | exact nRow rfl | exact nNil rfl | exact nPtr rfl | exact nAny rfl | exact nIIm rfl | exact nISl rfl | exact rfl)))) | (apply s_bslice; exact rfl; exact rfl; exact rfl; exact rfl; exact rfl; (apply n_some; exact rfl; (focus repeat' (first | exact nl_nil rfl | (apply nl_cons; exact rfl) | exact nIm rfl | exact nSl rfl | exact nIv rfl | exact nRow rfl | exact nNil rfl | exact nPtr rfl | exact nAny rfl | exact nIIm rfl | exact nISl rfl | exact rfl))); (apply n_some; exact rfl; (focus repeat' (first | exact nl_nil rfl | (apply nl_cons; exact rfl) | exact nIm rfl | exact nSl rfl | exact nIv rfl | exact nRow rfl | exact nNil rfl | exact nPtr rfl | exact nAny rfl | exact nIIm rfl | exact nISl rfl | exact rfl))); exact rfl; (focus repeat' (first | exact nl_nil rfl | (apply nl_cons; exact rfl) | exact nIm rfl | exact nSl rfl | exact nIv rfl | exact nRow rfl | exact nNil rfl | exact nPtr rfl | exact nAny rfl | exact nIIm rfl | exact nISl rfl | exact rfl)); exact rfl) | (apply s_gdo; exact rfl; exact rfl; (first | exact rfl | assumption)) | (apply s_pickTIv; exact rfl; exact rfl; (first | exact rfl | assumption); exact rfl)) | (refine c_seq ?_) | (refine s_region ?_) | (refine L.thenN ?_) | (refine L.ret ?_)))
  all_goals (first | (apply L.ends1; exact rfl; exact rfl; exact rfl) | (apply L.ends2; exact rfl; exact rfl; exact rfl) | (apply L.ends3; exact rfl; exact rfl; exact rfl) | (apply L.ends1A; exact rfl; exact rfl; exact rfl) | (apply L.ends2A; exact rfl; exact rfl; exact rfl))
  all_goals rfl

end Go.Proofs.YtanlhpdjgelehaaDoor
