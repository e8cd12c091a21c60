/-
  WHAT IS PROVED: 'Rows.EvalThreeSaid': for every expression and every row the law 'askancekeep.EvalThree' answers true, and each argument reads as it did. Conditions: none beyond those in the given row.
-/
import Derived.Test.YtanlhpdjgelehaaRows
import Derived.Test.YtanlhpdjgelehaaK
import Derived.Test.YtanlhpdjgelehaaV16
import Derived.Test.YtanlhpdjgelehaaK2
import Derived.WalkKit
import Derived.ProofKit
import Derived.OpenShut
import Derived.ChangeOld
import Derived.Below
import Derived.JoinedCond
namespace Go.Proofs.Ytanlhpdjgelehaa.evalThree
open Go.Abs
open Go.Proofs.Ytanlhpdjgelehaa
open Go.ChangeShapes Go.WideShapes Go.ChangeAt Go.RowKit
set_option linter.unusedVariables false

theorem own : ownKnob Try.prog.godebug = none := by kernel_rfl
theorem laidOut : laidOutB Try.prog = true := by kernel_rfl

theorem contract (x0 : List IV) (f0 : Fits book [.int .i64, .int .i64, .int .i64, .str, .str, .str, .int .i64, .sl 39] x0) (x1 : IV) (f1 : Fit book (.sl 36) x1) : CallA Try.prog 8 [.agg (x0.map .iv), .iv x1] [] [] [] (aB true) := by
  obtain ⟨e, rfl, hok⟩ := fit_ex _ (Nat.le_refl _) f0
  obtain ⟨row, rfl, _, _, _⟩ := fit_vals f1
  exact three_any e hok row

set_option maxRecDepth 100000 in
theorem lifted (os : Os) (started : os.Started) (H : Type) (enc : TypeId × Value → H) :
    ReturnsInHanded {} Try.checked os 8 .any (Rows.evalThreeSpec.pre6 enc Try.prog Try.f8 Rows.evalThreeRow.domain false) (Rows.evalThreeSpec.post enc Try.prog Try.f8 false true false false) := by
  refine returnsInHanded_of_change_sized (C := Try.checked) own started (by kernel_rfl) Try.func8
    (ChangeSpec.witness6 (enc := enc) (C := Try.checked) false ⟨#[], #[.agg #[.int .i64 0, .int .i64 0, .int .i64 0, .string ⟨#[]⟩, .string ⟨#[]⟩, .string ⟨#[]⟩, .int .i64 0, .slice none 0 0], .slice none 0 0], []⟩ 8 (by kernel_rfl) (by kernel_rfl) (by kernel_rfl) (by kernel_rfl)) ?_
  intro W base args ds gs before hval0 hW hcnd hsz0 _
  have hval : ∀ (j : Nat) t v, Try.f8.params[j]? = some t → args[j]? = some v → Value.okWide Try.prog W .any base t v := hval0
  have hW' := hW
  obtain ⟨p, q, hA0, hV, rfl, hfz, hnd⟩ := hW
  have hA : DataW.TrodAll enc Try.prog W 0 (fun _ => true) true Try.f8.params.toList args.toList ds p := hA0
  have hA1 := hA
  obtain ⟨rfl, rfl⟩ := trodVars_none hV
  have hsz : (DataW.weightsEach Try.prog (Try.f8.params.toList ++ []) (ds ++ [])).all (· ≤ reachBytes) = true := hsz0
  rw [List.append_nil, List.append_nil] at hsz
  rw [Try.params8] at hA hval hsz
  obtain ⟨v0, vs0, d0, ds0, p0, q0, hargs, rfl, rfl, h0, r0⟩ := trodAll_cons hA
  obtain ⟨v1, vs1, d1, ds1, p1, q1, rfl, rfl, rfl, h1, r1⟩ := trodAll_cons r0
  obtain ⟨rfl, rfl, rfl⟩ := trodAll_nil r1
  obtain rfl : args = #[v0, v1] := by cases args; simp_all
  simp only [DataW.weightsEach, List.all_append, List.append_nil, Bool.and_eq_true] at hsz
  obtain ⟨x0, f0, e0, z0⟩ := open_agg bulk book_ok Try.underlying39 (cts := [.int .i64, .int .i64, .int .i64, .str, .str, .str, .int .i64, .sl 39]) (by kernel_rfl) (by kernel_rfl) (hval 0 39 v0 rfl rfl) h0 hsz.1
  obtain ⟨x1, f1, e1, z1⟩ := open_slice bulk book_ok Try.underlying23 (by kernel_rfl) (by kernel_rfl) (hval 1 23 v1 rfl rfl) h1 hsz.2
  clear hA0 hval0
  refine (law_calls (us := [v0, v1]) (contract x0 f0 x1 f1) (sizes W) (fun _ hb => sizes_new hb) (.cons e0 (.cons e1 (RelL.nil _ _)))).mono fun e W' ⟨he, bel⟩ => ?_
  subst he
  exact ⟨_, rfl, _, _, _, [], _, [], hW', trodAll_mk1 (shut_bool Try.underlying4 _), trodAll_after laidOut bel (by kernel_rfl) hA1, rfl, bel.frame _, fun h => by cases h⟩

theorem over : Rows.evalThreeRow.holds Try.pinned (OpenSpec.ofChange Rows.evalThreeSpec) :=
  OpenClaim.holds_of_wide 8 Try.f8 rfl rfl rfl rfl rfl rfl rfl ⟨rfl, rfl, rfl, rfl, rfl⟩ rfl rfl rfl rfl rfl (by kernel_rfl) Try.func8 (by kernel_rfl)
    (of_decide_eq_true (by kernel_rfl)) (by unfold Func.isWrapper; first | (rw [if_pos (by decide +kernel)]; kernel_rfl) | (rw [if_neg (by decide +kernel)]; exact ⟨rfl, rfl⟩))
    (fun os started H enc _ => lifted os started H enc)

theorem proved : Rows.EvalThreeSaid :=
  over
#print axioms proved
end Go.Proofs.Ytanlhpdjgelehaa.evalThree
