/-
  WHAT IS PROVED: 'Rows.TreeKeepsSaid': for every tree and texts the law 'askancekeep.TreeKeeps' answers true, and each argument reads as it did. Conditions: none beyond those in the given row.
-/
import Derived.Test.YtanlhpdjgelehaaRows
import Derived.Test.YtanlhpdjgelehaaK0
import Derived.Test.YtanlhpdjgelehaaK4
import Derived.Test.YtanlhpdjgelehaaR15
import Derived.WalkKit
import Derived.ProofKit
import Derived.OpenShut
import Derived.ChangeOld
import Derived.Below
import Derived.JoinedCond
namespace Go.Proofs.Ytanlhpdjgelehaa.treeKeeps
open Go.Abs
open Go.Proofs.Ytanlhpdjgelehaa
open Go.ChangeShapes Go.WideShapes Go.ChangeAt Go.RowKit
set_option linter.unusedVariables false

theorem own : ownKnob Try.prog.godebug = none := by kernel_rfl
theorem laidOut : laidOutB Try.prog = true := by kernel_rfl

theorem contract (x0 : List IV) (f0 : Fits book [.sl 79] x0) (x1 : IV) (f1 : Fit book (.str) x1) (x2 : IV) (f2 : Fit book (.str) x2) (x3 : IV) (f3 : Fit book (.str) x3) : CallA Try.prog 10 [.agg (x0.map .iv), .iv x1, .iv x2, .iv x3] [] [] [] (aB true) := by
  obtain ⟨ps, rfl, hl, _⟩ := fit_tree f0
  obtain ⟨k, rfl, _⟩ := f1.str_inv
  obtain ⟨v, rfl, _⟩ := f2.str_inv
  obtain ⟨other, rfl, _⟩ := f3.str_inv
  have hr : reachBytes = 140737488351232 := rfl
  exact keeps_any ps k v other (by omega)

set_option maxRecDepth 100000 in
theorem lifted (os : Os) (started : os.Started) (H : Type) (enc : TypeId × Value → H) :
    ReturnsInHanded {} Try.checked os 10 .any (Rows.treeKeepsSpec.pre6 enc Try.prog Try.f10 Rows.treeKeepsRow.domain false) (Rows.treeKeepsSpec.post enc Try.prog Try.f10 false true false false) := by
  refine returnsInHanded_of_change_sized (C := Try.checked) own started (by kernel_rfl) Try.func10
    (ChangeSpec.witness6 (enc := enc) (C := Try.checked) false ⟨#[], #[.agg #[.slice none 0 0], .string ⟨#[]⟩, .string ⟨#[]⟩, .string ⟨#[]⟩], []⟩ 8 (by kernel_rfl) (by kernel_rfl) (by kernel_rfl) (by kernel_rfl)) ?_
  intro W base args ds gs before hval0 hW hcnd hsz0 _
  have hval : ∀ (j : Nat) t v, Try.f10.params[j]? = some t → args[j]? = some v → Value.okWide Try.prog W .any base t v := hval0
  have hW' := hW
  obtain ⟨p, q, hA0, hV, rfl, hfz, hnd⟩ := hW
  have hA : DataW.TrodAll enc Try.prog W 0 (fun _ => true) true Try.f10.params.toList args.toList ds p := hA0
  have hA1 := hA
  obtain ⟨rfl, rfl⟩ := trodVars_none hV
  have hsz : (DataW.weightsEach Try.prog (Try.f10.params.toList ++ []) (ds ++ [])).all (· ≤ reachBytes) = true := hsz0
  rw [List.append_nil, List.append_nil] at hsz
  rw [Try.params10] at hA hval hsz
  obtain ⟨v0, vs0, d0, ds0, p0, q0, hargs, rfl, rfl, h0, r0⟩ := trodAll_cons hA
  obtain ⟨v1, vs1, d1, ds1, p1, q1, rfl, rfl, rfl, h1, r1⟩ := trodAll_cons r0
  obtain ⟨v2, vs2, d2, ds2, p2, q2, rfl, rfl, rfl, h2, r2⟩ := trodAll_cons r1
  obtain ⟨v3, vs3, d3, ds3, p3, q3, rfl, rfl, rfl, h3, r3⟩ := trodAll_cons r2
  obtain ⟨rfl, rfl, rfl⟩ := trodAll_nil r3
  obtain rfl : args = #[v0, v1, v2, v3] := by cases args; simp_all
  simp only [DataW.weightsEach, List.all_append, List.append_nil, Bool.and_eq_true] at hsz
  obtain ⟨x0, f0, e0, z0⟩ := open_agg bulk book_ok Try.underlying45 (cts := [.sl 79]) (by kernel_rfl) (by kernel_rfl) (hval 0 45 v0 rfl rfl) h0 hsz.1
  obtain ⟨x1, f1, e1, z1⟩ := open_str bulk book_ok Try.underlying9 (by kernel_rfl) (hval 1 9 v1 rfl rfl) h1 hsz.2.1
  obtain ⟨x2, f2, e2, z2⟩ := open_str bulk book_ok Try.underlying9 (by kernel_rfl) (hval 2 9 v2 rfl rfl) h2 hsz.2.2.1
  obtain ⟨x3, f3, e3, z3⟩ := open_str bulk book_ok Try.underlying9 (by kernel_rfl) (hval 3 9 v3 rfl rfl) h3 hsz.2.2.2
  clear hA0 hval0
  refine (law_calls (us := [v0, v1, v2, v3]) (contract x0 f0 x1 f1 x2 f2 x3 f3) (sizes W) (fun _ hb => sizes_new hb) (.cons e0 (.cons e1 (.cons e2 (.cons e3 (RelL.nil _ _)))))).mono fun e W' ⟨he, bel⟩ => ?_
  subst he
  exact ⟨_, rfl, _, _, _, [], _, [], hW', trodAll_mk1 (shut_bool Try.underlying4 _), trodAll_after laidOut bel (by kernel_rfl) hA1, rfl, bel.frame _, fun h => by cases h⟩

theorem over : Rows.treeKeepsRow.holds Try.pinned (OpenSpec.ofChange Rows.treeKeepsSpec) :=
  OpenClaim.holds_of_wide 10 Try.f10 rfl rfl rfl rfl rfl rfl rfl ⟨rfl, rfl, rfl, rfl, rfl⟩ rfl rfl rfl rfl rfl (by kernel_rfl) Try.func10 (by kernel_rfl)
    (of_decide_eq_true (by kernel_rfl)) (by unfold Func.isWrapper; first | (rw [if_pos (by decide +kernel)]; kernel_rfl) | (rw [if_neg (by decide +kernel)]; exact ⟨rfl, rfl⟩))
    (fun os started H enc _ => lifted os started H enc)

theorem proved : Rows.TreeKeepsSaid :=
  over
#print axioms proved
end Go.Proofs.Ytanlhpdjgelehaa.treeKeeps
