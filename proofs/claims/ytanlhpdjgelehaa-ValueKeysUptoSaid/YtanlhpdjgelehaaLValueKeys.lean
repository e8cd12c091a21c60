/-
  WHAT IS PROVED: 'Rows.ValueKeysUptoSaid': for all lists of values and all texts, of bulk at most 1048576, the law 'askancelaw.ValueKeys' answers true, and each argument reads as it did. Conditions: none beyond those in the given row.
-/
import Derived.Test.YtanlhpdjgelehaaRows
import Derived.Test.YtanlhpdjgelehaaK
import Derived.Test.YtanlhpdjgelehaaV12
import Derived.WalkKit
import Derived.ProofKit
import Derived.OpenShut
import Derived.ChangeOld
import Derived.Below
import Derived.JoinedCond
namespace Go.Proofs.Ytanlhpdjgelehaa.valueKeys
open Go.Abs
open Go.Proofs.Ytanlhpdjgelehaa
open Go.ChangeShapes Go.WideShapes Go.ChangeAt Go.RowKit
set_option linter.unusedVariables false

theorem own : ownKnob Try.prog.godebug = none := by kernel_rfl
theorem laidOut : laidOutB Try.prog = true := by kernel_rfl

theorem contract (x0 : IV) (f0 : Fit book (.sl 36) x0) (z0 : x0.sz ≤ 1048576) (x1 : IV) (f1 : Fit book (.str) x1) (z1 : x1.sz ≤ 1048576) : CallA Try.prog 5 [.iv x0, .iv x1] [] [] [] (aB true) := by
  obtain ⟨vs, rfl, _, h0, hv⟩ := fit_vals f0
  obtain ⟨s, rfl, _⟩ := f1.str_inv
  rw [sz_S] at z1
  have hr : reachBytes = 140737488351232 := rfl
  exact keys_any vs s (by omega) (by omega) (fun v hm => by have := (hv v hm).s; omega)

set_option maxRecDepth 100000 in
theorem lifted (os : Os) (started : os.Started) (H : Type) (enc : TypeId × Value → H) (F0 : Stop.Interp) :
    ReturnsInHanded {} Try.checked os 5 .any ((Rows.OpenSpec.upto Rows.valueKeysSpec).pre6 enc Try.prog Try.f5 Rows.valueKeysUptoRow.domain false) (((Rows.OpenSpec.upto Rows.valueKeysSpec).at F0).post enc Try.prog Try.f5 false true false false) := by
  refine returnsInHanded_of_cond_sized (C := Try.checked) (s := (Rows.OpenSpec.upto Rows.valueKeysSpec)) (k := Rows.uptoSmall) rfl own started (by kernel_rfl) Try.func5
    (OpenSpec.witness (enc := enc) (C := Try.checked) (s := (Rows.OpenSpec.upto Rows.valueKeysSpec)) (k := Rows.uptoSmall) rfl false ⟨#[], #[.slice none 0 0, .string ⟨#[]⟩], []⟩ 8 (by kernel_rfl) (by kernel_rfl) (by kernel_rfl)
      (x := ([.nil, .lit (.string [])], [], [])) (by kernel_rfl) (by kernel_rfl) (by kernel_rfl)) ?_
  intro W base args ds gs before hval0 hW hcnd hk0 hsz0 _
  have hval : ∀ (j : Nat) t v, Try.f5.params[j]? = some t → args[j]? = some v → Value.okWide Try.prog W .any base t v := hval0
  have hW' := hW
  obtain ⟨p, q, hA0, hV, rfl, hfz, hnd⟩ := hW
  have hA : DataW.TrodAll enc Try.prog W 0 (fun _ => true) true Try.f5.params.toList args.toList ds p := hA0
  have hA1 := hA
  obtain ⟨rfl, rfl⟩ := trodVars_none hV
  have hsz : (DataW.weightsEach Try.prog (Try.f5.params.toList ++ []) (ds ++ [])).all (· ≤ reachBytes) = true := hsz0
  rw [List.append_nil, List.append_nil] at hsz
  rw [Try.params5] at hA hval hsz
  obtain ⟨v0, vs0, d0, ds0, p0, q0, hargs, rfl, rfl, h0, r0⟩ := trodAll_cons hA
  obtain ⟨v1, vs1, d1, ds1, p1, q1, rfl, rfl, rfl, h1, r1⟩ := trodAll_cons r0
  obtain ⟨rfl, rfl, rfl⟩ := trodAll_nil r1
  obtain rfl : args = #[v0, v1] := by cases args; simp_all
  simp only [DataW.weightsEach, List.all_append, List.append_nil, Bool.and_eq_true] at hsz
  have hk : Rows.uptoBulkAll [d0, d1] ≤ 1048576 := by simpa [Rows.uptoSmall] using hk0
  simp only [Rows.uptoBulkAll] at hk
  obtain ⟨x0, f0, e0, z0⟩ := open_slice bulk book_ok Try.underlying23 (by kernel_rfl) (by kernel_rfl) (hval 0 23 v0 rfl rfl) h0 hsz.1
  obtain ⟨x1, f1, e1, z1⟩ := open_str bulk book_ok Try.underlying9 (by kernel_rfl) (hval 1 9 v1 rfl rfl) h1 hsz.2
  clear hA0 hval0
  refine (law_calls (us := [v0, v1]) (contract x0 f0 (by omega) x1 f1 (by omega)) (sizes W) (fun _ hb => sizes_new hb) (.cons e0 (.cons e1 (RelL.nil _ _)))).mono fun e W' ⟨he, bel⟩ => ?_
  subst he
  exact ⟨_, rfl, _, _, _, [], _, [], hW', trodAll_mk1 (shut_bool Try.underlying4 _), trodAll_after laidOut bel (by kernel_rfl) hA1, rfl, bel.frame _, fun h => by cases h⟩

theorem over : Rows.valueKeysUptoRow.holds Try.pinned (Rows.OpenSpec.upto Rows.valueKeysSpec) :=
  OpenClaim.holds_of_cond 5 Try.f5 rfl rfl rfl rfl rfl rfl rfl ⟨rfl, rfl, rfl, rfl, rfl⟩ rfl rfl rfl rfl rfl (by kernel_rfl) Try.func5 (by kernel_rfl)
    (of_decide_eq_true (by kernel_rfl)) (by unfold Func.isWrapper; first | (rw [if_pos (by decide +kernel)]; kernel_rfl) | (rw [if_neg (by decide +kernel)]; exact ⟨rfl, rfl⟩))
    (fun os started H enc _ F0 => lifted os started H enc F0)

theorem proved : Rows.ValueKeysUptoSaid :=
  over
#print axioms proved
end Go.Proofs.Ytanlhpdjgelehaa.valueKeys
