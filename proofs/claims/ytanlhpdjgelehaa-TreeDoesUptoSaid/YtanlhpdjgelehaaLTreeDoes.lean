/-
  WHAT IS PROVED: 'Rows.TreeDoesUptoSaid': for every tree and texts, of bulk at most 1048576, the law 'askancelaw.TreeDoes' answers true, and each argument reads as it did. Conditions: none beyond those in the given row.
-/
import Derived.Test.YtanlhpdjgelehaaRows
import Derived.Test.YtanlhpdjgelehaaK0
import Derived.Test.YtanlhpdjgelehaaK4
import Derived.Test.YtanlhpdjgelehaaR18
import Derived.WalkKit
import Derived.ProofKit
import Derived.OpenShut
import Derived.ChangeOld
import Derived.Below
import Derived.JoinedCond
namespace Go.Proofs.Ytanlhpdjgelehaa.treeDoes
open Go.Abs
open Go.Proofs.Ytanlhpdjgelehaa
open Go.ChangeShapes Go.WideShapes Go.ChangeAt Go.RowKit
set_option linter.unusedVariables false

theorem own : ownKnob Try.prog.godebug = none := by kernel_rfl
theorem laidOut : laidOutB Try.prog = true := by kernel_rfl

theorem contract (x0 : List IV) (f0 : Fits book [.sl 79] x0) (z0 : szs x0 ≤ 1048576) (x1 : IV) (f1 : Fit book (.str) x1) (z1 : x1.sz ≤ 1048576) (x2 : IV) (f2 : Fit book (.str) x2) (z2 : x2.sz ≤ 1048576) (x3 : IV) (f3 : Fit book (.str) x3) (z3 : x3.sz ≤ 1048576) : CallA Try.prog 11 [.agg (x0.map .iv), .iv x1, .iv x2, .iv x3] [] [] [] (aB true) := by
  obtain ⟨ps, rfl, _, hw⟩ := fit_tree f0
  obtain ⟨k, rfl, _⟩ := f1.str_inv
  obtain ⟨v, rfl, _⟩ := f2.str_inv
  obtain ⟨hi, rfl, _⟩ := f3.str_inv
  have hr : reachBytes = 140737488351232 := rfl
  have hz := szss_len (es := ps.map Pg.c) (fun e he => by obtain ⟨p, _, rfl⟩ := List.mem_map.1 he; exact Nat.zero_lt_two)
  simp only [szs, IV.sz, List.length_map] at z0 hz
  exact does_any ps k v hi (by omega) (fun p hp => by have := hw p hp; exact ⟨by have := this.ks; omega, by have := this.vs; omega⟩)

set_option maxRecDepth 100000 in
theorem lifted (os : Os) (started : os.Started) (H : Type) (enc : TypeId × Value → H) (F0 : Stop.Interp) :
    ReturnsInHanded {} Try.checked os 11 .any ((Rows.OpenSpec.upto Rows.treeDoesSpec).pre6 enc Try.prog Try.f11 Rows.treeDoesUptoRow.domain false) (((Rows.OpenSpec.upto Rows.treeDoesSpec).at F0).post enc Try.prog Try.f11 false true false false) := by
  refine returnsInHanded_of_cond_sized (C := Try.checked) (s := (Rows.OpenSpec.upto Rows.treeDoesSpec)) (k := Rows.uptoSmall) rfl own started (by kernel_rfl) Try.func11
    (OpenSpec.witness (enc := enc) (C := Try.checked) (s := (Rows.OpenSpec.upto Rows.treeDoesSpec)) (k := Rows.uptoSmall) rfl false ⟨#[], #[.agg #[.slice none 0 0], .string ⟨#[]⟩, .string ⟨#[]⟩, .string ⟨#[]⟩], []⟩ 8 (by kernel_rfl) (by kernel_rfl) (by kernel_rfl)
      (x := ([.agg [.nil], .lit (.string []), .lit (.string []), .lit (.string [])], [], [])) (by kernel_rfl) (by kernel_rfl) (by kernel_rfl)) ?_
  intro W base args ds gs before hval0 hW hcnd hk0 hsz0 _
  have hval : ∀ (j : Nat) t v, Try.f11.params[j]? = some t → args[j]? = some v → Value.okWide Try.prog W .any base t v := hval0
  have hW' := hW
  obtain ⟨p, q, hA0, hV, rfl, hfz, hnd⟩ := hW
  have hA : DataW.TrodAll enc Try.prog W 0 (fun _ => true) true Try.f11.params.toList args.toList ds p := hA0
  have hA1 := hA
  obtain ⟨rfl, rfl⟩ := trodVars_none hV
  have hsz : (DataW.weightsEach Try.prog (Try.f11.params.toList ++ []) (ds ++ [])).all (· ≤ reachBytes) = true := hsz0
  rw [List.append_nil, List.append_nil] at hsz
  rw [Try.params11] at hA hval hsz
  obtain ⟨v0, vs0, d0, ds0, p0, q0, hargs, rfl, rfl, h0, r0⟩ := trodAll_cons hA
  obtain ⟨v1, vs1, d1, ds1, p1, q1, rfl, rfl, rfl, h1, r1⟩ := trodAll_cons r0
  obtain ⟨v2, vs2, d2, ds2, p2, q2, rfl, rfl, rfl, h2, r2⟩ := trodAll_cons r1
  obtain ⟨v3, vs3, d3, ds3, p3, q3, rfl, rfl, rfl, h3, r3⟩ := trodAll_cons r2
  obtain ⟨rfl, rfl, rfl⟩ := trodAll_nil r3
  obtain rfl : args = #[v0, v1, v2, v3] := by cases args; simp_all
  simp only [DataW.weightsEach, List.all_append, List.append_nil, Bool.and_eq_true] at hsz
  have hk : Rows.uptoBulkAll [d0, d1, d2, d3] ≤ 1048576 := by simpa [Rows.uptoSmall] using hk0
  simp only [Rows.uptoBulkAll] at hk
  obtain ⟨x0, f0, e0, z0⟩ := open_agg bulk book_ok Try.underlying45 (cts := [.sl 79]) (by kernel_rfl) (by kernel_rfl) (hval 0 45 v0 rfl rfl) h0 hsz.1
  obtain ⟨x1, f1, e1, z1⟩ := open_str bulk book_ok Try.underlying9 (by kernel_rfl) (hval 1 9 v1 rfl rfl) h1 hsz.2.1
  obtain ⟨x2, f2, e2, z2⟩ := open_str bulk book_ok Try.underlying9 (by kernel_rfl) (hval 2 9 v2 rfl rfl) h2 hsz.2.2.1
  obtain ⟨x3, f3, e3, z3⟩ := open_str bulk book_ok Try.underlying9 (by kernel_rfl) (hval 3 9 v3 rfl rfl) h3 hsz.2.2.2
  clear hA0 hval0
  refine (law_calls (us := [v0, v1, v2, v3]) (contract x0 f0 (by omega) x1 f1 (by omega) x2 f2 (by omega) x3 f3 (by omega)) (sizes W) (fun _ hb => sizes_new hb) (.cons e0 (.cons e1 (.cons e2 (.cons e3 (RelL.nil _ _)))))).mono fun e W' ⟨he, bel⟩ => ?_
  subst he
  exact ⟨_, rfl, _, _, _, [], _, [], hW', trodAll_mk1 (shut_bool Try.underlying4 _), trodAll_after laidOut bel (by kernel_rfl) hA1, rfl, bel.frame _, fun h => by cases h⟩

theorem over : Rows.treeDoesUptoRow.holds Try.pinned (Rows.OpenSpec.upto Rows.treeDoesSpec) :=
  OpenClaim.holds_of_cond 11 Try.f11 rfl rfl rfl rfl rfl rfl rfl ⟨rfl, rfl, rfl, rfl, rfl⟩ rfl rfl rfl rfl rfl (by kernel_rfl) Try.func11 (by kernel_rfl)
    (of_decide_eq_true (by kernel_rfl)) (by unfold Func.isWrapper; first | (rw [if_pos (by decide +kernel)]; kernel_rfl) | (rw [if_neg (by decide +kernel)]; exact ⟨rfl, rfl⟩))
    (fun os started H enc _ F0 => lifted os started H enc F0)

theorem proved : Rows.TreeDoesUptoSaid :=
  over
#print axioms proved
end Go.Proofs.Ytanlhpdjgelehaa.treeDoes
