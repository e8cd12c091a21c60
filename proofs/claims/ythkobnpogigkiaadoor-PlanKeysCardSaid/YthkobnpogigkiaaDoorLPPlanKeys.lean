/-
  WHAT IS PROVED: 'Rows.PlanKeysCardSaid': for every catalog, table of it and row the law 'askancelaw.PlanKeys' answers true, and each argument reads as it did; the card ties the listed variables to the text of the pruned copy (nothing of them is read). Conditions: none beyond those in the given row.
-/
import Derived.Test.YthkobnpogigkiaaDoorZPlanKeys10
import Derived.Test.YthkobnpogigkiaaDoorRows
import Derived.Test.YthkobnpogigkiaaDoorCards
import Derived.Test.YthkobnpogigkiaaDoorTie
import Derived.Shelf.Vars
import Derived.Deep.DeepHandedRow
import Derived.Deep.DeepWitnessRowRef
import Derived.LaidMore
import Derived.Lay
import Derived.Stop.Joined
import Derived.WalkKit
import Derived.ProofKit
import Derived.OpenShut
import Derived.ChangeOld
import Derived.Below
import Derived.JoinedCond
namespace Go.Proofs.YthkobnpogigkiaaDoor.planKeys
open Go.Abs
open Go.Proofs.YthkobnpogigkiaaDoor
open Go.ChangeShapes Go.WideShapes Go.ChangeAt Go.RowKit
set_option linter.unusedVariables false
set_option linter.unusedSimpArgs false

theorem own : ownKnob Tryd.prog.godebug = none := by kernel_rfl
theorem laidOut : laidOutB Tryd.prog = true := by kernel_rfl

theorem glob {W : World} (h : laidMetH Tryd.prog Rows.planKeysRow.laid W) (hsh : W.ShapedOpen Tryd.prog) : ∃ m, Glob [maxG m] (lawEnv (sizes W)) W := by
  obtain ⟨m, hm0⟩ := Go.Proofs.cell_of_shapedOpen_int (P := Tryd.prog) (g := 1) (t := 3) (zero := #[.int .i64 0]) hsh (of_decide_eq_true (by kernel_rfl)) (by kernel_rfl) rfl (by kernel_rfl) (by kernel_rfl) Tryd.underlying3
  refine ⟨m, ?_⟩
  refine ⟨fun b hb => sizes_new hb, fun g xs hm i x hx => ?_⟩
  simp only [maxG, List.mem_cons, List.not_mem_nil, or_false, Prod.mk.injEq] at hm
  rcases hm with ⟨rfl, rfl⟩
  · match i, hx with
    | 0, hx => simp at hx; subst hx; exact ⟨sizes_cell hm0, _, hm0, .im rfl⟩
    | i + 1, hx => simp at hx

theorem contract (m : Int) (x0 : List IV) (f0 : Fits book [.sl 43, .sl 81] x0) (x1 : List IV) (f1 : Fits book [.str, .sl 53] x1) (x2 : IV) (f2 : Fit book (.sl 32) x2) : CallG [maxG m] Tryd.prog 6 [.agg (x0.map .iv), .agg (x1.map .iv), .iv x2] [] [] [] (aB true) := by
  obtain ⟨c, rfl, hok⟩ := fit_cat f0
  obtain ⟨t, rfl, htk⟩ := fit_tab f1
  obtain ⟨row, rfl, h1, _, h2⟩ := fit_vals f2
  have hr : reachBytes = 140737488351232 := rfl
  exact planKeys_any m (List.mem_cons_self ..) c t row hok htk (by omega) (fun v hv => by have := (h2 v hv).s; omega)

/-- the heap that the door's own run leaves meets the condition -/
theorem laid_met (os : Os) : laidMetH Tryd.prog Rows.planKeysRow.laid ((World.laidAll Tryd.prog os Rows.planKeysRow.laid).forCall (fun _ _ => 0) ⟨#[], #[.agg #[.slice none 0 0, .slice none 0 0], .agg #[.string ⟨#[]⟩, .slice none 0 0], .slice none 0 0], []⟩).memory :=
  by
  rw [MakeChecks.laidMetH_plain _ _ _ (by kernel_rfl)]; exact laidMet_laidAll _ (by kernel_rfl) (by kernel_rfl)
theorem reads (os : Os) {H : Type} (enc : TypeId × Value → H) : ∃ places, DataW.whole enc Tryd.prog ((World.laidAll Tryd.prog os Rows.planKeysRow.laid).forCall (fun _ _ => 0) ⟨#[], #[.agg #[.slice none 0 0, .slice none 0 0], .agg #[.string ⟨#[]⟩, .slice none 0 0], .slice none 0 0], []⟩).memory Tryd.f6.params.toList Rows.planKeysSpec.vars false (#[.agg #[.slice none 0 0, .slice none 0 0], .agg #[.string ⟨#[]⟩, .slice none 0 0], .slice none 0 0] : Array Value).toList 8 = some ([.agg [.nil, .nil], .agg [.lit (.string []), .nil], .nil], [], places) :=
  ⟨[], by kernel_rfl⟩

set_option maxRecDepth 100000 in
theorem lifted (os : Os) (started : os.Started) (H : Type) (enc : TypeId × Value → H) (F : Stop.Interp) :
    ReturnsInHanded {} Tryd.checked os 6 .any ((OpenSpec.ofChange Rows.planKeysSpec).preRow enc Tryd.prog Tryd.f6 Rows.planKeysRow.domain false Rows.planKeysRow.laid) (((OpenSpec.ofChange Rows.planKeysSpec).at F).post enc Tryd.prog Tryd.f6 false true false false) := by
  obtain ⟨places, hx⟩ := reads os enc
  refine returnsInHanded_of_row (C := Tryd.checked) (s := (OpenSpec.ofChange Rows.planKeysSpec)) own started (by kernel_rfl) Tryd.func6
    (witness_row_atRef (enc := enc) (C := Tryd.checked) false (World.laidAll Tryd.prog os Rows.planKeysRow.laid) #[.agg #[.slice none 0 0, .slice none 0 0], .agg #[.string ⟨#[]⟩, .slice none 0 0], .slice none 0 0] (World.laidAll_os _ _ _) (by kernel_rfl) (by kernel_rfl) (by kernel_rfl)
      (OpenSpec.preRow_of_cond 8 hx (by kernel_rfl) (fun k hk => by cases hk) (by kernel_rfl) (laid_met os))) ?_
  intro W base args ds gs before hval0 hW hcnd hk0 hsz0 hL hsh _
  have hval : ∀ (j : Nat) t v, Tryd.f6.params[j]? = some t → args[j]? = some v → Value.okWide Tryd.prog W .any base t v := hval0
  have hW' := hW
  obtain ⟨p, q, hA0, hV, rfl, hfz, hnd⟩ := hW
  have hA : DataW.TrodAll enc Tryd.prog W 0 (fun _ => true) true Tryd.f6.params.toList args.toList ds p := hA0
  have hA1 := hA
  obtain ⟨rfl, rfl⟩ := trodVars_none hV
  have hsz : (DataW.weightsEach Tryd.prog (Tryd.f6.params.toList ++ []) (ds ++ [])).all (· ≤ reachBytes) = true := hsz0
  rw [List.append_nil, List.append_nil] at hsz
  rw [Tryd.params6] at hA hval hsz
  obtain ⟨v0, vs0, d0, ds0, p0, q0, hargs, rfl, rfl, h0, r0⟩ := trodAll_cons hA
  obtain ⟨v1, vs1, d1, ds1, p1, q1, rfl, rfl, rfl, h1, r1⟩ := trodAll_cons r0
  obtain ⟨v2, vs2, d2, ds2, p2, q2, rfl, rfl, rfl, h2, r2⟩ := trodAll_cons r1
  obtain ⟨rfl, rfl, rfl⟩ := trodAll_nil r2
  obtain rfl : args = #[v0, v1, v2] := by cases args; simp_all
  simp only [DataW.weightsEach, List.all_append, List.append_nil, Bool.and_eq_true] at hsz
  obtain ⟨x0, f0, e0, z0⟩ := open_agg bulk book_ok Tryd.underlying25 (cts := [.sl 43, .sl 81]) (by kernel_rfl) (by kernel_rfl) (hval 0 25 v0 rfl rfl) h0 hsz.1
  obtain ⟨x1, f1, e1, z1⟩ := open_agg bulk book_ok Tryd.underlying43 (cts := [.str, .sl 53]) (by kernel_rfl) (by kernel_rfl) (hval 1 43 v1 rfl rfl) h1 hsz.2.1
  obtain ⟨x2, f2, e2, z2⟩ := open_slice bulk book_ok Tryd.underlying37 (by kernel_rfl) (by kernel_rfl) (hval 2 37 v2 rfl rfl) h2 hsz.2.2
  clear hA0 hval0
  obtain ⟨m, hgl⟩ := glob hL hsh
  refine (law_callsG (us := [v0, v1, v2]) (contract m x0 f0 x1 f1 x2 f2) (sizes W) (fun _ hb => sizes_new hb) hgl (.cons e0 (.cons e1 (.cons e2 (RelL.nil _ _))))).mono fun e W' ⟨he, bel⟩ => ?_
  subst he
  exact ⟨_, rfl, _, _, _, [], _, [], hW', trodAll_mk1 (shut_bool Tryd.underlying4 _), trodAll_after laidOut bel (by kernel_rfl) hA1, rfl, bel.frame _, fun h => by cases h⟩

theorem over : Rows.planKeysRow.holds Tryd.pinned (OpenSpec.ofChange Rows.planKeysSpec) :=
  OpenClaim.holds_of_cond 6 Tryd.f6 rfl rfl rfl rfl rfl rfl rfl ⟨rfl, rfl, rfl, rfl, rfl⟩ rfl rfl rfl rfl rfl (by kernel_rfl) Tryd.func6 (by kernel_rfl)
    (of_decide_eq_true (by kernel_rfl)) (by unfold Func.isWrapper; first | (rw [if_pos (by decide +kernel)]; kernel_rfl) | (rw [if_neg (by decide +kernel)]; exact ⟨rfl, rfl⟩))
    (fun os started H enc _ F => by rw [OpenClaim.pre_eq_preRow]; exact lifted os started H enc F)
/-- no parameter wants a stand-in; the program's own looks are as the card says -/
theorem plain (f : FuncId) (fn : Func) (hf : Tryd.pinned.checked.prog.funcNamed "askance/askancelaw.PlanKeys" = some f) (hfn : Tryd.pinned.checked.prog.funcs[f]? = some fn) :
    false = Tryd.pinned.checked.prog.looks [] ∧ ∀ (j : Nat) t, fn.params[j]? = some t → Tryd.pinned.checked.prog.wantsStandIn t = false := by
  obtain rfl : f = 6 := Option.some.inj ((show Tryd.prog.funcNamed "askance/askancelaw.PlanKeys" = some 6 by kernel_rfl).symm.trans hf) |>.symm
  obtain rfl : fn = Tryd.f6 := (Option.some.inj (Tryd.func6.symm.trans hfn)).symm
  refine ⟨by kernel_rfl, fun j t ht => ?_⟩
  rw [Tryd.params6] at ht
  have hm : t ∈ (#[25, 43, 37] : Array TypeId) := Array.mem_of_getElem? ht
  have all : (#[25, 43, 37] : Array TypeId).all (fun t => Tryd.prog.wantsStandIn t == false) = true := by kernel_rfl
  have := Array.all_eq_true'.1 all t hm
  have e : Tryd.prog.wantsStandIn t = false := by simpa using this
  exact e
theorem card : Rows.PlanKeysCardSaid :=
  Claim7.holds_tied_plain_at .later [] _ _ _ _ over (fun _ h => by cases h) (by kernel_rfl) (fun _ h => by cases h) planKeys_row_tie rfl ⟨rfl, rfl⟩ (by kernel_rfl) rfl plain (by kernel_rfl)

theorem proved : Rows.PlanKeysCardSaid :=
  card
#print axioms proved
end Go.Proofs.YthkobnpogigkiaaDoor.planKeys
