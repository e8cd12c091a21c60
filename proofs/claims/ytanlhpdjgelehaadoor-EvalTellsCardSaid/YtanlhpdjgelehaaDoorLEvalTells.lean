/-
  WHAT IS PROVED: 'Rows.EvalTellsCardSaid': for every expression, row, value and number the law 'askancelaw.EvalTells' answers true where the package's table stands as the program's text lays it, and each argument reads as it did; the card ties the table to the text of the pruned copy. Conditions: none beyond those in the given row.
-/
import Derived.Test.YtanlhpdjgelehaaDoorRows
import Derived.Test.YtanlhpdjgelehaaDoorK
import Derived.Test.YtanlhpdjgelehaaDoorW5
import Derived.Test.YtanlhpdjgelehaaDoorK3
import Derived.Test.YtanlhpdjgelehaaDoorCards
import Derived.Test.YtanlhpdjgelehaaDoorTie
import Derived.Test.YtanlhpdjgelehaaDoorG1
import Derived.Deep.DeepHandedRow
import Derived.WalkKit
import Derived.ProofKit
import Derived.OpenShut
import Derived.ChangeOld
import Derived.Below
import Derived.JoinedCond
namespace Go.Proofs.YtanlhpdjgelehaaDoor.evalTells
open Go.Abs
open Go.Proofs.YtanlhpdjgelehaaDoor
open Go.ChangeShapes Go.WideShapes Go.ChangeAt Go.RowKit
set_option linter.unusedVariables false

theorem own : ownKnob Tryd.prog.godebug = none := by kernel_rfl
theorem laidOut : laidOutB Tryd.prog = true := by kernel_rfl

theorem gTab : Tryd.prog.globalNamed "askance/askanceref.truths" = some 0 := by kernel_rfl
theorem gTabType : (Tryd.prog.globals[0]?).map (·.type) = some 39 := by kernel_rfl
theorem cellsTab : Tryd.prog.cellsOf 39 = 3 := by kernel_rfl
theorem cellsElem : Tryd.prog.cellsOf 3 = 1 := by kernel_rfl
theorem table {W : World} (h : laidMetH Tryd.prog Rows.evalTellsRow.laid W) : Lib.TabIs Tryd.prog W "askance/askanceref.truths" .i64 [0, 2, 1] :=
  Lib.tabIs_of_head (rest := []) gTab gTabType Tryd.underlying39 Tryd.underlying3 cellsElem cellsTab h
theorem contract (x0 : List IV) (f0 : Fits book [.int .i64, .int .i64, .int .i64, .str, .str, .str, .int .i64, .sl 32] x0) (x1 : IV) (f1 : Fit book (.sl 23) x1) (x2 : List IV) (f2 : Fits book [.int .i64, .int .i64, .str] x2) (x3 : IV) (f3 : Fit book (.int .i64) x3) : CallG 0 (([0, 2, 1] : List Int).map fun z => Value.int .i64 z) Tryd.prog 4 [.agg (x0.map .iv), .iv x1, .agg (x2.map .iv), .iv x3] [] [] [] (aB true) := by
  obtain ⟨e, rfl, hok, hst⟩ := fit_ex _ (Nat.le_refl _) f0
  obtain ⟨row, rfl, hl, _, hr⟩ := fit_vals f1
  obtain ⟨v, rfl, _⟩ := fit_val f2
  obtain ⟨n, rfl, _⟩ := f3.int_inv
  have hre : reachBytes = 140737488351232 := rfl
  exact etells_any e hok hst row (fun v hv => by have := (hr v hv).s; omega) (by omega) v n

/-- a world for the witness: the settled one, the table holding what its initialiser lays -/
noncomputable def laidWorld (os : Os) : World :=
  { World.holding Tryd.prog os ⟨#[], #[], []⟩ with heap := (World.holding Tryd.prog os ⟨#[], #[], []⟩).heap.modify 0 fun
      | .cells _ t frozen => .cells #[.int .i64 0, .int .i64 2, .int .i64 1] t frozen
      | o => o }
theorem laid_met (os : Os) : laidMet Tryd.prog Rows.evalTellsRow.laid ((laidWorld os).forCall (fun _ _ => 0) ⟨#[], #[.agg #[.int .i64 0, .int .i64 0, .int .i64 0, .string ⟨#[]⟩, .string ⟨#[]⟩, .string ⟨#[]⟩, .int .i64 0, .slice none 0 0], .slice none 0 0, .agg #[.int .i64 0, .int .i64 0, .string ⟨#[]⟩], .int .i64 0], []⟩).memory :=
  laidMet_of_run' 8 (by kernel_rfl) (by kernel_rfl)
theorem reads (os : Os) {H : Type} (enc : TypeId × Value → H) : ∃ places, DataW.whole enc Tryd.prog ((laidWorld os).forCall (fun _ _ => 0) ⟨#[], #[.agg #[.int .i64 0, .int .i64 0, .int .i64 0, .string ⟨#[]⟩, .string ⟨#[]⟩, .string ⟨#[]⟩, .int .i64 0, .slice none 0 0], .slice none 0 0, .agg #[.int .i64 0, .int .i64 0, .string ⟨#[]⟩], .int .i64 0], []⟩).memory Tryd.f4.params.toList Rows.evalTellsSpec.vars false (#[.agg #[.int .i64 0, .int .i64 0, .int .i64 0, .string ⟨#[]⟩, .string ⟨#[]⟩, .string ⟨#[]⟩, .int .i64 0, .slice none 0 0], .slice none 0 0, .agg #[.int .i64 0, .int .i64 0, .string ⟨#[]⟩], .int .i64 0] : Array Value).toList 8 = some ([.agg [.lit (.int .i64 0), .agg [.lit (.int .i64 0), .lit (.int .i64 0), .lit (.string [])], .lit (.string []), .lit (.string []), .lit (.int .i64 0), .nil], .nil, .agg [.lit (.int .i64 0), .lit (.int .i64 0), .lit (.string [])], .lit (.int .i64 0)], [], places) :=
  ⟨[], by kernel_rfl⟩

set_option maxRecDepth 100000 in
theorem lifted (os : Os) (started : os.Started) (H : Type) (enc : TypeId × Value → H) (F : Stop.Interp) :
    ReturnsInHanded {} Tryd.checked os 4 .any ((OpenSpec.ofChange Rows.evalTellsSpec).preRow enc Tryd.prog Tryd.f4 Rows.evalTellsRow.domain false Rows.evalTellsRow.laid) (((OpenSpec.ofChange Rows.evalTellsSpec).at F).post enc Tryd.prog Tryd.f4 false true false false) := by
  obtain ⟨places, hx⟩ := reads os enc
  refine returnsInHanded_of_row (C := Tryd.checked) (s := (OpenSpec.ofChange Rows.evalTellsSpec)) own started (by kernel_rfl) Tryd.func4
    (witness_row_at (enc := enc) (C := Tryd.checked) false (laidWorld os) #[.agg #[.int .i64 0, .int .i64 0, .int .i64 0, .string ⟨#[]⟩, .string ⟨#[]⟩, .string ⟨#[]⟩, .int .i64 0, .slice none 0 0], .slice none 0 0, .agg #[.int .i64 0, .int .i64 0, .string ⟨#[]⟩], .int .i64 0] rfl (by kernel_rfl) (by kernel_rfl) (by kernel_rfl)
      (OpenSpec.preRow_of_cond 8 hx (by kernel_rfl) (fun k hk => by cases hk) (by kernel_rfl) (laid_met os))) ?_
  intro W base args ds gs before hval0 hW hcnd hk0 hsz0 hL _ _
  have hval : ∀ (j : Nat) t v, Tryd.f4.params[j]? = some t → args[j]? = some v → Value.okWide Tryd.prog W .any base t v := hval0
  have hW' := hW
  obtain ⟨p, q, hA0, hV, rfl, hfz, hnd⟩ := hW
  have hA : DataW.TrodAll enc Tryd.prog W 0 (fun _ => true) true Tryd.f4.params.toList args.toList ds p := hA0
  have hA1 := hA
  obtain ⟨rfl, rfl⟩ := trodVars_none hV
  have hsz : (DataW.weightsEach Tryd.prog (Tryd.f4.params.toList ++ []) (ds ++ [])).all (· ≤ reachBytes) = true := hsz0
  rw [List.append_nil, List.append_nil] at hsz
  rw [Tryd.params4] at hA hval hsz
  obtain ⟨v0, vs0, d0, ds0, p0, q0, hargs, rfl, rfl, h0, r0⟩ := trodAll_cons hA
  obtain ⟨v1, vs1, d1, ds1, p1, q1, rfl, rfl, rfl, h1, r1⟩ := trodAll_cons r0
  obtain ⟨v2, vs2, d2, ds2, p2, q2, rfl, rfl, rfl, h2, r2⟩ := trodAll_cons r1
  obtain ⟨v3, vs3, d3, ds3, p3, q3, rfl, rfl, rfl, h3, r3⟩ := trodAll_cons r2
  obtain ⟨rfl, rfl, rfl⟩ := trodAll_nil r3
  obtain rfl : args = #[v0, v1, v2, v3] := by cases args; simp_all
  simp only [DataW.weightsEach, List.all_append, List.append_nil, Bool.and_eq_true] at hsz
  obtain ⟨x0, f0, e0, z0⟩ := open_agg bulk book_ok Tryd.underlying32 (cts := [.int .i64, .int .i64, .int .i64, .str, .str, .str, .int .i64, .sl 32]) (by kernel_rfl) (by kernel_rfl) (hval 0 32 v0 rfl rfl) h0 hsz.1
  obtain ⟨x1, f1, e1, z1⟩ := open_slice bulk book_ok Tryd.underlying33 (by kernel_rfl) (by kernel_rfl) (hval 1 33 v1 rfl rfl) h1 hsz.2.1
  obtain ⟨x2, f2, e2, z2⟩ := open_agg bulk book_ok Tryd.underlying23 (cts := [.int .i64, .int .i64, .str]) (by kernel_rfl) (by kernel_rfl) (hval 2 23 v2 rfl rfl) h2 hsz.2.2.1
  obtain ⟨x3, f3, e3, z3⟩ := open_num bulk book_ok Tryd.underlying3 (by kernel_rfl) (hval 3 3 v3 rfl rfl) h3 hsz.2.2.2
  clear hA0 hval0
  refine (law_callsG (us := [v0, v1, v2, v3]) (contract x0 f0 x1 f1 x2 f2 x3 f3) (sizes W) (fun _ hb => sizes_new hb) (glob_of_tab gTab (table hL) (by decide)) (.cons e0 (.cons e1 (.cons e2 (.cons e3 (RelL.nil _ _)))))).mono fun e W' ⟨he, bel⟩ => ?_
  subst he
  exact ⟨_, rfl, _, _, _, [], _, [], hW', trodAll_mk1 (shut_bool Tryd.underlying4 _), trodAll_after laidOut bel (by kernel_rfl) hA1, rfl, bel.frame _, fun h => by cases h⟩

theorem over : Rows.evalTellsRow.holds Tryd.pinned (OpenSpec.ofChange Rows.evalTellsSpec) :=
  OpenClaim.holds_of_cond 4 Tryd.f4 rfl rfl rfl rfl rfl rfl rfl ⟨rfl, rfl, rfl, rfl, rfl⟩ rfl rfl rfl rfl rfl (by kernel_rfl) Tryd.func4 (by kernel_rfl)
    (of_decide_eq_true (by kernel_rfl)) (by unfold Func.isWrapper; first | (rw [if_pos (by decide +kernel)]; kernel_rfl) | (rw [if_neg (by decide +kernel)]; exact ⟨rfl, rfl⟩))
    (fun os started H enc _ F => by rw [OpenClaim.pre_eq_preRow]; exact lifted os started H enc F)
/-- no parameter wants a stand-in; the program's own looks are off -/
theorem plain (f : FuncId) (fn : Func) (hf : Tryd.pinned.checked.prog.funcNamed "askance/askancelaw.EvalTells" = some f) (hfn : Tryd.pinned.checked.prog.funcs[f]? = some fn) :
    false = Tryd.pinned.checked.prog.looks [] ∧ ∀ (j : Nat) t, fn.params[j]? = some t → Tryd.pinned.checked.prog.wantsStandIn t = false := by
  obtain rfl : f = 4 := Option.some.inj ((show Tryd.prog.funcNamed "askance/askancelaw.EvalTells" = some 4 by kernel_rfl).symm.trans hf) |>.symm
  obtain rfl : fn = Tryd.f4 := (Option.some.inj (Tryd.func4.symm.trans hfn)).symm
  refine ⟨by kernel_rfl, fun j t ht => ?_⟩
  rw [Tryd.params4] at ht
  have hm : t ∈ (#[32, 33, 23, 3] : Array TypeId) := Array.mem_of_getElem? ht
  have all : (#[32, 33, 23, 3] : Array TypeId).all (fun t => Tryd.prog.wantsStandIn t == false) = true := by kernel_rfl
  have := Array.all_eq_true'.1 all t hm
  have e : Tryd.prog.wantsStandIn t = false := by simpa using this
  exact e
theorem card : Rows.EvalTellsCardSaid :=
  Claim7.holds_tied_plain_at .later [] _ _ _ _ over (fun _ h => by cases h) (by kernel_rfl) (fun _ h => by cases h) evalTells_row_tie rfl ⟨rfl, rfl⟩ (by kernel_rfl) rfl plain (by kernel_rfl)

theorem proved : Rows.EvalTellsCardSaid :=
  card
#print axioms proved
end Go.Proofs.YtanlhpdjgelehaaDoor.evalTells
