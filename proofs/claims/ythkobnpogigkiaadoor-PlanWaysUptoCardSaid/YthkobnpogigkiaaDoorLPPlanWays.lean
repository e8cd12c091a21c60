/-
  WHAT IS PROVED: 'Rows.PlanWaysUptoCardSaid': for every catalog, command and rows that are not great the law 'askancekeep.PlanWays' answers true where the package's table of words stands as the program's text lays it, and each argument reads as it did; the card ties the table to the text of the pruned copy. Conditions: none beyond those in the given row.
-/
import Derived.Test.YthkobnpogigkiaaDoorZPlanWays11
import Derived.Test.YthkobnpogigkiaaDoorRows
import Derived.Test.YthkobnpogigkiaaDoorCards
import Derived.Test.YthkobnpogigkiaaDoorTie
import Derived.Deep.DeepHandedRow
import Derived.Deep.DeepWitnessRowRef
import Derived.LaidMore
import Derived.Lay
import Derived.Stop.Joined
import Derived.WalkKit
import Derived.ProofKit
import Derived.OpenShut
import Derived.ChangeOld
import Derived.Below
import Derived.JoinedCond
namespace Go.Proofs.YthkobnpogigkiaaDoor.planWays
open Go.Abs
open Go.Proofs.YthkobnpogigkiaaDoor
open Go.ChangeShapes Go.WideShapes Go.ChangeAt Go.RowKit
set_option linter.unusedVariables false
set_option linter.unusedSimpArgs false

theorem own : ownKnob Tryd.prog.godebug = none := by kernel_rfl
theorem laidOut : laidOutB Tryd.prog = true := by kernel_rfl

theorem glob {W : World} (h : laidMetH Tryd.prog Rows.planWaysUptoRow.laid W) (hsh : W.ShapedOpen Tryd.prog) : Glob gs0 (lawEnv (sizes W)) W := by
  rw [MakeChecks.laidMetH_plain _ _ _ (by kernel_rfl)] at h
  obtain ⟨ps, hL, _, _⟩ := h
  obtain ⟨g0, t0, c0, f0, p0, q0, hg0, ht0, hv0, hd0, hL, _⟩ := hL
  have eg0 : Tryd.prog.globalNamed "askance/syntax.words" = some 0 := by kernel_rfl
  have et0 : (Tryd.prog.globals[0]?).map (·.type) = some 29 := by kernel_rfl
  obtain rfl := Option.some.inj (eg0.symm.trans hg0)
  obtain rfl := Option.some.inj (et0.symm.trans ht0)
  have ed : (Rows.laid_askance_syntax_words : DataW Unit) = .slice (words.map fun s => .lit (.string s)) [] := by unfold words; rfl
  rw [ed] at hd0
  have r0 := laid_strs eg0 hv0 Tryd.underlying29 Tryd.underlying9 (by kernel_rfl) (fun e => by have := congrArg List.length e; rw [words_len] at this; cases this) hd0
  refine ⟨fun b hb => sizes_new hb, fun g xs hm i x hx => ?_⟩
  simp only [gs0, List.mem_cons, List.not_mem_nil, or_false, Prod.mk.injEq] at hm
  rcases hm with ⟨rfl, rfl⟩
  · exact r0 i x hx

theorem contract (x0 : List IV) (f0 : Fits book [.sl 43, .sl 81] x0) (z0 : szs x0 ≤ 1048576) (x1 : List IV) (f1 : Fits book [.int .i64, .str, .str, .str, .sl 53, .sl 30, .sl 48, .sl 9, .sl 34, .int .i64, .int .i64, .int .i64, .str, .str, .str, .int .i64, .sl 34, .sl 34, .bool, .int .i64] x1) (z1 : szs x1 ≤ 1048576) (x2 : IV) (f2 : Fit book (.sl 37) x2) (z2 : x2.sz ≤ 1048576) : CallG gs0 Tryd.prog 7 [.agg (x0.map .iv), .agg (x1.map .iv), .iv x2] [] [] [] (aB true) := by
  obtain ⟨c, rfl, hok⟩ := fit_cat f0
  obtain ⟨s, rfl, hs⟩ := fit_stm f1 z1
  obtain ⟨rows, rfl, hr, hrl⟩ := fit_rows f2
  exact planWays_any c hok s hs rows hr hrl

/-- the heap that the door's own run leaves meets the condition -/
theorem laid_met (os : Os) : laidMetH Tryd.prog Rows.planWaysUptoRow.laid ((World.doorLaid Tryd.prog 4000 os).forCall (fun _ _ => 0) ⟨#[], #[.agg #[.slice none 0 0, .slice none 0 0], .agg #[.int .i64 0, .string ⟨#[]⟩, .string ⟨#[]⟩, .string ⟨#[]⟩, .slice none 0 0, .slice none 0 0, .slice none 0 0, .slice none 0 0, .slice none 0 0, .int .i64 0, .int .i64 0, .int .i64 0, .string ⟨#[]⟩, .string ⟨#[]⟩, .string ⟨#[]⟩, .int .i64 0, .slice none 0 0, .slice none 0 0, .bool false, .int .i64 0], .slice none 0 0], []⟩).memory :=
  laidMetH_of_parts3 (fuel := 10) (laidMet_of_run' 10 (by kernel_rfl) (by kernel_rfl)) (by kernel_rfl) (by kernel_rfl)
theorem reads (os : Os) {H : Type} (enc : TypeId × Value → H) : ∃ places, DataW.whole enc Tryd.prog ((World.doorLaid Tryd.prog 4000 os).forCall (fun _ _ => 0) ⟨#[], #[.agg #[.slice none 0 0, .slice none 0 0], .agg #[.int .i64 0, .string ⟨#[]⟩, .string ⟨#[]⟩, .string ⟨#[]⟩, .slice none 0 0, .slice none 0 0, .slice none 0 0, .slice none 0 0, .slice none 0 0, .int .i64 0, .int .i64 0, .int .i64 0, .string ⟨#[]⟩, .string ⟨#[]⟩, .string ⟨#[]⟩, .int .i64 0, .slice none 0 0, .slice none 0 0, .bool false, .int .i64 0], .slice none 0 0], []⟩).memory Tryd.f7.params.toList Rows.planWaysSpec.vars false (#[.agg #[.slice none 0 0, .slice none 0 0], .agg #[.int .i64 0, .string ⟨#[]⟩, .string ⟨#[]⟩, .string ⟨#[]⟩, .slice none 0 0, .slice none 0 0, .slice none 0 0, .slice none 0 0, .slice none 0 0, .int .i64 0, .int .i64 0, .int .i64 0, .string ⟨#[]⟩, .string ⟨#[]⟩, .string ⟨#[]⟩, .int .i64 0, .slice none 0 0, .slice none 0 0, .bool false, .int .i64 0], .slice none 0 0] : Array Value).toList 8 = some ([.agg [.nil, .nil], .agg [.lit (.int .i64 0), .lit (.string []), .lit (.string []), .lit (.string []), .nil, .nil, .nil, .nil, .nil, .agg [.lit (.int .i64 0), .agg [.lit (.int .i64 0), .lit (.int .i64 0), .lit (.string [])], .lit (.string []), .lit (.string []), .lit (.int .i64 0), .nil], .nil, .lit (.bool false), .lit (.int .i64 0)], .nil], [], places) :=
  ⟨[], by kernel_rfl⟩

set_option maxRecDepth 100000 in
theorem lifted (os : Os) (started : os.Started) (H : Type) (enc : TypeId × Value → H) (F : Stop.Interp) :
    ReturnsInHanded {} Tryd.checked os 7 .any ((Rows.OpenSpec.upto Rows.planWaysSpec).preRow enc Tryd.prog Tryd.f7 Rows.planWaysUptoRow.domain false Rows.planWaysUptoRow.laid) (((Rows.OpenSpec.upto Rows.planWaysSpec).at F).post enc Tryd.prog Tryd.f7 false true false false) := by
  obtain ⟨places, hx⟩ := reads os enc
  refine returnsInHanded_of_row (C := Tryd.checked) (s := (Rows.OpenSpec.upto Rows.planWaysSpec)) own started (by kernel_rfl) Tryd.func7
    (witness_row_atRef (enc := enc) (C := Tryd.checked) false (World.doorLaid Tryd.prog 4000 os) #[.agg #[.slice none 0 0, .slice none 0 0], .agg #[.int .i64 0, .string ⟨#[]⟩, .string ⟨#[]⟩, .string ⟨#[]⟩, .slice none 0 0, .slice none 0 0, .slice none 0 0, .slice none 0 0, .slice none 0 0, .int .i64 0, .int .i64 0, .int .i64 0, .string ⟨#[]⟩, .string ⟨#[]⟩, .string ⟨#[]⟩, .int .i64 0, .slice none 0 0, .slice none 0 0, .bool false, .int .i64 0], .slice none 0 0] rfl (by kernel_rfl) (by kernel_rfl) (by kernel_rfl)
      (OpenSpec.preRow_of_cond 8 hx (by kernel_rfl) (fun k hk => by cases hk; kernel_rfl) (by kernel_rfl) (laid_met os))) ?_
  intro W base args ds gs before hval0 hW hcnd hk0 hsz0 hL hsh _
  have hk0 := hk0 _ rfl
  have hval : ∀ (j : Nat) t v, Tryd.f7.params[j]? = some t → args[j]? = some v → Value.okWide Tryd.prog W .any base t v := hval0
  have hW' := hW
  obtain ⟨p, q, hA0, hV, rfl, hfz, hnd⟩ := hW
  have hA : DataW.TrodAll enc Tryd.prog W 0 (fun _ => true) true Tryd.f7.params.toList args.toList ds p := hA0
  have hA1 := hA
  obtain ⟨rfl, rfl⟩ := trodVars_none hV
  have hsz : (DataW.weightsEach Tryd.prog (Tryd.f7.params.toList ++ []) (ds ++ [])).all (· ≤ reachBytes) = true := hsz0
  rw [List.append_nil, List.append_nil] at hsz
  rw [Tryd.params7] at hA hval hsz
  obtain ⟨v0, vs0, d0, ds0, p0, q0, hargs, rfl, rfl, h0, r0⟩ := trodAll_cons hA
  obtain ⟨v1, vs1, d1, ds1, p1, q1, rfl, rfl, rfl, h1, r1⟩ := trodAll_cons r0
  obtain ⟨v2, vs2, d2, ds2, p2, q2, rfl, rfl, rfl, h2, r2⟩ := trodAll_cons r1
  obtain ⟨rfl, rfl, rfl⟩ := trodAll_nil r2
  obtain rfl : args = #[v0, v1, v2] := by cases args; simp_all
  simp only [DataW.weightsEach, List.all_append, List.append_nil, Bool.and_eq_true] at hsz
  have hk : Rows.uptoBulkAll [d0, d1, d2] ≤ 1048576 := by simpa [Rows.uptoSmall] using hk0
  simp only [Rows.uptoBulkAll] at hk
  obtain ⟨x0, f0, e0, z0⟩ := open_agg bulk book_ok Tryd.underlying25 (cts := [.sl 43, .sl 81]) (by kernel_rfl) (by kernel_rfl) (hval 0 25 v0 rfl rfl) h0 hsz.1
  obtain ⟨x1, f1, e1, z1⟩ := open_agg bulk book_ok Tryd.underlying36 (cts := [.int .i64, .str, .str, .str, .sl 53, .sl 30, .sl 48, .sl 9, .sl 34, .int .i64, .int .i64, .int .i64, .str, .str, .str, .int .i64, .sl 34, .sl 34, .bool, .int .i64]) (by kernel_rfl) (by kernel_rfl) (hval 1 36 v1 rfl rfl) h1 hsz.2.1
  obtain ⟨x2, f2, e2, z2⟩ := open_slice bulk book_ok Tryd.underlying58 (by kernel_rfl) (by kernel_rfl) (hval 2 58 v2 rfl rfl) h2 hsz.2.2
  clear hA0 hval0
  refine (law_callsG (us := [v0, v1, v2]) (contract x0 f0 (by omega) x1 f1 (by omega) x2 f2 (by omega)) (sizes W) (fun _ hb => sizes_new hb) (glob hL hsh) (.cons e0 (.cons e1 (.cons e2 (RelL.nil _ _))))).mono fun e W' ⟨he, bel⟩ => ?_
  subst he
  exact ⟨_, rfl, _, _, _, [], _, [], hW', trodAll_mk1 (shut_bool Tryd.underlying4 _), trodAll_after laidOut bel (by kernel_rfl) hA1, rfl, bel.frame _, fun h => by cases h⟩

theorem over : Rows.planWaysUptoRow.holds Tryd.pinned (Rows.OpenSpec.upto Rows.planWaysSpec) :=
  OpenClaim.holds_of_cond 7 Tryd.f7 rfl rfl rfl rfl rfl rfl rfl ⟨rfl, rfl, rfl, rfl, rfl⟩ rfl rfl rfl rfl rfl (by kernel_rfl) Tryd.func7 (by kernel_rfl)
    (of_decide_eq_true (by kernel_rfl)) (by unfold Func.isWrapper; first | (rw [if_pos (by decide +kernel)]; kernel_rfl) | (rw [if_neg (by decide +kernel)]; exact ⟨rfl, rfl⟩))
    (fun os started H enc _ F => by rw [OpenClaim.pre_eq_preRow]; exact lifted os started H enc F)
/-- no parameter wants a stand-in; the program's own looks are as the card says -/
theorem plain (f : FuncId) (fn : Func) (hf : Tryd.pinned.checked.prog.funcNamed "askance/askancekeep.PlanWays" = some f) (hfn : Tryd.pinned.checked.prog.funcs[f]? = some fn) :
    false = Tryd.pinned.checked.prog.looks [] ∧ ∀ (j : Nat) t, fn.params[j]? = some t → Tryd.pinned.checked.prog.wantsStandIn t = false := by
  obtain rfl : f = 7 := Option.some.inj ((show Tryd.prog.funcNamed "askance/askancekeep.PlanWays" = some 7 by kernel_rfl).symm.trans hf) |>.symm
  obtain rfl : fn = Tryd.f7 := (Option.some.inj (Tryd.func7.symm.trans hfn)).symm
  refine ⟨by kernel_rfl, fun j t ht => ?_⟩
  rw [Tryd.params7] at ht
  have hm : t ∈ (#[25, 36, 58] : Array TypeId) := Array.mem_of_getElem? ht
  have all : (#[25, 36, 58] : Array TypeId).all (fun t => Tryd.prog.wantsStandIn t == false) = true := by kernel_rfl
  have := Array.all_eq_true'.1 all t hm
  have e : Tryd.prog.wantsStandIn t = false := by simpa using this
  exact e
theorem card : Rows.PlanWaysUptoCardSaid :=
  Claim7.holds_tied_plain_at .later [] _ _ _ _ over (fun _ h => by cases h) (by kernel_rfl) (fun _ h => by cases h) planWaysUpto_row_tie rfl ⟨rfl, rfl⟩ (by kernel_rfl) rfl plain (by kernel_rfl)

theorem proved : Rows.PlanWaysUptoCardSaid :=
  card
#print axioms proved
end Go.Proofs.YthkobnpogigkiaaDoor.planWays
