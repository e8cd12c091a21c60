/-
  WHAT IS PROVED: 'Rows.SyntaxScriptsCardSaid': for every text (of at most the bytes that a text may hold) the law 'askancelaw.SyntaxScripts' answers true where the package's variables stand as the program's text lays them, and the argument reads as it did; the card ties the variables to the text of the pruned copy. Conditions: none beyond those in the given row.
-/
import Derived.Test.YtadjbegnlimepaaGreatDoorRows
import Derived.Test.YtadjbegnlimepaaGreatDoorCards
import Derived.Test.YtadjbegnlimepaaGreatDoorTie
import Derived.Deep.DeepHandedRow
import Derived.Deep.DeepWitnessRowRef
import Derived.LaidMore
import Derived.Lay
import Derived.Stop.Joined
import Derived.WalkKit
import Derived.ProofKit
import Derived.OpenShut
import Derived.ChangeOld
import Derived.Below
import Derived.JoinedCond
import Derived.Test.YtadjbegnlimepaaGreatDoorZS24
import Derived.Test.YtadjbegnlimepaaGreatDoorZS49
import Derived.Test.YtadjbegnlimepaaGreatDoorZS50
namespace Go.Proofs.YtadjbegnlimepaaGreatDoor.syntaxScripts
open Go.Abs
open Go.Proofs.YtadjbegnlimepaaGreatDoor
open Go.ChangeShapes Go.WideShapes Go.ChangeAt Go.RowKit
set_option linter.unusedVariables false
set_option linter.unusedSimpArgs false

theorem own : ownKnob Tryz.prog.godebug = none := by kernel_rfl
theorem laidOut : laidOutB Tryz.prog = true := by kernel_rfl

theorem contract [Errs] (m : Int) (x0 : IV) (f0 : Fit book (.str) x0) : CallG (gsS m) Tryz.prog 3 [.iv x0] [] [] [] (aB true) := by
  obtain ⟨s, rfl, hs⟩ := f0.str_inv
  have hr : reachBytes = 140737488351232 := rfl
  exact syntaxScripts_any m s (by omega)

/-- the heap that the door's own run leaves meets the condition -/
theorem laid_met (os : Os) : laidMetH Tryz.prog Rows.syntaxScriptsRow.laid ((World.laidAll Tryz.prog os Rows.syntaxScriptsRow.laid).forCall (fun _ _ => 0) ⟨#[], #[.string ⟨#[]⟩], []⟩).memory :=
  by
  rw [MakeChecks.laidMetH_plain _ _ _ (by kernel_rfl)]; exact laidMet_laidAll _ (by kernel_rfl) (by kernel_rfl)
theorem reads (os : Os) {H : Type} (enc : TypeId × Value → H) : ∃ places, DataW.whole enc Tryz.prog ((World.laidAll Tryz.prog os Rows.syntaxScriptsRow.laid).forCall (fun _ _ => 0) ⟨#[], #[.string ⟨#[]⟩], []⟩).memory Tryz.f3.params.toList Rows.syntaxScriptsSpec.vars false (#[.string ⟨#[]⟩] : Array Value).toList 8 = some ([.lit (.string [])], [], places) :=
  ⟨[], by kernel_rfl⟩

set_option maxRecDepth 100000 in
theorem lifted (os : Os) (started : os.Started) (H : Type) (enc : TypeId × Value → H) (F : Stop.Interp) :
    ReturnsInHanded {} Tryz.checked os 3 .any ((OpenSpec.ofChange Rows.syntaxScriptsSpec).preRow enc Tryz.prog Tryz.f3 Rows.syntaxScriptsRow.domain false Rows.syntaxScriptsRow.laid) (((OpenSpec.ofChange Rows.syntaxScriptsSpec).at F).post enc Tryz.prog Tryz.f3 false true false false) := by
  obtain ⟨places, hx⟩ := reads os enc
  refine returnsInHanded_of_row (C := Tryz.checked) (s := (OpenSpec.ofChange Rows.syntaxScriptsSpec)) own started (by kernel_rfl) Tryz.func3
    (witness_row_atRef (enc := enc) (C := Tryz.checked) false (World.laidAll Tryz.prog os Rows.syntaxScriptsRow.laid) #[.string ⟨#[]⟩] (World.laidAll_os _ _ _) (by kernel_rfl) (by kernel_rfl) (by kernel_rfl)
      (OpenSpec.preRow_of_cond 8 hx (by kernel_rfl) (fun k hk => by cases hk) (by kernel_rfl) (laid_met os))) ?_
  intro W base args ds gs before hval0 hW hcnd hk0 hsz0 hL hsh _
  have hval : ∀ (j : Nat) t v, Tryz.f3.params[j]? = some t → args[j]? = some v → Value.okWide Tryz.prog W .any base t v := hval0
  have hW' := hW
  obtain ⟨p, q, hA0, hV, rfl, hfz, hnd⟩ := hW
  have hA : DataW.TrodAll enc Tryz.prog W 0 (fun _ => true) true Tryz.f3.params.toList args.toList ds p := hA0
  have hA1 := hA
  obtain ⟨rfl, rfl⟩ := trodVars_none hV
  have hsz : (DataW.weightsEach Tryz.prog (Tryz.f3.params.toList ++ []) (ds ++ [])).all (· ≤ reachBytes) = true := hsz0
  rw [List.append_nil, List.append_nil] at hsz
  rw [Tryz.params3] at hA hval hsz
  obtain ⟨v0, vs0, d0, ds0, p0, q0, hargs, rfl, rfl, h0, r0⟩ := trodAll_cons hA
  obtain ⟨rfl, rfl, rfl⟩ := trodAll_nil r0
  obtain rfl : args = #[v0] := by cases args; simp_all
  simp only [DataW.weightsEach, List.all_append, List.append_nil, Bool.and_eq_true] at hsz
  obtain ⟨x0, f0, e0, z0⟩ := open_str bulk book_ok Tryz.underlying9 (by kernel_rfl) (hval 0 9 v0 rfl rfl) h0 hsz
  clear hA0 hval0
  obtain ⟨E, m, hgl⟩ := globS hL (hsh)
  refine (law_callsG (us := [v0]) (@contract E m x0 f0) (sizes W) (fun _ hb => sizes_new hb) hgl (.cons e0 (RelL.nil _ _))).mono fun e W' ⟨he, bel⟩ => ?_
  subst he
  exact ⟨_, rfl, _, _, _, [], _, [], hW', trodAll_mk1 (shut_bool Tryz.underlying4 _), trodAll_after laidOut bel (by kernel_rfl) hA1, rfl, bel.frame _, fun h => by cases h⟩

theorem closed : joinedFacts Tryz.pinned.checked.prog 3 Tryz.f3 ((OpenSpec.ofChange Rows.syntaxScriptsSpec)).bare Rows.syntaxScriptsRow = true := by kernel_rfl
theorem wrap : Tryz.f3.isWrapper Tryz.pinned.checked.prog Rows.syntaxScriptsRow.wrapper Rows.syntaxScriptsRow.mainSum := by
  unfold Func.isWrapper; first | (rw [if_pos (by decide +kernel)]; kernel_rfl) | (rw [if_neg (by decide +kernel)]; exact ⟨rfl, rfl⟩)
theorem inst : Tryz.f3.isInstance Tryz.pinned.checked.prog Rows.syntaxScriptsRow.origin Rows.syntaxScriptsRow.targs := of_decide_eq_true (by kernel_rfl)
theorem named : Tryz.pinned.checked.prog.funcNamed Rows.syntaxScriptsRow.func = some 3 := by kernel_rfl
theorem over : Rows.syntaxScriptsRow.holds Tryz.pinned (OpenSpec.ofChange Rows.syntaxScriptsSpec) :=
  OpenClaim.holds_of_cond 3 Tryz.f3 rfl rfl rfl rfl rfl rfl rfl ⟨rfl, rfl, rfl, rfl, rfl⟩ rfl rfl rfl rfl rfl named Tryz.func3 closed inst wrap
    (fun os started H enc _ F => by rw [OpenClaim.pre_eq_preRow]; exact lifted os started H enc F)
/-- no parameter wants a stand-in; the program's own looks are as the card says -/
theorem plain (f : FuncId) (fn : Func) (hf : Tryz.pinned.checked.prog.funcNamed "askance/askancelaw.SyntaxScripts" = some f) (hfn : Tryz.pinned.checked.prog.funcs[f]? = some fn) :
    true = Tryz.pinned.checked.prog.looks [] ∧ ∀ (j : Nat) t, fn.params[j]? = some t → Tryz.pinned.checked.prog.wantsStandIn t = false := by
  obtain rfl : f = 3 := Option.some.inj ((show Tryz.prog.funcNamed "askance/askancelaw.SyntaxScripts" = some 3 by kernel_rfl).symm.trans hf) |>.symm
  obtain rfl : fn = Tryz.f3 := (Option.some.inj (Tryz.func3.symm.trans hfn)).symm
  refine ⟨by kernel_rfl, fun j t ht => ?_⟩
  rw [Tryz.params3] at ht
  have hm : t ∈ (#[9] : Array TypeId) := Array.mem_of_getElem? ht
  have all : (#[9] : Array TypeId).all (fun t => Tryz.prog.wantsStandIn t == false) = true := by kernel_rfl
  have := Array.all_eq_true'.1 all t hm
  have e : Tryz.prog.wantsStandIn t = false := by simpa using this
  exact e
theorem card : Rows.SyntaxScriptsCardSaid :=
  Claim7.holds_tied_plain_at .later [] _ _ _ _ over (fun _ h => by cases h) (by kernel_rfl) (fun _ h => by cases h) syntaxScripts_row_tie rfl ⟨rfl, rfl⟩ (by kernel_rfl) rfl plain (by kernel_rfl)

theorem proved : Rows.SyntaxScriptsCardSaid :=
  card
#print axioms proved
end Go.Proofs.YtadjbegnlimepaaGreatDoor.syntaxScripts
