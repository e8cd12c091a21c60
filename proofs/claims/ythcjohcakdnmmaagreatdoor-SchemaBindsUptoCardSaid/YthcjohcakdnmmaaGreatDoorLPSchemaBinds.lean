/-
  WHAT IS PROVED: 'Rows.SchemaBindsUptoCardSaid': for every catalog and command that are not great the law 'askancelaw.SchemaBinds' answers true where the package's variables stand as the program's text lays them, and each argument reads as it did; the card ties the variables to the text of the pruned copy. Conditions: none beyond those in the given row.
-/
import Derived.Test.YthcjohcakdnmmaaGreatDoorRows
import Derived.Test.YthcjohcakdnmmaaGreatDoorCards
import Derived.Test.YthcjohcakdnmmaaGreatDoorTie
import Derived.Shelf.Vars
import Derived.Deep.DeepHandedRow
import Derived.Deep.DeepWitnessRowRef
import Derived.LaidMore
import Derived.Lay
import Derived.Stop.Joined
import Derived.WalkKit
import Derived.ProofKit
import Derived.OpenShut
import Derived.ChangeOld
import Derived.Below
import Derived.JoinedCond
import Derived.Test.YthcjohcakdnmmaaGreatDoorZS18
import Derived.Test.YthcjohcakdnmmaaGreatDoorZS20
import Derived.Test.YthcjohcakdnmmaaGreatDoorZS46
namespace Go.Proofs.YthcjohcakdnmmaaGreatDoor.schemaBinds
open Go.Abs
open Go.Proofs.YthcjohcakdnmmaaGreatDoor
open Go.ChangeShapes Go.WideShapes Go.ChangeAt Go.RowKit
set_option linter.unusedVariables false
set_option linter.unusedSimpArgs false

theorem own : ownKnob Tryz.prog.godebug = none := by kernel_rfl
theorem laidOut : laidOutB Tryz.prog = true := by kernel_rfl

theorem glob {W : World} (h : laidMetH Tryz.prog Rows.schemaBindsUptoRow.laid W) (hsh : W.ShapedOpen Tryz.prog) : ∃ m, Glob (maxG m :: gs0) (lawEnv (sizes W)) W := by
  rw [MakeChecks.laidMetH_plain _ _ _ (by kernel_rfl)] at h
  obtain ⟨ps, hL, _, _⟩ := h
  obtain ⟨g0, t0, c0, f0, p0, q0, hg0, ht0, hv0, hd0, hL, _⟩ := hL
  obtain ⟨g1, t1, c1, f1, p1, q1, hg1, ht1, hv1, hd1, hL, _⟩ := hL
  have eg1 : Tryz.prog.globalNamed "askance/syntax.words" = some 0 := by kernel_rfl
  have et1 : (Tryz.prog.globals[0]?).map (·.type) = some 29 := by kernel_rfl
  obtain rfl := Option.some.inj (eg1.symm.trans hg1)
  obtain rfl := Option.some.inj (et1.symm.trans ht1)
  obtain ⟨g2, t2, c2, f2, p2, q2, hg2, ht2, hv2, hd2, hL, _⟩ := hL
  have ed : (Rows.laid_askance_syntax_words : DataW Unit) = .slice (words.map fun s => .lit (.string s)) [] := by unfold words; rfl
  rw [ed] at hd1
  have r1 := laid_strs eg1 hv1 Tryz.underlying29 Tryz.underlying9 (by kernel_rfl) (fun e => by have := congrArg List.length e; rw [words_len] at this; cases this) hd1
  obtain ⟨m, hm0⟩ := Go.Proofs.cell_of_shapedOpen_int (P := Tryz.prog) (g := 1) (t := 3) (zero := #[.int .i64 0]) hsh (of_decide_eq_true (by kernel_rfl)) (by kernel_rfl) rfl (by kernel_rfl) (by kernel_rfl) Tryz.underlying3
  have hw1 : c1.size = 1 := by
    rcases DataW.trod_slice Tryz.underlying29 hd1 with ⟨hcs, _⟩ | ⟨a, len, cap, elems, rest, n', _, hcs, _⟩
    · have := congrArg List.length hcs; simpa using this
    · have := congrArg List.length hcs; simpa using this
  obtain ⟨ty1, sp1, bw1⟩ : ∃ ty sp, W.heap[0]? = some (.cells c1 ty sp) := by
    have h := hv1
    unfold World.var? at h
    rw [eg1, Option.bind_some] at h
    cases hb : W.heap[0]? with
    | none => rw [hb] at h; cases h
    | some o =>
      rw [hb] at h
      cases o with
      | cells c ty sp => simp only [Option.some.injEq] at h; subst h; exact ⟨ty, sp, rfl⟩
      | _ => cases h
  obtain ⟨csM, hhM, hsM, _⟩ := hsh.1 1 #[.int .i64 0] 3 (of_decide_eq_true (by kernel_rfl)) (by kernel_rfl)
  refine ⟨m, ?_⟩
  refine ⟨⟨fun b hb => sizes_new hb, fun g xs hm _ => ?_⟩, fun g xs hm i x hx => ?_⟩
  · simp only [maxG, gs0, List.mem_cons, List.not_mem_nil, or_false, Prod.mk.injEq] at hm
    rcases hm with ⟨rfl, rfl⟩ | ⟨rfl, rfl⟩
    · exact ⟨_, _, _, hhM, hsM⟩
    · exact ⟨_, _, _, bw1, by simpa using hw1⟩
  simp only [maxG, gs0, List.mem_cons, List.not_mem_nil, or_false, Prod.mk.injEq] at hm
  rcases hm with ⟨rfl, rfl⟩ | ⟨rfl, rfl⟩
  · match i, hx with
    | 0, hx => simp at hx; subst hx; exact ⟨sizes_cell hm0, _, hm0, .im rfl⟩
    | i + 1, hx => simp at hx
  · exact r1 i x hx

theorem contract (m : Int) (x0 : List IV) (f0 : Fits book [.sl 47, .sl 64] x0) (z0 : szs x0 ≤ 1048576) (x1 : List IV) (f1 : Fits book [.int .i64, .str, .str, .str, .sl 71, .sl 30, .sl 56, .sl 9, .sl 34, .int .i64, .int .i64, .int .i64, .str, .str, .str, .int .i64, .sl 34, .sl 34, .bool, .int .i64] x1) (z1 : szs x1 ≤ 1048576) : CallG (maxG m :: gs0) Tryz.prog 3 [.agg (x0.map .iv), .agg (x1.map .iv)] [] [] [] (aB true) := by
  obtain ⟨c, rfl, hc, hC⟩ := fit_cat2 f0 z0
  obtain ⟨s, rfl, hs, hcp, hvs⟩ := fit_bd f1 z1
  rw [← gsB_eq]
  exact schemaBinds_any m c s ⟨hc, hs, hcp, hvs⟩ hC

/-- the heap that the door's own run leaves meets the condition -/
theorem laid_met (os : Os) : laidMetH Tryz.prog Rows.schemaBindsUptoRow.laid ((World.laidAll Tryz.prog os Rows.schemaBindsUptoRow.laid).forCall (fun _ _ => 0) ⟨#[], #[.agg #[.slice none 0 0, .slice none 0 0], .agg #[.int .i64 0, .string ⟨#[]⟩, .string ⟨#[]⟩, .string ⟨#[]⟩, .slice none 0 0, .slice none 0 0, .slice none 0 0, .slice none 0 0, .slice none 0 0, .int .i64 0, .int .i64 0, .int .i64 0, .string ⟨#[]⟩, .string ⟨#[]⟩, .string ⟨#[]⟩, .int .i64 0, .slice none 0 0, .slice none 0 0, .bool false, .int .i64 0]], []⟩).memory :=
  by
  rw [MakeChecks.laidMetH_plain _ _ _ (by kernel_rfl)]; exact laidMet_laidAll _ (by kernel_rfl) (by kernel_rfl)
theorem reads (os : Os) {H : Type} (enc : TypeId × Value → H) : ∃ places, DataW.whole enc Tryz.prog ((World.laidAll Tryz.prog os Rows.schemaBindsUptoRow.laid).forCall (fun _ _ => 0) ⟨#[], #[.agg #[.slice none 0 0, .slice none 0 0], .agg #[.int .i64 0, .string ⟨#[]⟩, .string ⟨#[]⟩, .string ⟨#[]⟩, .slice none 0 0, .slice none 0 0, .slice none 0 0, .slice none 0 0, .slice none 0 0, .int .i64 0, .int .i64 0, .int .i64 0, .string ⟨#[]⟩, .string ⟨#[]⟩, .string ⟨#[]⟩, .int .i64 0, .slice none 0 0, .slice none 0 0, .bool false, .int .i64 0]], []⟩).memory Tryz.f3.params.toList Rows.schemaBindsSpec.vars false (#[.agg #[.slice none 0 0, .slice none 0 0], .agg #[.int .i64 0, .string ⟨#[]⟩, .string ⟨#[]⟩, .string ⟨#[]⟩, .slice none 0 0, .slice none 0 0, .slice none 0 0, .slice none 0 0, .slice none 0 0, .int .i64 0, .int .i64 0, .int .i64 0, .string ⟨#[]⟩, .string ⟨#[]⟩, .string ⟨#[]⟩, .int .i64 0, .slice none 0 0, .slice none 0 0, .bool false, .int .i64 0]] : Array Value).toList 8 = some ([.agg [.nil, .nil], .agg [.lit (.int .i64 0), .lit (.string []), .lit (.string []), .lit (.string []), .nil, .nil, .nil, .nil, .nil, .agg [.lit (.int .i64 0), .agg [.lit (.int .i64 0), .lit (.int .i64 0), .lit (.string [])], .lit (.string []), .lit (.string []), .lit (.int .i64 0), .nil], .nil, .lit (.bool false), .lit (.int .i64 0)]], [], places) :=
  ⟨[], by kernel_rfl⟩

set_option maxRecDepth 100000 in
theorem lifted (os : Os) (started : os.Started) (H : Type) (enc : TypeId × Value → H) (F : Stop.Interp) :
    ReturnsInHanded {} Tryz.checked os 3 .any ((Rows.OpenSpec.upto Rows.schemaBindsSpec).preRow enc Tryz.prog Tryz.f3 Rows.schemaBindsUptoRow.domain false Rows.schemaBindsUptoRow.laid) (((Rows.OpenSpec.upto Rows.schemaBindsSpec).at F).post enc Tryz.prog Tryz.f3 false true false false) := by
  obtain ⟨places, hx⟩ := reads os enc
  refine returnsInHanded_of_row (C := Tryz.checked) (s := (Rows.OpenSpec.upto Rows.schemaBindsSpec)) own started (by kernel_rfl) Tryz.func3
    (witness_row_atRef (enc := enc) (C := Tryz.checked) false (World.laidAll Tryz.prog os Rows.schemaBindsUptoRow.laid) #[.agg #[.slice none 0 0, .slice none 0 0], .agg #[.int .i64 0, .string ⟨#[]⟩, .string ⟨#[]⟩, .string ⟨#[]⟩, .slice none 0 0, .slice none 0 0, .slice none 0 0, .slice none 0 0, .slice none 0 0, .int .i64 0, .int .i64 0, .int .i64 0, .string ⟨#[]⟩, .string ⟨#[]⟩, .string ⟨#[]⟩, .int .i64 0, .slice none 0 0, .slice none 0 0, .bool false, .int .i64 0]] (World.laidAll_os _ _ _) (by kernel_rfl) (by kernel_rfl) (by kernel_rfl)
      (OpenSpec.preRow_of_cond 8 hx (by kernel_rfl) (fun k hk => by cases hk; kernel_rfl) (by kernel_rfl) (laid_met os))) ?_
  intro W base args ds gs before hval0 hW hcnd hk0 hsz0 hL hsh _
  have hk0 := hk0 _ rfl
  have hval : ∀ (j : Nat) t v, Tryz.f3.params[j]? = some t → args[j]? = some v → Value.okWide Tryz.prog W .any base t v := hval0
  have hW' := hW
  obtain ⟨p, q, hA0, hV, rfl, hfz, hnd⟩ := hW
  have hA : DataW.TrodAll enc Tryz.prog W 0 (fun _ => true) true Tryz.f3.params.toList args.toList ds p := hA0
  have hA1 := hA
  obtain ⟨rfl, rfl⟩ := trodVars_none hV
  have hsz : (DataW.weightsEach Tryz.prog (Tryz.f3.params.toList ++ []) (ds ++ [])).all (· ≤ reachBytes) = true := hsz0
  rw [List.append_nil, List.append_nil] at hsz
  rw [Tryz.params3] at hA hval hsz
  obtain ⟨v0, vs0, d0, ds0, p0, q0, hargs, rfl, rfl, h0, r0⟩ := trodAll_cons hA
  obtain ⟨v1, vs1, d1, ds1, p1, q1, rfl, rfl, rfl, h1, r1⟩ := trodAll_cons r0
  obtain ⟨rfl, rfl, rfl⟩ := trodAll_nil r1
  obtain rfl : args = #[v0, v1] := by cases args; simp_all
  simp only [DataW.weightsEach, List.all_append, List.append_nil, Bool.and_eq_true] at hsz
  have hk : Rows.uptoBulkAll [d0, d1] ≤ 1048576 := by simpa [Rows.uptoSmall] using hk0
  simp only [Rows.uptoBulkAll] at hk
  obtain ⟨x0, f0, e0, z0⟩ := open_agg bulk book_ok Tryz.underlying25 (cts := [.sl 47, .sl 64]) (by kernel_rfl) (by kernel_rfl) (hval 0 25 v0 rfl rfl) h0 hsz.1
  obtain ⟨x1, f1, e1, z1⟩ := open_agg bulk book_ok Tryz.underlying36 (cts := [.int .i64, .str, .str, .str, .sl 71, .sl 30, .sl 56, .sl 9, .sl 34, .int .i64, .int .i64, .int .i64, .str, .str, .str, .int .i64, .sl 34, .sl 34, .bool, .int .i64]) (by kernel_rfl) (by kernel_rfl) (hval 1 36 v1 rfl rfl) h1 hsz.2
  clear hA0 hval0
  obtain ⟨m, hgl⟩ := glob hL hsh
  refine (law_callsG (us := [v0, v1]) (contract m x0 f0 (by omega) x1 f1 (by omega)) (sizes W) (fun _ hb => sizes_new hb) hgl (.cons e0 (.cons e1 (RelL.nil _ _)))).mono fun e W' ⟨he, bel⟩ => ?_
  subst he
  exact ⟨_, rfl, _, _, _, [], _, [], hW', trodAll_mk1 (shut_bool Tryz.underlying4 _), trodAll_after laidOut bel (by kernel_rfl) hA1, rfl, bel.frame _, fun h => by cases h⟩

theorem closed : joinedFacts Tryz.pinned.checked.prog 3 Tryz.f3 ((Rows.OpenSpec.upto Rows.schemaBindsSpec)).bare Rows.schemaBindsUptoRow = true := by kernel_rfl
theorem wrap : Tryz.f3.isWrapper Tryz.pinned.checked.prog Rows.schemaBindsUptoRow.wrapper Rows.schemaBindsUptoRow.mainSum := by
  unfold Func.isWrapper; first | (rw [if_pos (by decide +kernel)]; kernel_rfl) | (rw [if_neg (by decide +kernel)]; exact ⟨rfl, rfl⟩)
theorem inst : Tryz.f3.isInstance Tryz.pinned.checked.prog Rows.schemaBindsUptoRow.origin Rows.schemaBindsUptoRow.targs := of_decide_eq_true (by kernel_rfl)
theorem named : Tryz.pinned.checked.prog.funcNamed Rows.schemaBindsUptoRow.func = some 3 := by kernel_rfl
theorem over : Rows.schemaBindsUptoRow.holds Tryz.pinned (Rows.OpenSpec.upto Rows.schemaBindsSpec) :=
  OpenClaim.holds_of_cond 3 Tryz.f3 rfl rfl rfl rfl rfl rfl rfl ⟨rfl, rfl, rfl, rfl, rfl⟩ rfl rfl rfl rfl rfl named Tryz.func3 closed inst wrap
    (fun os started H enc _ F => by rw [OpenClaim.pre_eq_preRow]; exact lifted os started H enc F)
/-- no parameter wants a stand-in; the program's own looks are as the card says -/
theorem plain (f : FuncId) (fn : Func) (hf : Tryz.pinned.checked.prog.funcNamed "askance/askancelaw.SchemaBinds" = some f) (hfn : Tryz.pinned.checked.prog.funcs[f]? = some fn) :
    false = Tryz.pinned.checked.prog.looks [] ∧ ∀ (j : Nat) t, fn.params[j]? = some t → Tryz.pinned.checked.prog.wantsStandIn t = false := by
  obtain rfl : f = 3 := Option.some.inj ((show Tryz.prog.funcNamed "askance/askancelaw.SchemaBinds" = some 3 by kernel_rfl).symm.trans hf) |>.symm
  obtain rfl : fn = Tryz.f3 := (Option.some.inj (Tryz.func3.symm.trans hfn)).symm
  refine ⟨by kernel_rfl, fun j t ht => ?_⟩
  rw [Tryz.params3] at ht
  have hm : t ∈ (#[25, 36] : Array TypeId) := Array.mem_of_getElem? ht
  have all : (#[25, 36] : Array TypeId).all (fun t => Tryz.prog.wantsStandIn t == false) = true := by kernel_rfl
  have := Array.all_eq_true'.1 all t hm
  have e : Tryz.prog.wantsStandIn t = false := by simpa using this
  exact e
theorem card : Rows.SchemaBindsUptoCardSaid :=
  Claim7.holds_tied_plain_at .later [] _ _ _ _ over (fun _ h => by cases h) (by kernel_rfl) (fun _ h => by cases h) schemaBindsUpto_row_tie rfl ⟨rfl, rfl⟩ (by kernel_rfl) rfl plain (by kernel_rfl)

theorem proved : Rows.SchemaBindsUptoCardSaid :=
  card
#print axioms proved
end Go.Proofs.YthcjohcakdnmmaaGreatDoor.schemaBinds
