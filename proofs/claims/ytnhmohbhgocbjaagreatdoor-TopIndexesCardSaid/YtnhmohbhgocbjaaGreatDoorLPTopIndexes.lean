/-
  WHAT IS PROVED: 'Rows.TopIndexesCardSaid': the law 'askancetop.TopIndexes' answers true for all arguments, which read as they did; the card ties the package's variables to the pruned copy's text. Conditions: none beyond those in the given row.
-/
import Derived.Test.YtnhmohbhgocbjaaGreatDoorWTopIndexes
import Derived.Test.YtnhmohbhgocbjaaGreatDoorRows
import Derived.Test.YtnhmohbhgocbjaaGreatDoorCards
import Derived.Test.YtnhmohbhgocbjaaGreatDoorTie
import Derived.Deep.DeepHandedRow
import Derived.Deep.DeepWitnessRowRef
import Derived.Lay
import Derived.Stop.Joined
import Derived.ProofKit
namespace Go.Proofs.YtnhmohbhgocbjaaGreatDoor.topIndexes
open Go.Proofs.Y
open Go.Abs
open Go.Proofs.YtnhmohbhgocbjaaGreatDoor
open Go.ChangeShapes Go.WideShapes Go.ChangeAt Go.RowKit
set_option linter.unusedVariables false
set_option linter.unusedSimpArgs false
theorem own:ownKnob Tryz.prog.godebug=none:=by kernel_rfl
theorem laidOut:laidOutB Tryz.prog=true:=by kernel_rfl
theorem contract[Errs](x0:IV)(f0:Fit book (.sl 72) x0):CallG cA Tryz.prog 14 [.iv x0] [] [] [] (aB true):=by
 obtain⟨l,rfl,hl⟩:=oI f0
 exact topIndexes_any l hl
theorem laid_met(os:Os):laidMetH Tryz.prog Rows.topIndexesRow.laid ((World.doorLaid Tryz.prog 4000 os).forCall (fun _ _=>0) ⟨#[],#[.slice none 0 0],[]⟩).memory:=
 laidMetH_of_parts3 (fuel:=10) (laidMet_of_run' 10 (by kernel_rfl) (by kernel_rfl)) (by kernel_rfl) (by kernel_rfl)
theorem reads(os:Os){H:Type}(enc:TypeId×Value→H): ∃places,DataW.whole enc Tryz.prog ((World.doorLaid Tryz.prog 4000 os).forCall (fun _ _=>0) ⟨#[],#[.slice none 0 0],[]⟩).memory Tryz.f14.params.toList Rows.topIndexesSpec.vars false (#[.slice none 0 0]:Array Value).toList 8=some ([.nil],[],places):=
 ⟨[],by kernel_rfl⟩
set_option maxRecDepth 100000 in
theorem lifted(os:Os)(started:os.Started)(H:Type)(enc:TypeId×Value→H)(F:Stop.Interp):
 ReturnsInHanded {} Tryz.checked os 14 .any ((OpenSpec.ofChange Rows.topIndexesSpec).preRow enc Tryz.prog Tryz.f14 Rows.topIndexesRow.domain false Rows.topIndexesRow.laid) (((OpenSpec.ofChange Rows.topIndexesSpec).at F).post enc Tryz.prog Tryz.f14 false true false false):=by
 obtain⟨places,hx⟩:=reads os enc
 refine returnsInHanded_of_row (C:=Tryz.checked) (s:=(OpenSpec.ofChange Rows.topIndexesSpec)) own started (by kernel_rfl) Tryz.func14
  (witness_row_atRef (enc:=enc) (C:=Tryz.checked) false (World.doorLaid Tryz.prog 4000 os) #[.slice none 0 0] rfl (by kernel_rfl) (by kernel_rfl) (by kernel_rfl)
    (OpenSpec.preRow_of_cond 8 hx (by kernel_rfl) (fun k hk=>by cases hk) (by kernel_rfl) (laid_met os))) ?_
 intro W base args ds gs before hval0 hW hcnd hk0 hsz0 hL hsh _
 have hval: ∀(j:Nat) t v,Tryz.f14.params[j]?=some t→args[j]?=some v→Value.okWide Tryz.prog W .any base t v:=hval0
 have hW':=hW
 obtain⟨p,q,hA0,hV,rfl,hfz,hnd⟩:=hW
 have hA:DataW.TrodAll enc Tryz.prog W 0 (fun _=>true) true Tryz.f14.params.toList args.toList ds p:=hA0
 have hA1:=hA
 obtain⟨rfl,rfl⟩:=trodVars_none hV
 have hsz:(DataW.weightsEach Tryz.prog (Tryz.f14.params.toList++ []) (ds++ [])).all (· ≤reachBytes)=true:=hsz0
 rw[List.append_nil,List.append_nil] at hsz
 rw[Tryz.params14] at hA hval hsz
 obtain⟨v0,vs0,d0,ds0,p0,q0,hargs,rfl,rfl,h0,r0⟩:=trodAll_cons hA
 obtain⟨rfl,rfl,rfl⟩:=trodAll_nil r0
 obtain rfl:args= #[v0]:=by cases args;simp_all
 simp only[DataW.weightsEach,List.all_append,List.append_nil,Bool.and_eq_true] at hsz
 obtain⟨x0,f0,e0,z0⟩:=kW Aa jS Tryz.underlying22 (by kernel_rfl) (by kernel_rfl) (hval 0 22 v0 rfl rfl) h0 hsz
 clear hA0 hval0
 obtain⟨E,hgl⟩:=BC hL
 refine(kY (us:= [v0]) (@contract E x0 f0) (fP W) (fun _ hb=>jV hb) hgl (.cons e0 (RelL.nil _ _))).mono fun e W' ⟨he,bel⟩=> ?_
 subst he
 exact⟨_,rfl,_,_,_,[],_,[],hW',trodAll_mk1 (shut_bool Tryz.underlying4 _),eV laidOut bel (by kernel_rfl) hA1,rfl,bel.frame _,fun h=>by cases h⟩
theorem closed:joinedFacts Tryz.pinned.checked.prog 14 Tryz.f14 ((OpenSpec.ofChange Rows.topIndexesSpec)).bare Rows.topIndexesRow=true:=by kernel_rfl
theorem wrap:Tryz.f14.isWrapper Tryz.pinned.checked.prog Rows.topIndexesRow.wrapper Rows.topIndexesRow.mainSum:=by
 unfold Func.isWrapper;first|(rw[if_pos (by decide+kernel)];kernel_rfl)|(rw[if_neg (by decide+kernel)];exact⟨rfl,rfl⟩)
theorem inst:Tryz.f14.isInstance Tryz.pinned.checked.prog Rows.topIndexesRow.origin Rows.topIndexesRow.targs:=of_decide_eq_true (by kernel_rfl)
theorem named:Tryz.pinned.checked.prog.funcNamed Rows.topIndexesRow.func=some 14:=by kernel_rfl
theorem over:Rows.topIndexesRow.holds Tryz.pinned (OpenSpec.ofChange Rows.topIndexesSpec):=
 OpenClaim.holds_of_cond 14 Tryz.f14 rfl rfl rfl rfl rfl rfl rfl ⟨rfl,rfl,rfl,rfl,rfl⟩ rfl rfl rfl rfl rfl named Tryz.func14 closed inst wrap
  (fun os started H enc _ F=>by rw[OpenClaim.pre_eq_preRow];exact lifted os started H enc F)
theorem plain(f:FuncId)(fn:Func)(hf:Tryz.pinned.checked.prog.funcNamed "askance/askancetop.TopIndexes" =some f)(hfn:Tryz.pinned.checked.prog.funcs[f]?=some fn):
 true=Tryz.pinned.checked.prog.looks [] ∧ ∀(j:Nat) t,fn.params[j]?=some t→Tryz.pinned.checked.prog.wantsStandIn t=false:=by
 obtain rfl:f=14:=Option.some.inj ((show Tryz.prog.funcNamed "askance/askancetop.TopIndexes" =some 14 by kernel_rfl).symm.trans hf)|>.symm
 obtain rfl:fn=Tryz.f14:=(Option.some.inj (Tryz.func14.symm.trans hfn)).symm
 refine⟨by kernel_rfl,fun j t ht=> ?_⟩
 rw[Tryz.params14] at ht
 have hm:t∈(#[22]:Array TypeId):=Array.mem_of_getElem? ht
 have all:(#[22]:Array TypeId).all (fun t=>Tryz.prog.wantsStandIn t==false)=true:=by kernel_rfl
 have:=Array.all_eq_true'.1 all t hm
 have e:Tryz.prog.wantsStandIn t=false:=by simpa using this
 exact e
theorem card:Rows.TopIndexesCardSaid:=
 Claim7.holds_tied_plain_at .later [] _ _ _ _ over (fun _ h=>by cases h) (by kernel_rfl) (fun _ h=>by cases h) topIndexes_row_tie rfl ⟨rfl,rfl⟩ (by kernel_rfl) rfl plain (by kernel_rfl)
theorem proved:Rows.TopIndexesCardSaid:=
 card
#print axioms proved
end Go.Proofs.YtnhmohbhgocbjaaGreatDoor.topIndexes
