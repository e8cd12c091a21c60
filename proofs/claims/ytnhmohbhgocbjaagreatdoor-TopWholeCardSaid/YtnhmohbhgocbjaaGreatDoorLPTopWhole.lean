/- WHAT IS PROVED: 'Rows.TopWholeCardSaid': the law 'askancetop.TopWhole' answers true for all arguments, which read as they did. Conditions: none beyond those in the given row. -/
import Derived.Test.YtnhmohbhgocbjaaGreatDoorWTopWhole
import Derived.Test.YtnhmohbhgocbjaaGreatDoorRows
import Derived.Test.YtnhmohbhgocbjaaGreatDoorCards
import Derived.Test.YtnhmohbhgocbjaaGreatDoorTie
import Derived.Deep.DeepHandedRow
import Derived.Deep.DeepWitnessRowRef
import Derived.Lay
import Derived.Stop.Joined
import Derived.ProofKit
namespace Go.Proofs.YtnhmohbhgocbjaaGreatDoor.topWhole
open Go.Proofs.Y Go.Abs Go.Proofs.Tryz Go.ChangeShapes Go.WideShapes Go.ChangeAt Go.RowKit
set_option linter.all false
theorem own:ownKnob prog.godebug=none:=by kernel_rfl
theorem laidOut:laidOutB prog=true:=by kernel_rfl
theorem contract[C3](x0:IV)(f0:F0 book (.sl 72) x0):CallG cH prog 7 [.iv x0] [] [] [] (aB true):=by
 obtain⟨l,rfl,hl⟩:=oA f0
 exact topWhole_any l hl
theorem laid_met(os:Os):laidMetH prog Rows.topWholeRow.laid ((World.doorLaid prog 4000 os).forCall (fun _ _=>0) ⟨#[],#[.slice none 0 0],[]⟩).memory:=
 laidMetH_of_parts3 (fuel:=10) (laidMet_of_run' 10 (by kernel_rfl) (by kernel_rfl)) (by kernel_rfl) (by kernel_rfl)
theorem reads(os:Os){H:Type}(enc:TypeId×Value→H): ∃places,DataW.whole enc prog ((World.doorLaid prog 4000 os).forCall (fun _ _=>0) ⟨#[],#[.slice none 0 0],[]⟩).memory f7.params.toList Rows.topWholeSpec.vars false (#[.slice none 0 0]:Array Value).toList 8=some ([.nil],[],places):=
 ⟨[],by kernel_rfl⟩
set_option maxRecDepth 100000 in
theorem lifted(os:Os)(started:os.Started)(H:Type)(enc:TypeId×Value→H)(F:Stop.Interp):
 ReturnsInHanded {} checked os 7 .any ((OpenSpec.ofChange Rows.topWholeSpec).preRow enc prog f7 Rows.topWholeRow.domain false Rows.topWholeRow.laid) (((OpenSpec.ofChange Rows.topWholeSpec).at F).post enc prog f7 false true false false):=by
 obtain⟨places,hx⟩:=reads os enc
 refine returnsInHanded_of_row (C:=checked) (s:=(OpenSpec.ofChange Rows.topWholeSpec)) own started (by kernel_rfl) func7
  (witness_row_atRef (enc:=enc) (C:=checked) false (World.doorLaid prog 4000 os) #[.slice none 0 0] rfl (by kernel_rfl) (by kernel_rfl) (by kernel_rfl)
    (OpenSpec.preRow_of_cond 8 hx (by kernel_rfl) (fun k hk=>by cases hk) (by kernel_rfl) (laid_met os))) ?_
 intro W base args ds gs before hval0 hW hcnd hk0 hsz0 hL hsh _
 have hval: ∀(j:Nat) t v,f7.params[j]?=some t→args[j]?=some v→Value.okWide prog W .any base t v:=hval0
 have hW':=hW
 obtain⟨p,q,hA0,hV,rfl,hfz,hnd⟩:=hW
 have hA:DataW.TrodAll enc prog W 0 (fun _=>true) true f7.params.toList args.toList ds p:=hA0
 have hA1:=hA
 obtain⟨rfl,rfl⟩:=trodVars_none hV
 have hsz:(DataW.weightsEach prog (f7.params.toList++ []) (ds++ [])).all (· ≤reachBytes)=true:=hsz0
 rw[List.append_nil,List.append_nil] at hsz
 rw[params7] at hA hval hsz
 obtain⟨v0,vs0,d0,ds0,p0,q0,hargs,rfl,rfl,h0,r0⟩:=trodAll_cons hA
 obtain⟨rfl,rfl,rfl⟩:=trodAll_nil r0
 obtain rfl:args= #[v0]:=by cases args;simp_all
 simp only[DataW.weightsEach,List.all_append,List.append_nil,Bool.and_eq_true] at hsz
 obtain⟨x0,f0,e0,z0⟩:=kQ zz jQ underlying22 (by kernel_rfl) (by kernel_rfl) (hval 0 22 v0 rfl rfl) h0 hsz
 clear hA0 hval0
 obtain⟨E,hgl⟩:=Bf hL
 refine(kU (us:= [v0]) (@contract E x0 f0) (fL W) (fun _ hb=>jT hb) hgl (.cons e0 (RelL.nil _ _))).mono fun e W' ⟨he,bel⟩=> ?_
 subst he
 exact⟨_,rfl,_,_,_,[],_,[],hW',trodAll_mk1 (shut_bool underlying4 _),eS laidOut bel (by kernel_rfl) hA1,rfl,bel.frame _,fun h=>by cases h⟩
theorem closed:joinedFacts Tryz.pinned.checked.prog 7 f7 ((OpenSpec.ofChange Rows.topWholeSpec)).bare Rows.topWholeRow=true:=by kernel_rfl
theorem wrap:f7.isWrapper Tryz.pinned.checked.prog Rows.topWholeRow.wrapper Rows.topWholeRow.mainSum:=by
 unfold Func.isWrapper;first|(rw[if_pos (by decide+kernel)];kernel_rfl)|(rw[if_neg (by decide+kernel)];exact⟨rfl,rfl⟩)
theorem over:Rows.topWholeRow.holds Tryz.pinned (OpenSpec.ofChange Rows.topWholeSpec):=
 OpenClaim.holds_of_cond 7 f7 rfl rfl rfl rfl rfl rfl rfl ⟨rfl,rfl,rfl,rfl,rfl⟩ rfl rfl rfl rfl rfl (by kernel_rfl) func7 closed (of_decide_eq_true (by kernel_rfl)) wrap
  (fun os started H enc _ F=>by rw[OpenClaim.pre_eq_preRow];exact lifted os started H enc F)
theorem plain(f:FuncId)(fn:Func)(hf:Tryz.pinned.checked.prog.funcNamed "askance/askancetop.TopWhole" =some f)(hfn:Tryz.pinned.checked.prog.funcs[f]?=some fn):
 true=Tryz.pinned.checked.prog.looks [] ∧ ∀(j:Nat) t,fn.params[j]?=some t→Tryz.pinned.checked.prog.wantsStandIn t=false:=by
 obtain rfl:f=7:=Option.some.inj ((show prog.funcNamed "askance/askancetop.TopWhole" =some 7 by kernel_rfl).symm.trans hf)|>.symm
 obtain rfl:fn=f7:=(Option.some.inj (func7.symm.trans hfn)).symm
 refine⟨by kernel_rfl,fun j t ht=> ?_⟩
 rw[params7] at ht
 have hm:t∈(#[22]:Array TypeId):=Array.mem_of_getElem? ht
 have all:(#[22]:Array TypeId).all (fun t=>prog.wantsStandIn t==false)=true:=by kernel_rfl
 exact(by simpa using Array.all_eq_true'.1 all t hm:prog.wantsStandIn t=false)
theorem proved:Rows.TopWholeCardSaid:=
 Claim7.holds_tied_plain_at .later [] _ _ _ _ over (fun _ h=>by cases h) (by kernel_rfl) (fun _ h=>by cases h) topWhole_row_tie rfl ⟨rfl,rfl⟩ (by kernel_rfl) rfl plain (by kernel_rfl)
#print axioms proved
end Go.Proofs.YtnhmohbhgocbjaaGreatDoor.topWhole
