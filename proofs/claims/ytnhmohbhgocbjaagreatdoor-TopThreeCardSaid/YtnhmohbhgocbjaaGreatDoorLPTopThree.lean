/- WHAT IS PROVED: 'Rows.TopThreeCardSaid': the law 'askancetop.TopThree' answers true for all arguments, which read as they did. Conditions: none beyond those in the given row. -/
import Derived.Test.YtnhmohbhgocbjaaGreatDoorWTopThree
import Derived.Test.YtnhmohbhgocbjaaGreatDoorRows
import Derived.Test.YtnhmohbhgocbjaaGreatDoorCards
import Derived.Test.YtnhmohbhgocbjaaGreatDoorTie
import Derived.Deep.DeepHandedRow
import Derived.Deep.DeepWitnessRowRef
import Derived.Lay
import Derived.Stop.Joined
import Derived.ProofKit
namespace Go.Proofs.YtnhmohbhgocbjaaGreatDoor.topThree
open Go.Proofs.Y Go.Abs Go.Proofs.Tryz Go.ChangeShapes Go.WideShapes Go.ChangeAt Go.RowKit
set_option linter.all false
theorem own:ownKnob prog.godebug=none:=by kernel_rfl
theorem laidOut:laidOutB prog=true:=by kernel_rfl
theorem contract[C3](x0:IV)(f0:F0 book (.sl 72) x0)(x1:IV)(f1:F0 book (.str) x1)(x2:IV)(f2:F0 book (.str) x2):CallG cH prog 3 [.iv x0,.iv x1,.iv x2] [] [] [] (aB true):=by
 obtain⟨l,rfl,hl⟩:=oA f0
 obtain⟨t,rfl,ht⟩:=f1.str_inv
 obtain⟨c,rfl,hc⟩:=f2.str_inv
 have hr:reachBytes=140737488351232:=rfl
 exact topThree_any l hl t c (by omega) (by omega)
theorem laid_met(os:Os):laidMetH prog Rows.topThreeRow.laid ((World.doorLaid prog 4000 os).forCall (fun _ _=>0) ⟨#[],#[.slice none 0 0,.string ⟨#[]⟩,.string ⟨#[]⟩],[]⟩).memory:=
 laidMetH_of_parts3 (fuel:=10) (laidMet_of_run' 10 (by kernel_rfl) (by kernel_rfl)) (by kernel_rfl) (by kernel_rfl)
theorem reads(os:Os){H:Type}(enc:TypeId×Value→H): ∃places,DataW.whole enc prog ((World.doorLaid prog 4000 os).forCall (fun _ _=>0) ⟨#[],#[.slice none 0 0,.string ⟨#[]⟩,.string ⟨#[]⟩],[]⟩).memory f3.params.toList Rows.topThreeSpec.vars false (#[.slice none 0 0,.string ⟨#[]⟩,.string ⟨#[]⟩]:Array Value).toList 8=some ([.nil,.lit (.string []),.lit (.string [])],[],places):=
 ⟨[],by kernel_rfl⟩
set_option maxRecDepth 100000 in
theorem lifted(os:Os)(started:os.Started)(H:Type)(enc:TypeId×Value→H)(F:Stop.Interp):
 ReturnsInHanded {} checked os 3 .any ((OpenSpec.ofChange Rows.topThreeSpec).preRow enc prog f3 Rows.topThreeRow.domain false Rows.topThreeRow.laid) (((OpenSpec.ofChange Rows.topThreeSpec).at F).post enc prog f3 false true false false):=by
 obtain⟨places,hx⟩:=reads os enc
 refine returnsInHanded_of_row (C:=checked) (s:=(OpenSpec.ofChange Rows.topThreeSpec)) own started (by kernel_rfl) func3
  (witness_row_atRef (enc:=enc) (C:=checked) false (World.doorLaid prog 4000 os) #[.slice none 0 0,.string ⟨#[]⟩,.string ⟨#[]⟩] rfl (by kernel_rfl) (by kernel_rfl) (by kernel_rfl)
    (OpenSpec.preRow_of_cond 8 hx (by kernel_rfl) (fun k hk=>by cases hk) (by kernel_rfl) (laid_met os))) ?_
 intro W base args ds gs before hval0 hW hcnd hk0 hsz0 hL hsh _
 have hval: ∀(j:Nat) t v,f3.params[j]?=some t→args[j]?=some v→Value.okWide prog W .any base t v:=hval0
 have hW':=hW
 obtain⟨p,q,hA0,hV,rfl,hfz,hnd⟩:=hW
 have hA:DataW.TrodAll enc prog W 0 (fun _=>true) true f3.params.toList args.toList ds p:=hA0
 have hA1:=hA
 obtain⟨rfl,rfl⟩:=trodVars_none hV
 have hsz:(DataW.weightsEach prog (f3.params.toList++ []) (ds++ [])).all (· ≤reachBytes)=true:=hsz0
 rw[List.append_nil,List.append_nil] at hsz
 rw[params3] at hA hval hsz
 obtain⟨v0,vs0,d0,ds0,p0,q0,hargs,rfl,rfl,h0,r0⟩:=trodAll_cons hA
 obtain⟨v1,vs1,d1,ds1,p1,q1,rfl,rfl,rfl,h1,r1⟩:=trodAll_cons r0
 obtain⟨v2,vs2,d2,ds2,p2,q2,rfl,rfl,rfl,h2,r2⟩:=trodAll_cons r1
 obtain⟨rfl,rfl,rfl⟩:=trodAll_nil r2
 obtain rfl:args= #[v0,v1,v2]:=by cases args;simp_all
 simp only[DataW.weightsEach,List.all_append,List.append_nil,Bool.and_eq_true] at hsz
 obtain⟨x0,f0,e0,z0⟩:=kQ zz jQ underlying22 (by kernel_rfl) (by kernel_rfl) (hval 0 22 v0 rfl rfl) h0 hsz.1
 obtain⟨x1,f1,e1,z1⟩:=Hv zz jQ underlying9 (by kernel_rfl) (hval 1 9 v1 rfl rfl) h1 hsz.2.1
 obtain⟨x2,f2,e2,z2⟩:=Hv zz jQ underlying9 (by kernel_rfl) (hval 2 9 v2 rfl rfl) h2 hsz.2.2
 clear hA0 hval0
 obtain⟨E,hgl⟩:=Bf hL
 refine(kU (us:= [v0,v1,v2]) (@contract E x0 f0 x1 f1 x2 f2) (fL W) (fun _ hb=>jT hb) hgl (.cons e0 (.cons e1 (.cons e2 (RelL.nil _ _))))).mono fun e W' ⟨he,bel⟩=> ?_
 subst he
 exact⟨_,rfl,_,_,_,[],_,[],hW',trodAll_mk1 (shut_bool underlying4 _),eS laidOut bel (by kernel_rfl) hA1,rfl,bel.frame _,fun h=>by cases h⟩
theorem closed:joinedFacts Tryz.pinned.checked.prog 3 f3 ((OpenSpec.ofChange Rows.topThreeSpec)).bare Rows.topThreeRow=true:=by kernel_rfl
theorem wrap:f3.isWrapper Tryz.pinned.checked.prog Rows.topThreeRow.wrapper Rows.topThreeRow.mainSum:=by
 unfold Func.isWrapper;first|(rw[if_pos (by decide+kernel)];kernel_rfl)|(rw[if_neg (by decide+kernel)];exact⟨rfl,rfl⟩)
theorem over:Rows.topThreeRow.holds Tryz.pinned (OpenSpec.ofChange Rows.topThreeSpec):=
 OpenClaim.holds_of_cond 3 f3 rfl rfl rfl rfl rfl rfl rfl ⟨rfl,rfl,rfl,rfl,rfl⟩ rfl rfl rfl rfl rfl (by kernel_rfl) func3 closed (of_decide_eq_true (by kernel_rfl)) wrap
  (fun os started H enc _ F=>by rw[OpenClaim.pre_eq_preRow];exact lifted os started H enc F)
theorem plain(f:FuncId)(fn:Func)(hf:Tryz.pinned.checked.prog.funcNamed "askance/askancetop.TopThree" =some f)(hfn:Tryz.pinned.checked.prog.funcs[f]?=some fn):
 true=Tryz.pinned.checked.prog.looks [] ∧ ∀(j:Nat) t,fn.params[j]?=some t→Tryz.pinned.checked.prog.wantsStandIn t=false:=by
 obtain rfl:f=3:=Option.some.inj ((show prog.funcNamed "askance/askancetop.TopThree" =some 3 by kernel_rfl).symm.trans hf)|>.symm
 obtain rfl:fn=f3:=(Option.some.inj (func3.symm.trans hfn)).symm
 refine⟨by kernel_rfl,fun j t ht=> ?_⟩
 rw[params3] at ht
 have hm:t∈(#[22,9,9]:Array TypeId):=Array.mem_of_getElem? ht
 have all:(#[22,9,9]:Array TypeId).all (fun t=>prog.wantsStandIn t==false)=true:=by kernel_rfl
 exact(by simpa using Array.all_eq_true'.1 all t hm:prog.wantsStandIn t=false)
theorem proved:Rows.TopThreeCardSaid:=
 Claim7.holds_tied_plain_at .later [] _ _ _ _ over (fun _ h=>by cases h) (by kernel_rfl) (fun _ h=>by cases h) topThree_row_tie rfl ⟨rfl,rfl⟩ (by kernel_rfl) rfl plain (by kernel_rfl)
#print axioms proved
end Go.Proofs.YtnhmohbhgocbjaaGreatDoor.topThree
