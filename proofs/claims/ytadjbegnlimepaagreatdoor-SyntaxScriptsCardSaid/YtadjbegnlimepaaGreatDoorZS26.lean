/- Several texts in one, each with its own sentence ahead of it. Conditions: each one says its own. -/
import Derived.Test.YtadjbegnlimepaaGreatDoorZS21
import Derived.Test.YtadjbegnlimepaaGreatDoorZS25
set_option linter.all false
namespace Go.Proofs.YtadjbegnlimepaaGreatDoor
open Go.Abs
set_option maxRecDepth 100000
attribute [local irreducible] L Code.wp bodyPost Exit.then Exit.inBlock
set_option linter.unusedVariables false
set_option linter.unusedSimpArgs false
set_option linter.unusedSectionVars false
def psListL{α:Type}(step:Rd→α×Rd):Nat→List α→Rd→List α×Rd
 |0,l,r=>(l,r)
 |n+1,l,r=>
  if r.bad then(l,r)
  else if(atRd (step r).2 [[44]]).1 then psListL step n (l++ [(step r).1]) (atRd (step r).2 [[44]]).2
  else(l++ [(step r).1],(atRd (step r).2 [[44]]).2)
def psList{α:Type}(step:Rd→α×Rd)(r:Rd):List α×Rd:=psListL step (r.l.length+1) [] r
theorem sf_listL{α:Type}{step:Rd→α×Rd}(h: ∀r,Sf r (step r).2): ∀(n:Nat) (l:List α) (r:Rd),Sf r (psListL step n l r).2
 |0,l,r=> .refl r
 |n+1,l,r=>by
  unfold psListL
  split
  · exact .refl r
  split
  · exact((h r).trans (sf_at _ _)).trans (sf_listL h n _ _)
  · exact(h r).trans (sf_at _ _)
theorem sf_list{α:Type}{step:Rd→α×Rd}(h: ∀r,Sf r (step r).2)(r:Rd):Sf r (psList step r).2:=sf_listL h _ _ _
theorem listL_ne{α:Type}{step:Rd→α×Rd}: ∀(n:Nat) (l:List α) (r:Rd),l≠ [] →(psListL step n l r).1≠ []
 |0,l,r,h=>h
 |n+1,l,r,h=>by
  unfold psListL
  split
  · exact h
  split
  · exact listL_ne n _ _ (by simp)
  · simp
theorem list_ne{α:Type}{step:Rd→α×Rd}{r:Rd}(h:r.bad=false):(psList step r).1≠ []:=by
 unfold psList psListL
 rw[if_neg (by rw[h];decide)]
 split
 · exact listL_ne _ _ _ (by simp)
 · simp
theorem keys_all{β γ:Type}{a:List (Nat×β)}{b:List (Nat×γ)}(h:(keys a).all (fun i=>(b.lookup i).isSome)=true): ∀id∈keys a,(b.lookup id).isSome=true:=fun id hid=>List.all_eq_true.1 h id hid
variable [Errs]
abbrev pB:Box:=⟨42,.l [.ptr 1000 0]⟩
structure Grows {α:Type} (f:FuncId) (caps:List AV) (b0:Box) (b:Nat→Nat→Box) (g:List α→Box) (step:Rd→α×Rd):Prop where
 cp: ∀id,id≠1001→id≠1003→AV.ments id caps=false:=by intro id h1 h2;simp[AV.ments,AV.ment,Ne.symm h1,Ne.symm h2]
 cr:AV.rens (Abs.sws [(1002,1004)]) caps=caps:=by rfl
 z:b0.cs.isEmpty=false:=by rfl
 zm: ∀id,b0.ment id=false:=by intro id;rfl
 zi: ∀l,AV.mentsIn l b0.cs=true:=by intro l;rfl
 v: ∀i n,(b i n).cs.isEmpty=false:=by intro i n;rfl
 vt: ∀i n,(b i n).ty=b0.ty:=by intro i n;rfl
 vm: ∀i n id,id≠i→(b i n).ment id=false:=by intro i n id h;simp[Box.ment,AV.ments,AV.ment,Ne.symm h]
 vi: ∀i n l,l.contains i=true→AV.mentsIn l (b i n).cs=true:=by intro i n l h;simp only[Box.cs_l,AV.mentsIn,AV.mentIn,h,Bool.and_self]
 vr: ∀n,(b 1004 n).ren (Abs.sws [(1002,1004)])=b 1002 n:=by intro n;rfl
 gn: ∀l,l≠ [] →(g l).cs.isEmpty=false
 gt: ∀l l',(g l).ty=(g l').ty:=by intro l l';rfl
 gm: ∀l id,(g l).ment id=false:=by intro l id;rfl
 gi: ∀l m,AV.mentsIn m (g l).cs=true:=by intro l m;simp only[Box.cs_r,List.replicate_zero,List.append_nil];exact AV.mentsIn_iv _ _
 gr: ∀l,(g l).ren (Abs.sws [(1002,1004)])=g l:=by intro l;rfl
 c0: ∀r,RdOk r→CallG gsP Tryz.prog f caps [(1000,rdB r),(1001,b0),(1003,pB)] [(1000,rdB (step r).2),(1001,b 1002 1),(1003,pB),(1002,g [(step r).1])] [] (.tup [])
 c1: ∀r l,RdOk r→l≠ [] →l.length≤1000000→CallG gsP Tryz.prog f caps [(1000,rdB r),(1001,b 1002 l.length),(1003,pB),(1002,g l)] [(1000,rdB (step r).2),(1001,b 1004 (l.length+1)),(1003,pB),(1002,⟨(g l).ty,.l []⟩),(1004,g (l++ [(step r).1]))] [] (.tup [])
theorem list_bad{α:Type}{f:FuncId}{caps:List AV}{b0:Box}{b:Nat→Nat→Box}{g:List α→Box}{step:Rd→α×Rd}(h:Grows f caps b0 b g step)(r:Rd)(hb:r.bad=true):
 CallG gsP Tryz.prog 23 [.ptr 1000 0,.fn f caps] [(1000,rdB r),(1001,b0),(1003,pB)] [(1000,rdB r),(1001,b0),(1003,pB)] [] (.tup []):=by
 refine CallG.intro _ Tryz.func23 rfl Tryz.ntmps23 rfl (fun w0 E0 hG=> ?_)
 (repeat' (first|refine wk1 ?_|refine wk2 (fun hb hp=> ?_) (fun hb hp=> ?_)|fail))
 refine L.loopP (ι:=Nat) (fun i=>⟨[(0,.ptr 1000 0),(1,.fn f caps)],[(1000,rdB r),(1001,b0),(1003,pB)],[]⟩) (fun i=>i) (fun i=>True) (i0:=0) ?_ trivial ?_
 · exact Wk.mkX keys_some (.cons rfl (Sub.refl _) (.cons rfl (Sub.refl _) .nil)) (fun s v h=>h) .nil
 intro i _ K hK
 have q:(!r.bad)=false:=by rw[hb];rfl
 (repeat' (first|refine wk1 ?_|refine wk2 (fun hb hp=> ?_) (fun hb hp=> ?_)|fail))
 apply L.endQ0N;exact rfl;exact rfl;exact Wk.mkX keys_some .nil (fun s v h=>h) .nil;exact rfl
set_option maxHeartbeats 8000000 in
theorem list_any{α:Type}{f:FuncId}[CallTy Tryz.prog f]{caps:List AV}{b0:Box}{b:Nat→Nat→Box}{g:List α→Box}{step:Rd→α×Rd}(h:Grows f caps b0 b g step)(hs: ∀r,Sf r (step r).2)(r:Rd)(hr:RdOk r)(hb:r.bad=false):
 CallG gsP Tryz.prog 23 [.ptr 1000 0,.fn f caps] [(1000,rdB r),(1001,b0),(1003,pB)] [(1000,rdB (psList step r).2),(1001,b 1002 (psList step r).1.length),(1003,pB),(1002,g (psList step r).1)] [] (.tup []):=by
 unfold psList
 generalize hW:psListL step (r.l.length+1) [] r=W
 refine CallG.intro _ Tryz.func23 rfl Tryz.ntmps23 rfl (fun w0 E0 hG=> ?_)
 have c2:=h.cp 1002 (by decide) (by decide)
 have c4:=h.cp 1004 (by decide) (by decide)
 have c12:=h.cp 12 (by decide) (by decide)
 have z12:=h.zm 12
 have v12:=fun i n=>h.vm i n 12
 have g12:=fun l=>h.gm l 12
 have z2:=h.zm 1002
 have z4:=h.zm 1004
 (repeat' (first|refine wk1 ?_|refine wk2 (fun hb hp=> ?_) (fun hb hp=> ?_)|fail))
 refine L.loopP (ι:=Nat×List α×Rd) (fun i=>match i.2.1 with
  | [] =>⟨[(0,.ptr 1000 0),(1,.fn f caps)],[(1000,rdB i.2.2),(1001,b0),(1003,pB)],[]⟩
  |x::l=>⟨[(0,.ptr 1000 0),(1,.fn f caps)],[(1000,rdB i.2.2),(1001,b 1002 (x::l).length),(1003,pB),(1002,g (x::l))],[]⟩) (fun i=>i.1) (fun i=>psListL step i.1 i.2.1 i.2.2=W∧i.2.2.l.length<i.1∧RdOk i.2.2∧i.2.1.length+i.2.2.l.length≤1000000∧(i.2.1= [] →i.2.2.bad=false)) (i0:=(r.l.length+1,[],r)) ?_ ⟨hW,Nat.lt_succ_self _,hr,(by have:=hr.n;simpa using this),fun _=>hb⟩ ?_
 · exact Wk.mkX keys_some (.cons rfl (Sub.refl _) (.cons rfl (Sub.refl _) .nil)) (fun s v h=>h) .nil
 clear hW hr hb
 rintro ⟨n,l,r⟩ ⟨hI,hn,hr,hlen,hbad⟩ K hK
 dsimp only at hI hn hr hlen hbad
 cases n with
 |zero=>omega
 |succ n=>
 unfold psListL at hI
 have hsr:=hs r
 have hok:=hsr.ok hr
 have hle:=hsr.le
 have ka:=at_any (gs:=gsP) (step r).2 [[44]] hok (by decide)
 have hoa:=(sf_at (step r).2 [[44]]).ok hok
 cases l with
 |nil=>
  have hb:=hbad rfl
  rw[if_neg (by rw[hb];decide)] at hI
  have q:(!r.bad)=true:=by rw[hb];rfl
  have kc:=h.c0 r hr
  have m1:=h.vi 1002 1 [1002,1000,1001,1003] rfl
  have m2:=h.gi [(step r).1] [1002,1000,1001,1003]
  cases h1:(atRd (step r).2 [[44]]).1 with
  |true=>
   have hlt:=at_lt h1 (by decide)
   rw[if_pos h1] at hI
   rw[h1] at ka
   generalize step r=p at*
   obtain⟨x,r1⟩:=p
   dsimp only at*
   generalize (atRd r1 [[44]]).2=r2 at*
   (repeat' (first|(apply s_callFnW [1002] (f:=f) (avs:= []) (bxi:= [(1000,rdB r),(1001,b0),(1003,pB)]);exact rfl;exact hG;exact rfl;exact kc;exact Subs.refl _;exact .cons rfl rfl (Subs.refl _) (.cons rfl rfl (Subs.refl _) (.cons rfl rfl (Subs.refl _) .nil));exact(by simp[St.fresh,AV.ment,AV.ments,c2,z2,show Box.ment 1002 pB=false from rfl,show∀r,Box.ment 1002 (rdB r)=false from fun _=>rfl]);exact(by simp[boOk,keys,h.z]);exact(by simp[keys,AV.mentsIn,AV.mentIn,m1,m2]);exact rfl)|(refine LW.is ?_;first|(apply s_callQ1 (q:=1000) (ha:=rfl);(case hb=>exact rfl);(case hc=>assumption);(case hG=>assumption);exact rfl;exact rfl;exact rfl;exact rfl)|(apply s_bslice;exact rfl;exact rfl;exact rfl;exact rfl;exact rfl;(apply n_some;exact rfl;exact rfl);(apply n_some;exact rfl;exact rfl);exact rfl;exact rfl;exact(by simp[St.fresh,AV.ment,AV.ments,c12,z12,v12 1002 1 (by decide),g12,show Box.ment 12 pB=false from rfl,show∀r,Box.ment 12 (rdB r)=false from fun _=>rfl])))|(refine DR.is ?_;first|(apply d_callQ1 (q:=1000) (ha:=rfl);(case hb=>exact rfl);(case hc=>assumption);(case hG=>assumption);exact rfl;exact rfl;exact rfl;exact rfl)|(apply d_bslice;exact rfl;exact rfl;exact rfl;exact rfl;exact rfl;(apply n_some;exact rfl;exact rfl);(apply n_some;exact rfl;exact rfl);exact rfl;exact rfl;exact(by simp[St.fresh,AV.ment,AV.ments,c12,z12,v12 1002 1 (by decide),g12,show Box.ment 12 pB=false from rfl,show∀r,Box.ment 12 (rdB r)=false from fun _=>rfl])))|refine wk1 ?_|refine wk2 (fun hb hp=> ?_) (fun hb hp=> ?_)|fail))
   exact hK _ (n,[x],r2) ⟨hI,by dsimp only;omega,hoa,by simp only[List.length_cons,List.length_nil] at hlen⊢;omega,fun e=>by cases e⟩ (Nat.lt_succ_self _) (Wk.mk' (keys_all rfl) (.cons rfl (Sub.refl _) (.cons rfl (Sub.refl _) .nil)) (.cons rfl rfl (Subs.refl _) (.cons rfl rfl (Subs.refl _) (.cons rfl rfl (Subs.refl _) (.cons rfl rfl (Subs.refl _) .nil)))) .nil)
  |false=>
   rw[if_neg (by rw[h1];decide)] at hI
   subst hI
   rw[h1] at ka
   generalize step r=p at*
   obtain⟨x,r1⟩:=p
   dsimp only at*
   generalize (atRd r1 [[44]]).2=r2 at*
   (repeat' (first|(apply s_callFnW [1002] (f:=f) (avs:= []) (bxi:= [(1000,rdB r),(1001,b0),(1003,pB)]);exact rfl;exact hG;exact rfl;exact kc;exact Subs.refl _;exact .cons rfl rfl (Subs.refl _) (.cons rfl rfl (Subs.refl _) (.cons rfl rfl (Subs.refl _) .nil));exact(by simp[St.fresh,AV.ment,AV.ments,c2,z2,show Box.ment 1002 pB=false from rfl,show∀r,Box.ment 1002 (rdB r)=false from fun _=>rfl]);exact(by simp[boOk,keys,h.z]);exact(by simp[keys,AV.mentsIn,AV.mentIn,m1,m2]);exact rfl)|(refine LW.is ?_;first|(apply s_callQ1 (q:=1000) (ha:=rfl);(case hb=>exact rfl);(case hc=>assumption);(case hG=>assumption);exact rfl;exact rfl;exact rfl;exact rfl)|(apply s_bslice;exact rfl;exact rfl;exact rfl;exact rfl;exact rfl;(apply n_some;exact rfl;exact rfl);(apply n_some;exact rfl;exact rfl);exact rfl;exact rfl;exact(by simp[St.fresh,AV.ment,AV.ments,c12,z12,v12 1002 1 (by decide),g12,show Box.ment 12 pB=false from rfl,show∀r,Box.ment 12 (rdB r)=false from fun _=>rfl])))|(refine DR.is ?_;first|(apply d_callQ1 (q:=1000) (ha:=rfl);(case hb=>exact rfl);(case hc=>assumption);(case hG=>assumption);exact rfl;exact rfl;exact rfl;exact rfl)|(apply d_bslice;exact rfl;exact rfl;exact rfl;exact rfl;exact rfl;(apply n_some;exact rfl;exact rfl);(apply n_some;exact rfl;exact rfl);exact rfl;exact rfl;exact(by simp[St.fresh,AV.ment,AV.ments,c12,z12,v12 1002 1 (by decide),g12,show Box.ment 12 pB=false from rfl,show∀r,Box.ment 12 (rdB r)=false from fun _=>rfl])))|refine wk1 ?_|refine wk2 (fun hb hp=> ?_) (fun hb hp=> ?_)|fail))
   apply L.endQ0;exact rfl;exact rfl;exact Wk.mk' (keys_all rfl) .nil (.cons rfl rfl (Subs.refl _) (.cons rfl rfl (Subs.refl _) (.cons rfl rfl (Subs.refl _) (.cons rfl rfl (Subs.refl _) .nil)))) .nil;exact rfl
 |cons y l=>
  have kc:=h.c1 r (y::l) hr (by simp) (by simp only[List.length_cons] at hlen⊢;omega)
  have m1:=fun n=>h.vi 1004 n [1004,1000,1001,1003,1002] rfl
  have m2:=fun l=>h.gi l [1004,1000,1001,1003,1002]
  cases hb:r.bad with
  |true=>
   rw[if_pos hb] at hI
   subst hI
   have q:(!r.bad)=false:=by rw[hb];rfl
   (repeat' (first|refine wk1 ?_|refine wk2 (fun hb hp=> ?_) (fun hb hp=> ?_)|fail))
   apply L.endQ0N;exact rfl;exact rfl;exact Wk.mk' (keys_all rfl) .nil (.cons rfl rfl (Subs.refl _) (.cons rfl rfl (Subs.refl _) (.cons rfl rfl (Subs.refl _) (.cons rfl rfl (Subs.refl _) .nil)))) .nil;exact rfl
  |false=>
  rw[if_neg (by rw[hb];decide)] at hI
  have q:(!r.bad)=true:=by rw[hb];rfl
  cases h1:(atRd (step r).2 [[44]]).1 with
  |true=>
   have hlt:=at_lt h1 (by decide)
   rw[if_pos h1] at hI
   rw[h1] at ka
   generalize step r=p at*
   obtain⟨x,r1⟩:=p
   dsimp only at*
   generalize (atRd r1 [[44]]).2=r2 at*
   have e:(b 1004 ((y::l).length+1)).ren (Abs.sws [(1002,1004)])=b 1002 ((y::l)++ [x]).length:=by rw[List.length_append];exact h.vr _
   (repeat' (first|(apply s_callFnW [1004] (f:=f) (avs:= []) (bxi:= [(1000,rdB r),(1001,b 1002 (y::l).length),(1003,pB),(1002,g (y::l))]);exact rfl;exact hG;exact rfl;exact kc;exact Subs.refl _;exact .cons rfl rfl (Subs.refl _) (.cons rfl rfl (Subs.refl _) (.cons rfl rfl (Subs.refl _) (.cons rfl rfl (Subs.refl _) .nil)));exact(by simp[St.fresh,AV.ment,AV.ments,c4,(fun n=>h.vm 1002 n 1004 (by decide)),(fun l=>h.gm l 1004),show Box.ment 1004 pB=false from rfl,show∀r,Box.ment 1004 (rdB r)=false from fun _=>rfl]);exact(by simp[boOk,keys,h.v,h.gn]);exact(by simp[keys,AV.mentsIn,AV.mentIn,m1,m2]);exact rfl)|(refine LW.is ?_;first|(apply s_callQ1 (q:=1000) (ha:=rfl);(case hb=>exact rfl);(case hc=>assumption);(case hG=>assumption);exact rfl;exact rfl;exact rfl;exact rfl)|(apply s_bslice;exact rfl;exact rfl;exact rfl;exact rfl;exact rfl;(apply n_some;exact rfl;exact rfl);(apply n_some;exact rfl;exact rfl);exact rfl;exact rfl;exact(by simp[St.fresh,AV.ment,AV.ments,c12,(fun n=>v12 1002 n (by decide)),(fun n=>v12 1004 n (by decide)),g12,show∀t,Box.ment 12 (Box.mk t (.l []))=false from fun _=>rfl,show Box.ment 12 pB=false from rfl,show∀r,Box.ment 12 (rdB r)=false from fun _=>rfl])))|(refine DR.is ?_;first|(apply d_callQ1 (q:=1000) (ha:=rfl);(case hb=>exact rfl);(case hc=>assumption);(case hG=>assumption);exact rfl;exact rfl;exact rfl;exact rfl)|(apply d_bslice;exact rfl;exact rfl;exact rfl;exact rfl;exact rfl;(apply n_some;exact rfl;exact rfl);(apply n_some;exact rfl;exact rfl);exact rfl;exact rfl;exact(by simp[St.fresh,AV.ment,AV.ments,c12,(fun n=>v12 1002 n (by decide)),(fun n=>v12 1004 n (by decide)),g12,show∀t,Box.ment 12 (Box.mk t (.l []))=false from fun _=>rfl,show Box.ment 12 pB=false from rfl,show∀r,Box.ment 12 (rdB r)=false from fun _=>rfl])))|refine wk1 ?_|refine wk2 (fun hb hp=> ?_) (fun hb hp=> ?_)|fail))
   (refine L.swap [(1002,1004)] rfl rfl rfl rfl ?_)
   exact hK _ (n,(y::l)++ [x],r2) ⟨hI,by dsimp only;omega,hoa,by simp only[List.length_append,List.length_cons,List.length_nil] at hlen⊢;omega,fun e=>by cases e⟩ (Nat.lt_succ_self _) (Wk.mk' (keys_all rfl) (.cons rfl (Sub.refl _) (.cons rfl (Sub.of_eq (by rw[AV.ren,h.cr])) .nil)) (.cons rfl rfl (Subs.refl _) (.cons rfl ((Box.ren_ty _).trans ((h.vt _ _).trans (h.vt _ _).symm)) (Subs.of_eq (congrArg Box.cs e)) (.cons rfl rfl (Subs.refl _) (.cons rfl ((Box.ren_ty _).trans (h.gt _ _)) (Subs.of_eq (congrArg Box.cs (h.gr _))) .nil)))) .nil)
  |false=>
   rw[if_neg (by rw[h1];decide)] at hI
   subst hI
   rw[h1] at ka
   generalize step r=p at*
   obtain⟨x,r1⟩:=p
   dsimp only at*
   generalize (atRd r1 [[44]]).2=r2 at*
   have e:(b 1004 ((y::l).length+1)).ren (Abs.sws [(1002,1004)])=b 1002 ((y::l)++ [x]).length:=by rw[List.length_append];exact h.vr _
   (repeat' (first|(apply s_callFnW [1004] (f:=f) (avs:= []) (bxi:= [(1000,rdB r),(1001,b 1002 (y::l).length),(1003,pB),(1002,g (y::l))]);exact rfl;exact hG;exact rfl;exact kc;exact Subs.refl _;exact .cons rfl rfl (Subs.refl _) (.cons rfl rfl (Subs.refl _) (.cons rfl rfl (Subs.refl _) (.cons rfl rfl (Subs.refl _) .nil)));exact(by simp[St.fresh,AV.ment,AV.ments,c4,(fun n=>h.vm 1002 n 1004 (by decide)),(fun l=>h.gm l 1004),show Box.ment 1004 pB=false from rfl,show∀r,Box.ment 1004 (rdB r)=false from fun _=>rfl]);exact(by simp[boOk,keys,h.v,h.gn]);exact(by simp[keys,AV.mentsIn,AV.mentIn,m1,m2]);exact rfl)|(refine LW.is ?_;first|(apply s_callQ1 (q:=1000) (ha:=rfl);(case hb=>exact rfl);(case hc=>assumption);(case hG=>assumption);exact rfl;exact rfl;exact rfl;exact rfl)|(apply s_bslice;exact rfl;exact rfl;exact rfl;exact rfl;exact rfl;(apply n_some;exact rfl;exact rfl);(apply n_some;exact rfl;exact rfl);exact rfl;exact rfl;exact(by simp[St.fresh,AV.ment,AV.ments,c12,(fun n=>v12 1002 n (by decide)),(fun n=>v12 1004 n (by decide)),g12,show∀t,Box.ment 12 (Box.mk t (.l []))=false from fun _=>rfl,show Box.ment 12 pB=false from rfl,show∀r,Box.ment 12 (rdB r)=false from fun _=>rfl])))|(refine DR.is ?_;first|(apply d_callQ1 (q:=1000) (ha:=rfl);(case hb=>exact rfl);(case hc=>assumption);(case hG=>assumption);exact rfl;exact rfl;exact rfl;exact rfl)|(apply d_bslice;exact rfl;exact rfl;exact rfl;exact rfl;exact rfl;(apply n_some;exact rfl;exact rfl);(apply n_some;exact rfl;exact rfl);exact rfl;exact rfl;exact(by simp[St.fresh,AV.ment,AV.ments,c12,(fun n=>v12 1002 n (by decide)),(fun n=>v12 1004 n (by decide)),g12,show∀t,Box.ment 12 (Box.mk t (.l []))=false from fun _=>rfl,show Box.ment 12 pB=false from rfl,show∀r,Box.ment 12 (rdB r)=false from fun _=>rfl])))|refine wk1 ?_|refine wk2 (fun hb hp=> ?_) (fun hb hp=> ?_)|fail))
   (refine L.swap [(1002,1004)] rfl rfl rfl rfl ?_)
   apply L.endQ0;exact rfl;exact rfl;exact Wk.mk' (keys_all rfl) .nil (.cons rfl rfl (Subs.refl _) (.cons rfl ((Box.ren_ty _).trans ((h.vt _ _).trans (h.vt _ _).symm)) (Subs.of_eq (congrArg Box.cs e)) (.cons rfl rfl (Subs.refl _) (.cons rfl ((Box.ren_ty _).trans (h.gt _ _)) (Subs.of_eq (congrArg Box.cs (h.gr _))) .nil)))) .nil;exact rfl
end Go.Proofs.YtadjbegnlimepaaGreatDoor
