/- Lemmas towards the law. Conditions: each one says its own. -/
import Derived.Test.YtnhmohbhgocbjaaGreatDoorZU9
set_option linter.all false
set_option maxHeartbeats 64000000
set_option maxRecDepth 100000
namespace Go.Proofs.Y
open Go.Abs Go.Proofs.Tryz
attribute [local irreducible] L Code.wp bodyPost Exit.then Exit.inBlock
variable [C3]
def Mk: ∀(l:List UInt8) (a u:Nat),Lib.parseUint10 a l= .ok u->0<=(u:Int):=fun _ _ _ _=>by omega
def KH{s:Str}{v:Int}(h:Lib.atoiAll s= .ok v)(hk:TokOk s):0<=v:=by
 cases s with
 |nil=>cases h
 |cons c t=>
  by_cases T:c.toNat=45
  · have hc:c=45:=by apply UInt8.toNat_inj.1;exact T
    have hl:=hk.2.2 (by rw[hc];rfl);have ht:t= []:=by simpa using hl
    subst ht;simp[Lib.atoiAll,T,Lib.parseMag] at h
  · simp only[Lib.atoiAll,T,if_false,false_and] at h;split at h
    · cases h
    · cases h
    · split at h
      · cases h
      · cases h;omega
def JK{s:Str}{v:Int}(h:CO s=some v)(hk:TokOk s):0<=v/\v<=1000000:=by
 unfold CO at h;split at h
 · rename_i n hn;split at h
   · rename_i hc;cases h;exact⟨KH hn hk,hc.2⟩
   · cases h
 · cases h
def AM{r:Rd}(h:C6 r):TokOk (eB r).1:=by
 unfold eB;split
 · exact⟨by simp,by simp,by simp⟩
 · rename_i T;obtain⟨l,bad⟩:=r;cases l with
   |nil=>exact absurd U T
   |cons s l=>exact h.w s sP
def sM{r:Rd}(h:C6 r):0<=(dj r).1/\(dj r).1<=1000000:=by
 unfold dj;split
 · rename_i n hn;exact JK hn (AM h)
 · simp
def JM:ER:=by
 intro r hr;have kf:=xO (gs:=cH) r;have k1:=aQ (gs:=cH) r [[110,117,108,108]] hr dD;refine iG func232 ntmps232 (fun w0 E0 hG=> ?_);unfold kM;cases h1:(ak r [[110,117,108,108]]).1 with
 |true=>
  rw[if_pos U];rw[h1] at k1;generalize (ak r [[110,117,108,108]]).2=r1 at*
  generalize r.front=s at*
  (repeat' first|intro hb hp|refine LW.is (s_Q ?_)|refine am ?_|refine al ?_ ?_|fail)
  all_goals refine gM ?_ ?_
  all_goals rfl
 |false=>
 rw[if_neg dD];rw[h1,cC h1] at k1;have k2:=aQ (gs:=cH) r [[45]] hr dD;cases h2:(ak r [[45]]).1 with
 |true=>
  rw[if_pos U];rw[h2] at k2;have ad:=(aW r [[45]]).ok hr;have kn:=qg (ak r [[45]]).2 ad;obtain⟨n0,n1⟩:=sM ad;generalize dj (ak r [[45]]).2=p at*
  generalize (ak r [[45]]).2=r1 at*
  obtain⟨n,r2⟩:=p;dsimp only at*
  rw[<-Int.zero_sub];generalize r.front=s at*
  (repeat' first|intro hb hp|refine LW.is (s_Q ?_)|refine am ?_|refine al ?_ ?_|fail)
  all_goals refine gM ?_ ?_
  all_goals rfl
 |false=>
 rw[if_neg dD];rw[h2,cC h2] at k2;have a2:=hr.front;have ar:=uW (gs:=cH) r;have aR:(eB r).1=r.front:=by unfold eB;split<;>simp_all
 rw[aR] at ar;have a0:r.front≠ [] ->TokOk r.front:=fun h=>by rw[<-aR];exact AM hr
 have kn:=qg r hr;obtain⟨n0,n1⟩:=sM hr;generalize dj r=pn at*
 generalize (eB r).2=rx at*
 obtain⟨n,rn⟩:=pn;dsimp only at*
 cases hf:r.front with
 |nil=>
  rw[hf] at kf;rw[if_neg sP,if_neg sP];have q:(!(([]:Str)== []))=false:=rfl;(repeat' first|intro hb hp|refine LW.is (s_Q ?_)|refine am ?_|refine al ?_ ?_|fail)
  all_goals refine gM ?_ ?_
  all_goals rfl
 |cons c t=>
  rw[hf] at kf ar a0 a2;have a3:=a0 sP;have q:(!((c::t:Str)== []))=true:=rfl;have g0:(c::t:Str)[(0:Int).toNat]?=some c:=rfl;by_cases hd:lb c=true
  · rw[if_pos ⟨by simp,hd⟩];have a1:=hd;simp only[lb,aE,decide_eq_true_eq] at a1;have q1:decide ((48:Int)<=(c.toNat:Int))=true:=decide_eq_true C;have q2:decide ((c.toNat:Int)<=57)=true:=decide_eq_true C;(repeat' first|intro hb hp|(refine LW.is ?_;first|refine s_Q ?_|refine ag U (bE U U dD g0) ?_)|refine am ?_|refine al ?_ ?_|fail)
    all_goals refine gM ?_ ?_
    all_goals rfl
  · rw[if_neg (fun h=>hd h.2)];have a1: ¬(48<=c.toNat/\c.toNat<=57):=by simpa[lb] using hd
    by_cases T:c=39
    · rw[if_pos ⟨by simp,T⟩];subst T;have hl:2<=(39::t:Str).length:=a3.2.1 U;have e0:(39::t:Str).length=t.length+1:=rfl;have q3:((((39:UInt8).toNat:Nat):Int)==39)=true:=rfl;have es:((39::t:Str).drop (1:Int).toNat).take ((((39::t:Str).length:Int) - 1).toNat - (1:Int).toNat)=(uJ (39::t)).s:=by
       show(t.drop 0).take _=t.take _;rw[List.drop_zero];congr 1;simp
      have kg:=(aY (uJ (39::t))).toG (gs:=cH);generalize hv:uJ (39::t)=v at*
      have ev:v=⟨2,0,v.s⟩:=by rw[<-hv];rfl
      obtain⟨vk,vn,vs⟩:=v;cases ev;dsimp only at*
      generalize au ⟨2,0,vs⟩=gd at*
      obtain⟨lx,bx⟩:=rx;cases bx with
      |true=>
       (repeat' first|intro hb hp|(refine LW.is ?_;first|refine s_Q ?_|refine ag U (bE U U dD g0) ?_|refine ag U (ub U U U dD C C es) ?_)|refine am ?_|refine al ?_ ?_|fail)
       all_goals refine gM ?_ ?_
       all_goals rfl
      |false=>
       (repeat' first|intro hb hp|(refine LW.is ?_;first|refine s_Q ?_|refine ag U (bE U U dD g0) ?_|refine ag U (ub U U U dD C C es) ?_)|refine am ?_|refine al ?_ ?_|fail)
       all_goals refine gM ?_ ?_
       all_goals rfl
    · rw[if_neg (fun h=>T h.2)];have q3:((c.toNat:Int)==39)=false:=by
       have:c.toNat≠39:=fun e=>T (UInt8.toNat_inj.1 e)
       simp;omega
      by_cases ha:48<=c.toNat
      · have q1:decide ((48:Int)<=(c.toNat:Int))=true:=decide_eq_true C;have q2:decide ((c.toNat:Int)<=57)=false:=decide_eq_false C;(repeat' first|intro hb hp|(refine LW.is ?_;first|refine s_Q ?_|refine ag U (bE U U dD g0) ?_)|refine am ?_|refine al ?_ ?_|fail)
        all_goals refine gM ?_ ?_
        all_goals rfl
      · have q1:decide ((48:Int)<=(c.toNat:Int))=false:=decide_eq_false C;(repeat' first|intro hb hp|(refine LW.is ?_;first|refine s_Q ?_|refine ag U (bE U U dD g0) ?_)|refine am ?_|refine al ?_ ?_|fail)
        all_goals refine gM ?_ ?_
        all_goals rfl
def sZ:fB 76 1 (ma 6):=Ik JM
end Go.Proofs.Y
namespace Go.Proofs.Y
open Go.Abs Go.Proofs.Tryz
attribute [local irreducible] L Code.wp bodyPost Exit.then Exit.inBlock
def dM{α:Type}(step:Rd->α×Rd):Nat->List α->Rd->List α×Rd
 |0,l,r=>(l,r)
 |n+1,l,r=>
  if r.bad then(l,r)
  else if(ak (step r).2 [[44]]).1 then dM step n (l++ [(step r).1]) (ak (step r).2 [[44]]).2
  else(l++ [(step r).1],(ak (step r).2 [[44]]).2)
def aP{α:Type}(step:Rd->α×Rd)(r:Rd):List α×Rd:=dM step (r.l.length+1) [] r
def Ak{α:Type}{step:Rd->α×Rd}(h: ∀r,Sf r (step r).2): ∀(n:Nat) (l:List α) (r:Rd),Sf r (dM step n l r).2
 |0,l,r=> .refl r
 |n+1,l,r=>by
  unfold dM;split
  · exact .refl r
  split
  · exact((h r).trans (aW _ _)).trans (Ak h n _ _)
  · exact(h r).trans (aW _ _)
def ig{α:Type}{step:Rd->α×Rd}(h: ∀r,Sf r (step r).2)(r:Rd):Sf r (aP step r).2:=Ak h _ _ _
def xD{α:Type}{step:Rd->α×Rd}(h: ∀r,Sf r (step r).2): ∀(n:Nat) (l:List α) (r:Rd),(dM step n l r).1.length<=l.length+r.l.length+1
 |0,l,r=>by simp[dM];omega
 |n+1,l,r=>by
  unfold dM;split
  · dsimp only;omega
  have h1:=(h r).le;split
  · rename_i h2;have h3:=lS h2 dD;have:=xD h n (l++ [(step r).1]) (ak (step r).2 [[44]]).2;simp only[gV,lC,List.length_nil] at this;omega
  · simp
def HM{α:Type}{step:Rd->α×Rd}(h: ∀r,Sf r (step r).2)(r:Rd):(aP step r).1.length<=r.l.length+1:=by have:=xD h (r.l.length+1) [] r;simpa[aP] using this
def AO{α:Type}{step:Rd->α×Rd}: ∀(n:Nat) (l:List α) (r:Rd),l≠ [] ->(dM step n l r).1≠ []
 |0,l,r,h=>h
 |n+1,l,r,h=>by
  unfold dM;split
  · exact h
  split
  · exact AO n _ _ sP
  · simp
def yW{α:Type}{step:Rd->α×Rd}{r:Rd}(h:r.bad=false):(aP step r).1≠ []:=by
 unfold aP dM;rw[if_neg (by rw[h];decide)];split
 · exact AO _ _ _ sP
 · simp
def fy{β γ:Type}{a:List (Nat×β)}{b:List (Nat×γ)}(h:(keys a).all (fun i=>(b.lookup i).isSome)=true): ∀id∈keys a,(b.lookup id).isSome=true:=fun id T=>aT h id T
variable [C3]
abbrev pB:A5:=⟨101,.l [.ptr 1000 0]⟩
structure E8 {α:Type} (f:FuncId) (caps:List AV) (b0:A5) (b:Nat->Nat->A5) (g:List α->A5) (step:Rd->α×Rd):Prop where
 cp: ∀id,id≠1001->id≠1003->AV.ments id caps=false:=by intro id h1 h2;simp[AV.ments,AV.ment,Ne.symm h1,Ne.symm h2]
 cr:AV.rens (Abs.sws [(1002,1004)]) caps=caps:=by rfl
 z:b0.cs.isEmpty=false:=by rfl
 zm: ∀id,b0.ment id=false:=by intro id;rfl
 zi: ∀l,AV.mentsIn l b0.cs=true:=by intro l;rfl
 v: ∀i n,(b i n).cs.isEmpty=false:=by intro i n;rfl
 vt: ∀i n,(b i n).ty=b0.ty:=by intro i n;rfl
 vm: ∀i n id,id≠i->(b i n).ment id=false:=by intro i n id h;simp[A5.ment,AV.ments,AV.ment,Ne.symm h]
 vi: ∀i n l,l.contains i=true->AV.mentsIn l (b i n).cs=true:=by intro i n l h;simp only[A5.cs_l,AV.mentsIn,AV.mentIn,h,Bool.and_self]
 vr: ∀n,(b 1004 n).ren (Abs.sws [(1002,1004)])=b 1002 n:=by intro n;rfl
 gn: ∀l,l≠ [] ->(g l).cs.isEmpty=false
 gt: ∀l l',(g l).ty=(g l').ty:=by intro l l';rfl
 gm: ∀l id,(g l).ment id=false:=by intro l id;rfl
 gi: ∀l m,AV.mentsIn m (g l).cs=true:=by intro l m;simp only[A5.cs_r,List.replicate_zero,List.append_nil];exact AV.mentsIn_iv _ _
 gr: ∀l,(g l).ren (Abs.sws [(1002,1004)])=g l:=by intro l;rfl
 c0: ∀r,C6 r->CallG cH prog f caps [(1000,en r),(1001,b0),(1003,pB)] [(1000,en (step r).2),(1001,b 1002 1),(1003,pB),(1002,g [(step r).1])] [] (.tup [])
 c1: ∀r l,C6 r->l≠ [] ->l.length<=1000000->CallG cH prog f caps [(1000,en r),(1001,b 1002 l.length),(1003,pB),(1002,g l)] [(1000,en (step r).2),(1001,b 1004 (l.length+1)),(1003,pB),(1002,⟨(g l).ty,.l []⟩),(1004,g (l++ [(step r).1]))] [] (.tup [])
def vc{α:Type}{f:FuncId}{caps:List AV}{b0:A5}{b:Nat->Nat->A5}{g:List α->A5}{step:Rd->α×Rd}(h:E8 f caps b0 b g step)(r:Rd)(T:r.bad=true):
 CallG cH prog 71 [.ptr 1000 0,.fn f caps] [(1000,en r),(1001,b0),(1003,pB)] [(1000,en r),(1001,b0),(1003,pB)] [] (.tup []):=by
 refine iG func71 ntmps71 (fun w0 E0 hG=> ?_);refine wz ?_;refine ae (ι:=Nat) (fun i=>⟨[(0,.ptr 1000 0),(1,.fn f caps)],[(1000,en r),(1001,b0),(1003,pB)],[]⟩) (fun i=>i) (fun i=>True) (i0:=0) ?_ trivial ?_
 · exact Wk.mkX ax F2 (fun s v h=>h) .nil
 intro i _ K hK;have q:(!r.bad)=false:=by rw[T];rfl
 refine wz ?_;apply aM;rfl;rfl;exact Wk.mkX ax .nil (fun s v h=>h) .nil;rfl
def vd{α:Type}{f:FuncId}[A0 prog f]{caps:List AV}{b0:A5}{b:Nat->Nat->A5}{g:List α->A5}{step:Rd->α×Rd}(h:E8 f caps b0 b g step)(hs: ∀r,Sf r (step r).2)(r:Rd)(hr:C6 r)(T:r.bad=false):
 CallG cH prog 71 [.ptr 1000 0,.fn f caps] [(1000,en r),(1001,b0),(1003,pB)] [(1000,en (aP step r).2),(1001,b 1002 (aP step r).1.length),(1003,pB),(1002,g (aP step r).1)] [] (.tup []):=by
 unfold aP;generalize hW:dM step (r.l.length+1) [] r=W;refine iG func71 ntmps71 (fun w0 E0 hG=> ?_);have c2:=h.cp 1002 dD dD;have c4:=h.cp 1004 dD dD;have aR:=h.cp 12 dD dD;have a2:=h.zm 12;have ar:=fun i n=>h.vm i n 12
 have a0:=fun l=>h.gm l 12
 have z2:=h.zm 1002;have z4:=h.zm 1004;refine wz ?_;refine ae (ι:=Nat×List α×Rd) (fun i=>match i.2.1 with
  | [] =>⟨[(0,.ptr 1000 0),(1,.fn f caps)],[(1000,en i.2.2),(1001,b0),(1003,pB)],[]⟩
  |x::l=>⟨[(0,.ptr 1000 0),(1,.fn f caps)],[(1000,en i.2.2),(1001,b 1002 (x::l).length),(1003,pB),(1002,g (x::l))],[]⟩) (fun i=>i.1) (fun i=>dM step i.1 i.2.1 i.2.2=W/\i.2.2.l.length<i.1/\C6 i.2.2/\i.2.1.length+i.2.2.l.length<=1000000/\(i.2.1= [] ->i.2.2.bad=false)) (i0:=(r.l.length+1,[],r)) ?_ ⟨hW,Nat.lt_succ_self _,hr,(by have:=hr.n;simpa using this),fun _=>T⟩ ?_
 · exact Wk.mkX ax F2 (fun s v h=>h) .nil
 clear hW hr T;rintro ⟨n,l,r⟩ ⟨hI,hn,hr,ad,a1⟩ K hK;dsimp only at hI hn hr ad a1;cases n with
 |zero=>omega
 |succ n=>
 unfold dM at hI;have a3:=hs r;have a4:=a3.ok hr;have a7:=a3.le;have ka:=aQ (gs:=cH) (step r).2 [[44]] a4 dD;have a5:=(aW (step r).2 [[44]]).ok a4;cases l with
 |nil=>
  have T:=a1 rfl;rw[if_neg (by rw[T];decide)] at hI;have q:(!r.bad)=true:=by rw[T];rfl
  have kc:=h.c0 r hr;have m1:=h.vi 1002 1 [1002,1000,1001,1003] rfl;have m2:=h.gi [(step r).1] [1002,1000,1001,1003];cases h1:(ak (step r).2 [[44]]).1 with
  |true=>
   have a6:=lS h1 dD;rw[if_pos h1] at hI;rw[h1] at ka;generalize step r=p at*
   obtain⟨x,r1⟩:=p;dsimp only at*
   generalize (ak r1 [[44]]).2=r2 at*
   (repeat' first|intro T hp|apply oY [1002] (f:=f) (avs:= []) (bxi:= [(1000,en r),(1001,b0),(1003,pB)]);rfl;exact hG;rfl;exact kc;exact fS;exact B3;exact(by simp[St.fresh,AV.ment,AV.ments,c2,z2,show A5.ment 1002 pB=false from rfl,show∀r,A5.ment 1002 (en r)=false from fun _=>rfl]);exact(by simp[dV,keys,h.z]);exact(by simp[keys,AV.mentsIn,AV.mentIn,m1,m2]);rfl|(refine LW.is ?_;first|refine s_Q ?_|apply mw;rfl;rfl;rfl;rfl;rfl;(apply eC;rfl;rfl);(apply eC;rfl;rfl);rfl;rfl;exact(by simp[St.fresh,AV.ment,AV.ments,aR,a2,ar 1002 1 dD,a0,show A5.ment 12 pB=false from rfl,show∀r,A5.ment 12 (en r)=false from fun _=>rfl]))|refine am ?_|refine al ?_ ?_|fail)
   exact hK _ (n,[x],r2) ⟨hI,by dsimp only;omega,a5,by simp only[lC,List.length_nil] at ad|-;omega,fun e=>by cases e⟩ (Nat.lt_succ_self _) wK
  |false=>
   rw[if_neg (by rw[h1];decide)] at hI;subst hI;rw[h1] at ka;generalize step r=p at*
   obtain⟨x,r1⟩:=p;dsimp only at*
   generalize (ak r1 [[44]]).2=r2 at*
   (repeat' first|intro T hp|apply oY [1002] (f:=f) (avs:= []) (bxi:= [(1000,en r),(1001,b0),(1003,pB)]);rfl;exact hG;rfl;exact kc;exact fS;exact B3;exact(by simp[St.fresh,AV.ment,AV.ments,c2,z2,show A5.ment 1002 pB=false from rfl,show∀r,A5.ment 1002 (en r)=false from fun _=>rfl]);exact(by simp[dV,keys,h.z]);exact(by simp[keys,AV.mentsIn,AV.mentIn,m1,m2]);rfl|(refine LW.is ?_;first|refine s_Q ?_|apply mw;rfl;rfl;rfl;rfl;rfl;(apply eC;rfl;rfl);(apply eC;rfl;rfl);rfl;rfl;exact(by simp[St.fresh,AV.ment,AV.ments,aR,a2,ar 1002 1 dD,a0,show A5.ment 12 pB=false from rfl,show∀r,A5.ment 12 (en r)=false from fun _=>rfl]))|refine am ?_|refine al ?_ ?_|fail)
   apply L.endQ0;rfl;rfl;exact Wk.mk' kK .nil B4 .nil;rfl
 |cons y l=>
  have kc:=h.c1 r (y::l) hr sP (by simp only[lC] at ad|-;omega);have m1:=fun n=>h.vi 1004 n [1004,1000,1001,1003,1002] rfl
  have m2:=fun l=>h.gi l [1004,1000,1001,1003,1002]
  cases T:r.bad with
  |true=>
   rw[if_pos T] at hI;subst hI;have q:(!r.bad)=false:=by rw[T];rfl
   refine wz ?_;apply aM;rfl;rfl;exact Wk.mk' kK .nil B4 .nil;rfl
  |false=>
  rw[if_neg (by rw[T];decide)] at hI;have q:(!r.bad)=true:=by rw[T];rfl
  cases h1:(ak (step r).2 [[44]]).1 with
  |true=>
   have a6:=lS h1 dD;rw[if_pos h1] at hI;rw[h1] at ka;generalize step r=p at*
   obtain⟨x,r1⟩:=p;dsimp only at*
   generalize (ak r1 [[44]]).2=r2 at*
   have e:(b 1004 ((y::l).length+1)).ren (Abs.sws [(1002,1004)])=b 1002 ((y::l)++ [x]).length:=by rw[gV];exact h.vr _
   (repeat' first|intro T hp|apply oY [1004] (f:=f) (avs:= []) (bxi:= [(1000,en r),(1001,b 1002 (y::l).length),(1003,pB),(1002,g (y::l))]);rfl;exact hG;rfl;exact kc;exact fS;exact B4;exact(by simp[St.fresh,AV.ment,AV.ments,c4,(fun n=>h.vm 1002 n 1004 dD),(fun l=>h.gm l 1004),show A5.ment 1004 pB=false from rfl,show∀r,A5.ment 1004 (en r)=false from fun _=>rfl]);exact(by simp[dV,keys,h.v,h.gn]);exact(by simp[keys,AV.mentsIn,AV.mentIn,m1,m2]);rfl|(refine LW.is ?_;first|refine s_Q ?_|apply mw;rfl;rfl;rfl;rfl;rfl;(apply eC;rfl;rfl);(apply eC;rfl;rfl);rfl;rfl;exact(by simp[St.fresh,AV.ment,AV.ments,aR,(fun n=>ar 1002 n dD),(fun n=>ar 1004 n dD),a0,show∀t,A5.ment 12 (A5.mk t (.l []))=false from fun _=>rfl,show A5.ment 12 pB=false from rfl,show∀r,A5.ment 12 (en r)=false from fun _=>rfl]))|refine am ?_|refine al ?_ ?_|fail)
   (refine gK [(1002,1004)] rfl rfl rfl rfl ?_)
   exact hK _ (n,(y::l)++ [x],r2) ⟨hI,by dsimp only;omega,a5,by simp only[gV,lC,List.length_nil] at ad|-;omega,fun e=>by cases e⟩ (Nat.lt_succ_self _) (Wk.mk' kK (wF (.cons rfl (Sub.of_eq (by rw[AV.ren,h.cr])) .nil)) (wB (.cons rfl ((A5.ren_ty _).trans ((h.vt _ _).trans (h.vt _ _).symm)) (Subs.of_eq (congrArg A5.cs e)) (wB (.cons rfl ((A5.ren_ty _).trans (h.gt _ _)) (Subs.of_eq (congrArg A5.cs (h.gr _))) .nil)))) .nil)
  |false=>
   rw[if_neg (by rw[h1];decide)] at hI;subst hI;rw[h1] at ka;generalize step r=p at*
   obtain⟨x,r1⟩:=p;dsimp only at*
   generalize (ak r1 [[44]]).2=r2 at*
   have e:(b 1004 ((y::l).length+1)).ren (Abs.sws [(1002,1004)])=b 1002 ((y::l)++ [x]).length:=by rw[gV];exact h.vr _
   (repeat' first|intro T hp|apply oY [1004] (f:=f) (avs:= []) (bxi:= [(1000,en r),(1001,b 1002 (y::l).length),(1003,pB),(1002,g (y::l))]);rfl;exact hG;rfl;exact kc;exact fS;exact B4;exact(by simp[St.fresh,AV.ment,AV.ments,c4,(fun n=>h.vm 1002 n 1004 dD),(fun l=>h.gm l 1004),show A5.ment 1004 pB=false from rfl,show∀r,A5.ment 1004 (en r)=false from fun _=>rfl]);exact(by simp[dV,keys,h.v,h.gn]);exact(by simp[keys,AV.mentsIn,AV.mentIn,m1,m2]);rfl|(refine LW.is ?_;first|refine s_Q ?_|apply mw;rfl;rfl;rfl;rfl;rfl;(apply eC;rfl;rfl);(apply eC;rfl;rfl);rfl;rfl;exact(by simp[St.fresh,AV.ment,AV.ments,aR,(fun n=>ar 1002 n dD),(fun n=>ar 1004 n dD),a0,show∀t,A5.ment 12 (A5.mk t (.l []))=false from fun _=>rfl,show A5.ment 12 pB=false from rfl,show∀r,A5.ment 12 (en r)=false from fun _=>rfl]))|refine am ?_|refine al ?_ ?_|fail)
   (refine gK [(1002,1004)] rfl rfl rfl rfl ?_)
   apply L.endQ0;rfl;rfl;exact Wk.mk' kK .nil (wB (.cons rfl ((A5.ren_ty _).trans ((h.vt _ _).trans (h.vt _ _).symm)) (Subs.of_eq (congrArg A5.cs e)) (wB (.cons rfl ((A5.ren_ty _).trans (h.gt _ _)) (Subs.of_eq (congrArg A5.cs (h.gr _))) .nil)))) .nil;rfl
end Go.Proofs.Y
namespace Go.Proofs.Y
open Go.Abs
def EU:Str:= [105,110,116]
def wN:Str:= [116,101,120,116]
def sG:Str:= [109,117,115,116]
def rr:Str:= [119,104,101,114,101]
def bq:Str:= [99,114,101,97,116,101]
def bY:Str:= [116,97,98,108,101]
def ew:Str:= [105,110,100,101,120]
def wON:Str:= [111,110]
def iQ:Str:= [100,114,111,112]
def eu:Str:= [105,110,115,101,114,116]
def jI:Str:= [105,110,116,111]
def ic:Str:= [118,97,108,117,101,115]
def fj:Str:= [100,101,108,101,116,101]
def fi:Str:= [102,114,111,109]
def go:Str:= [117,112,100,97,116,101]
def tq:Str:= [115,101,116]
def ji:Str:= [115,101,108,101,99,116]
def eZ:Str:= [111,114,100,101,114]
def zB:Str:= [98,121]
def wO:Str:= [100,101,115,99]
def jY:Str:= [108,105,109,105,116]
def vO(n:Str)(t:Int)(r:Rd):B8×Rd:=(⟨n,t,(ak r [sG]).1⟩,(ak r [sG]).2)
def iq(r:Rd):B8×Rd:=
 if(ak (aq r).2 [EU]).1 then vO (aq r).1 1 (ak (aq r).2 [EU]).2
 else if(ak (aq r).2 [wN]).1 then vO (aq r).1 2 (ak (aq r).2 [wN]).2
 else vO (aq r).1 0 ⟨(aq r).2.l,true⟩
def dh(r:Rd):Ex×Rd:=if(ak r [rr]).1 then ma 6 (ak r [rr]).2 else(nilE,r)
def mE(r:Rd):List Ex×Rd:=((aP (ma 6) (aL r [[40]])).1,aL (aP (ma 6) (aL r [[40]])).2 [[41]])
def mB(r:Rd):D4×Rd:=(⟨(aq r).1,(ma 6 (aL (aq r).2 [[61]])).1⟩,(ma 6 (aL (aq r).2 [[61]])).2)
def ia:A9:=⟨0,[],[],[],[],[],[],[],[],nilE,[],false,-1⟩
def mH(r:Rd):A9×Rd:=
 ({ia with kind:=1,name:=(aq r).1,cols:=(aP iq (aL (aq r).2 [[40]])).1},aL (aP iq (aL (aq r).2 [[40]])).2 [[41]])
def qE(r:Rd):Rd:=aL (aq r).2 [wON]
def tO(r:Rd):Rd:=aL (aq r).2 [[40]]
def rH(r:Rd):A9×Rd:=
 ({ia with kind:=2,name:=(aq r).1,table:=(aq (qE r)).1,col:=(aq (tO (qE r))).1},aL (aq (tO (qE r))).2 [[41]])
def uK(r:Rd):A9×Rd:=({ia with kind:=3,name:=(aq r).1},(aq r).2)
def mF(r:Rd):A9×Rd:=({ia with kind:=4,table:=(aq r).1,rows:=(aP mE (aL (aq r).2 [ic])).1},(aP mE (aL (aq r).2 [ic])).2)
def mG(r:Rd):A9×Rd:=({ia with kind:=5,table:=(aq r).1,wh:=(dh (aq r).2).1},(dh (aq r).2).2)
def nf(r:Rd):List D4×Rd:=aP mB (aL (aq r).2 [tq])
def mz(r:Rd):A9×Rd:=({ia with kind:=6,table:=(aq r).1,sets:=(nf r).1,wh:=(dh (nf r).2).1},(dh (nf r).2).2)
def io(r:Rd):List Ex×Rd:=if(ak r [[42]]).1 then([],(ak r [[42]]).2) else aP (ma 6) r
def kP(r:Rd):List Str×Rd:=aP aq (aL r [fi])
def jJ(r:Rd):(List Ex×Bool)×Rd:=
 if(ak r [eZ,zB]).1 then(([(ma 6 (ak r [eZ,zB]).2).1],(ak (ma 6 (ak r [eZ,zB]).2).2 [wO]).1),(ak (ma 6 (ak r [eZ,zB]).2).2 [wO]).2)
 else(([],false),r)
def ip(r:Rd):Int×Rd:=if(ak r [jY]).1 then dj (ak r [jY]).2 else(-1,r)
def mC(r:Rd):A9×Rd:=
 ({ia with kind:=7,out:=(io r).1,frm:=(kP (io r).2).1,wh:=(dh (kP (io r).2).2).1,ord:=(jJ (dh (kP (io r).2).2).2).1.1,down:=(jJ (dh (kP (io r).2).2).2).1.2,n:=(ip (jJ (dh (kP (io r).2).2).2).2).1},
   (ip (jJ (dh (kP (io r).2).2).2).2).2)
def fe(r:Rd):A9×Rd:=
 if(ak r [bq,bY]).1 then mH (ak r [bq,bY]).2
 else if(ak r [bq,ew]).1 then rH (ak r [bq,ew]).2
 else if(ak r [iQ,bY]).1 then uK (ak r [iQ,bY]).2
 else if(ak r [eu,jI]).1 then mF (ak r [eu,jI]).2
 else if(ak r [fj,fi]).1 then mG (ak r [fj,fi]).2
 else if(ak r [go]).1 then mz (ak r [go]).2
 else if(ak r [ji]).1 then mC (ak r [ji]).2
 else(ia,⟨r.l,true⟩)
def rE(n:Str)(t:Int)(r:Rd):Sf r (vO n t r).2:=aW r _
def up(r:Rd):Sf r (iq r).2:=by
 unfold iq;split
 · exact((bw r).trans (aW _ _)).trans (rE _ _ _)
 split
 · exact((bw r).trans (aW _ _)).trans (rE _ _ _)
 · exact((bw r).trans (.mark _ true)).trans (rE _ _ _)
def nS(r:Rd):Sf r (dh r).2:=by
 unfold dh;split
 · exact(aW r _).trans (ff 6 _)
 · exact .refl r
def yG(r:Rd):Sf r (mE r).2:=((bI r _).trans (ig (ff 6) _)).trans (bI _ _)
def uo(r:Rd):Sf r (mB r).2:=((bw r).trans (bI _ _)).trans (ff 6 _)
def Cz(r:Rd):Sf r (io r).2:=by
 unfold io;split
 · exact aW r _
 · exact ig (ff 6) r
def Ea(r:Rd):Sf r (kP r).2:=(bI r _).trans (ig bw _)
def Ha(r:Rd):Sf r (jJ r).2:=by
 unfold jJ;split
 · exact((aW r _).trans (ff 6 _)).trans (aW _ _)
 · exact .refl r
def Hb(r:Rd):Sf r (ip r).2:=by
 unfold ip;split
 · exact(aW r _).trans (rD _)
 · exact .refl r
attribute [local irreducible] io kP dh jJ ip aP ma aq aL ak iq mE mB
def wY(r:Rd):Sf r (mC r).2:=((((Cz r).trans (Ea _)).trans (nS _)).trans (Ha _)).trans (Hb _)
def xb(r:Rd):Sf r (mH r).2:=(((bw r).trans (bI _ _)).trans (ig up _)).trans (bI _ _)
def DZ(r:Rd):Sf r (rH r).2:=(((((bw r).trans (bI _ _)).trans (bw _)).trans (bI _ _)).trans (bw _)).trans (bI _ _)
def wZ(r:Rd):Sf r (mF r).2:=((bw r).trans (bI _ _)).trans (ig yG _)
def xa(r:Rd):Sf r (mG r).2:=(bw r).trans (nS _)
def DY(r:Rd):Sf r (nf r).2:=((bw r).trans (bI _ _)).trans (ig uo _)
attribute [local irreducible] nf
def wX(r:Rd):Sf r (mz r).2:=(DY r).trans (nS _)
def yF(r:Rd):Sf r (fe r).2:=by
 unfold fe;split
 · exact(aW r _).trans (xb _)
 split
 · exact(aW r _).trans (DZ _)
 split
 · exact(aW r _).trans (bw _)
 split
 · exact(aW r _).trans (wZ _)
 split
 · exact(aW r _).trans (xa _)
 split
 · exact(aW r _).trans (wX _)
 split
 · exact(aW r _).trans (wY _)
 · exact .mark r true
def fH:Nat->List A9->Rd->List A9×Rd
 |0,l,r=>(l,r)
 |n+1,l,r=>if r.l= [] \/r.bad=true then(l,r) else fH n (l++ [(fe r).1]) (aL (fe r).2 [[59]])
def nF(s:Str):Rd:=match cW s with
 |some l=>⟨l,false⟩
 |none=>⟨[],true⟩
def cj(s:Str):List A9×Int:=
 if 1500<s.length then([],2)
 else if(fH ((nF s).l.length+1) [] (nF s)).2.bad then([],1)
 else if 6<(fH ((nF s).l.length+1) [] (nF s)).1.length then([],2)
 else((fH ((nF s).l.length+1) [] (nF s)).1,0)
end Go.Proofs.Y
namespace Go.Proofs.Y
open Go.Abs Go.Proofs.Tryz
attribute [local irreducible] L Code.wp bodyPost Exit.then Exit.inBlock
variable [C3]
def EJ(r:Rd)(hr:C6 r):CallG cH prog 73 [.ptr 1000 0] [(1000,en r)] [(1000,en (iq r).2)] [] (.agg ((iq r).1.c.map .iv)):=by
 have k1:=Cc (dH r hr);have ho:=(bw r).ok hr;unfold iq vO;generalize aq r=p at*
 obtain⟨nm,T⟩:=p;dsimp only at*
 refine iG func73 ntmps73 (fun w0 E0 hG=> ?_);have k2:=aQ (gs:=cH) T [EU] ho dD;cases h2:(ak T [EU]).1 with
 |true=>
  rw[if_pos U];rw[h2] at k2;have k4:=aQ (gs:=cH) (ak T [EU]).2 [sG] ((aW T _).ok ho) dD;generalize (ak T [EU]).2=r2 at*
  generalize ak r2 [sG] =p at*
  obtain⟨b,r3⟩:=p;dsimp only at*
  (repeat' first|intro hb hp|refine LW.is (s_Q ?_)|refine am ?_|refine al ?_ ?_|fail)
  all_goals refine gM ?_ ?_
  all_goals rfl
 |false=>
 rw[if_neg dD];rw[h2,cC h2] at k2;have k3:=aQ (gs:=cH) T [wN] ho dD;cases h3:(ak T [wN]).1 with
 |true=>
  rw[if_pos U];rw[h3] at k3;have k4:=aQ (gs:=cH) (ak T [wN]).2 [sG] ((aW T _).ok ho) dD;generalize (ak T [wN]).2=r2 at*
  generalize ak r2 [sG] =p at*
  obtain⟨b,r3⟩:=p;dsimp only at*
  (repeat' first|intro hb hp|refine LW.is (s_Q ?_)|refine am ?_|refine al ?_ ?_|fail)
  all_goals refine gM ?_ ?_
  all_goals rfl
 |false=>
 rw[if_neg dD];rw[h3,cC h3] at k3;have k4:=aQ (gs:=cH) ⟨T.l,true⟩ [sG] ((Sf.mark T true).ok ho) dD;generalize ak ⟨T.l,true⟩ [sG] =p at*
 obtain⟨b,r3⟩:=p;dsimp only at*
 (repeat' first|intro hb hp|refine LW.is (s_Q ?_)|refine am ?_|refine al ?_ ?_|fail)
 all_goals refine gM ?_ ?_
 all_goals rfl
def pP(r:Rd)(hr:C6 r):CallG cH prog 77 [.ptr 1000 0] [(1000,en r)] [(1000,en (dh r).2)] [] (.agg ((dh r).1.cs.map .iv)):=by
 have T:=aQ (gs:=cH) r [rr] hr dD;unfold dh;refine iG func77 ntmps77 (fun w0 E0 hG=> ?_);cases h1:(ak r [rr]).1 with
 |true=>
  rw[if_pos U];rw[h1] at T;have k2:=sZ (ak r [rr]).2 ((aW r _).ok hr);generalize (ak r [rr]).2=r1 at*
  generalize ma 6 r1=p at*
  obtain⟨e,r2⟩:=p;dsimp only at*
  (repeat' first|intro hb hp|refine LW.is (s_Q ?_)|refine am ?_|refine al ?_ ?_|fail)
  all_goals refine gM ?_ ?_
  all_goals rfl
 |false=>
  rw[if_neg dD];rw[h1,cC h1] at T;(repeat' first|intro hb hp|refine LW.is (s_Q ?_)|refine am ?_|refine al ?_ ?_|fail)
  all_goals refine gM ?_ ?_
  all_goals rfl
end Go.Proofs.Y
namespace Go.Proofs.Y
open Go.Abs Go.Proofs.Tryz
attribute [local irreducible] L Code.wp bodyPost Exit.then Exit.inBlock
abbrev sB(k:Int)(nm tb:Str)(T c5 c6 c7 c8:AV):A5:=⟨80,.l [aI k,aS nm,aS tb,aS [],T,c5,c6,c7,c8,aI 0,aI 0,aI 0,aS [],aS [],aS [],aI 0,.nils,.nils,aB false,aI (-1)]⟩
def row_ne{α:Type}{f:α->List IV}{k:Nat}(hk: ∀x,(f x).length=k)(h0:0<k){l:List α}(h:l≠ []):(l.map f).flatten≠ []:=
 aD (k:=k) (fun e he=>by obtain⟨x,_,rfl⟩:=mM he;exact hk x) h0 (by simpa using h)
def kH{α:Type}{f:α->List IV}{k:Nat}{ty:TypeId}(hk: ∀x,(f x).length=k)(h0:0<k){l:List α}(h:l≠ []):(A5.mk ty (.r (l.map f).flatten 0)).cs.isEmpty=false:=by
 have:=row_ne hk h0 h;cases T:(l.map f).flatten with
 |nil=>exact absurd T this
 |cons x xs=>rfl
def dS{α:Type}{f:α->List IV}{k:Nat}(hk: ∀x,(f x).length=k)(l:List α): ∀e∈l.map f,e.length=k:=fun e he=>by obtain⟨x,_,rfl⟩:=mM he;exact hk x
def ij{α:Type}{f:α->List IV}(l:List α)(x:α):(l.map f).take l.length++ [f x] =(l++ [x]).map f:=by rw[tL sP,pA];rfl
def cJ{k:Nat}{x:List IV}(h:x.length=k): ∀e∈ [x],e.length=k:=fun e he=>by rw[List.mem_singleton.1 he];exact h
variable [C3]
def LQ(nm:Str):E8 72 [.ptr 1001 0,.ptr 1003 0] (sB 1 nm [] .nils .nils .nils .nils .nils) (fun i n=>sB 1 nm [] (.bsh i 0 n 3) .nils .nils .nils .nils) (fun l=>⟨63,.r (l.map B8.c).flatten 0⟩) iq where
 gn l h:=kH (f:=B8.c) (k:=3) (fun _=>rfl) dD h
 c0 r hr:=by
  have T:=EJ r hr;generalize iq r=p at*
  obtain⟨x,r1⟩:=p;dsimp only at*
  refine iG func72 ntmps72 (fun w0 E0 hG=> ?_);(repeat' first|intro hb hp|(refine DR.is ?_;first|refine d_Q ?_|refine zt 1002 (news:= [x.c]) U U U (cJ U) (cN _ _) (by simp[maxLen]) sP U ?_)|refine am ?_|refine al ?_ ?_|fail)
  exact aM U U wK U
 c1 r l hr hl hn:=by
  have T:=EJ r hr;generalize iq r=p at*
  obtain⟨x,r1⟩:=p;dsimp only at*
  refine iG func72 ntmps72 (fun w0 E0 hG=> ?_);(repeat' first|intro hb hp|(refine DR.is ?_;first|refine d_Q ?_|apply pw 1004 (es:=l.map B8.c) (n:=l.length) (news:= [x.c]) (er:=(l++ [x]).map B8.c) (nr:=l.length+1);rfl;rfl;rfl;rfl;exact .inl (row_ne (f:=B8.c) (k:=3) (fun _=>rfl) dD hl);exact dS (f:=B8.c) (k:=3) (fun _=>rfl) l;exact cJ U;exact(by rw[lM];exact Nat.le_refl _);exact cN _ _;exact(by simp[maxLen];omega);exact(by simp;omega);rfl;exact ij l x;rfl)|refine am ?_|refine al ?_ ?_|fail)
  exact aM U U wK U
end Go.Proofs.Y
namespace Go.Proofs.Y
open Go.Abs Go.Proofs.Tryz
attribute [local irreducible] L Code.wp bodyPost Exit.then Exit.inBlock
def Cd(K:Nat):List (List A3)->List (Nat×A5)
 | [] => []
 |x::l=> [(K,⟨35,.r ((x::l).map ai).flatten 0⟩)]
def EC(K:Nat):List (List A3)->AV
 | [] => .nils
 |x::l=> .bsh K 0 (l.length+1) 1
def rF(ps:List Pg)(t:A4)(w:Way)(a7:ps.length<=1000000000000)(a1:sF ps)(a2:t.n.length<=140737488355328)(a3:w.i.length<=140737488355328):
 CallA prog 27 [.agg [.iv (.sl (ps.map Pg.c))],.agg (t.c.map .iv),.agg (w.c.map .iv)] [] (Cd 1000 (ci ps t w)) [] (EC 1000 (ci ps t w)):=by
 have kr:=xm ps w.lo w.hi C;have hR: ∀x∈dG ps w.lo w.hi,x.1.length<=4398046511104/\x.2.length<=4398046511104:=fun x hx=>a1 x (xi hx)
 have hl:=xj ps w.lo w.hi;unfold ci;generalize dG ps w.lo w.hi=R at*
 refine iA func27 ntmps27 (fun w0 E0=> ?_);refine wz ?_;refine ae (ι:=Nat×List (List A3)) (fun i=>⟨[(28,aI (i.1:Int)),(27,aI ((R.map fun x=>Str.c x.1).length:Int)),(7,.iv (.sl (R.map fun x=>Str.c x.1))),(8,.iv (.sl (R.map fun x=>Str.c x.2))),(9,EC 1000 i.2),(3,.ptr 3 0),(4,.ptr 4 0),(5,.ptr 5 0)],(3,⟨51,.l [.iv (.sl (ps.map Pg.c))]⟩)::(4,⟨57,.l [aS t.n,.iv (.sl (t.cols.map B8.c))]⟩)::(5,⟨60,.l [aS w.i,aS w.lo,aS w.hi]⟩)::Cd 1000 i.2,[]⟩) (fun i=>R.length - i.1) (fun i=>(R.take i.1).filterMap (fm ps t w)=i.2) (i0:=(0,[])) ?_ U ?_
 · exact df
 rintro ⟨i,F⟩ hI K hK;dsimp only at hI hK;cases hx:R[i]? with
 |none=>
  have a4:=gc (l:=R.map fun x=>Str.c x.1) (bz hx);rw[br hx] at hI;rw[hI];clear hI;rcases F with _|⟨y,l⟩
  all_goals(repeat' first|intro hb hp|refine am ?_|refine al ?_ ?_|fail)
  · exact L.ends U U fR wK
  · exact L.ends U U fR wK
 |some x=>
  have a4:=fZ (l:=R.map fun x=>Str.c x.1) (cM (f:=fun x=>Str.c x.1) hx);have a6:=fM hx;have g1:(R.map fun x=>Str.c x.1)[((i:Nat):Int).toNat]?=some [S x.1]:=by rw[iN,gP,hx];rfl
  have g2:(R.map fun x=>Str.c x.2)[((i:Nat):Int).toNat]?=some [S x.2]:=by rw[iN,gP,hx];rfl
  have T:=oB (fm ps t w) hx;have ar:=pK (fm ps t w) R i;obtain⟨a8,a9⟩:=hR x (gE hx);rw[hI] at T ar;clear hI;by_cases hw:w.i= []
  · have q1:(!(w.i== []))=false:=by rw[hw];rfl
    have hp:fm ps t w x=dg t x.2:=by rw[fm,if_pos hw]
    rw[hp] at T;have kv:=ml x.2 C;cases hu:dz (x.2) with
    |none=>
     rw[show dA (x.2)=([],1) by rw[dA,hu]] at kv;rw[show dg t (x.2)=none by rw[dg,hu]] at T;rcases F with _|⟨y,l⟩
     all_goals(repeat' first|intro hb hp|refine am ?_|refine al ?_ ?_|fail)
     all_goals refine hK _ (i+1,_) (T.trans (List.append_nil _)) oD ?_
     all_goals exact df
    |some r=>
     rw[show dA (x.2)=(r,0) by rw[dA,hu]] at kv;by_cases ad:r.length=t.cols.length
     · have q3:((((r.map A3.c).length:Nat):Int)==(((t.cols.map B8.c).length:Nat):Int))=true:=by simp[ad]
       rw[show dg t (x.2)=some r by rw[dg,hu];exact if_pos ad] at T;rcases F with _|⟨y,l⟩
       all_goals(repeat' first|intro hb hp|(refine LW.is ?_;first|refine nU 1000 (news:= [ai r]) U U U (cJ U) (cN _ _) (by simp[maxLen]) sP U ?_|apply eU 1004 (es:=(y::l).map ai) (n:=l.length+1) (news:= [ai r]) (er:=(y::l++ [r]).map ai) (nr:=(y::l++ [r]).length);rfl;rfl;rfl;rfl;exact .inl (row_ne (f:=ai) (k:=1) (fun _=>rfl) dD (cN y l));exact dS (f:=ai) (k:=1) (fun _=>rfl) (y::l);exact cJ U;exact(by rw[lM];exact Nat.le_refl _);exact cN _ _;exact(by rw[fJ];simp at ar|-;omega);exact(by simp at ar|-;omega);rfl;exact ij (y::l) r;exact sP)|refine am ?_|refine al ?_ ?_|fail)
       · refine hK _ (i+1,[r]) T oD ?_;exact df
       · refine gK [(1000,1004)] U U U U ?_;refine hK _ (i+1,y::l++ [r]) T oD ?_;exact df
     · have q3:((((r.map A3.c).length:Nat):Int)==(((t.cols.map B8.c).length:Nat):Int))=false:=by simp;omega
       rw[show dg t (x.2)=none by rw[dg,hu];exact if_neg ad] at T;rcases F with _|⟨y,l⟩
       all_goals(repeat' first|intro hb hp|refine am ?_|refine al ?_ ?_|fail)
       all_goals refine hK _ (i+1,_) (T.trans (List.append_nil _)) oD ?_
       all_goals exact df
  · have q1:(!(w.i== []))=true:=by simp[hw]
    have ke:=lN w.i a3;have kv:=ml (x.1.drop (if(x.1.length:Int)<((aO w.i).length:Int) then(x.1.length:Int) else((aO w.i).length:Int)).toNat) (by rw[lD];omega);have d0:0<=(if(x.1.length:Int)<((aO w.i).length:Int) then(x.1.length:Int) else((aO w.i).length:Int)):=by split<;>omega
    have d1:(if(x.1.length:Int)<((aO w.i).length:Int) then(x.1.length:Int) else((aO w.i).length:Int))<=(x.1.length:Int):=by split<;>omega
    have hp:fm ps t w x=match qo w x.1 with|some l=>dg t (getM ps (ap t.n (l.getD 1 af))).1|none=>none:=by rw[fm,if_neg hw];rfl
    rw[hp,qo] at T;generalize aR:x.1.drop (if(x.1.length:Int)<((aO w.i).length:Int) then(x.1.length:Int) else((aO w.i).length:Int)).toNat=dr at*
    cases hv:dz dr with
    |none=>
     rw[show dA dr=([],1) by rw[dA,hv]] at kv;rw[hv] at T;rcases F with _|⟨y,l⟩
     all_goals(repeat' first|intro hb hp|refine DR.is (bg U (bn U U d0 d1 aR) ?_)|refine am ?_|refine al ?_ ?_|fail)
     all_goals refine hK _ (i+1,_) (T.trans (List.append_nil _)) oD ?_
     all_goals exact df
    |some l=>
     rw[show dA dr=(l,0) by rw[dA,hv]] at kv;rw[hv] at T;by_cases a0:l.length=2
     · have T:(R.take (i+1)).filterMap (fm ps t w)=F++(dg t (getM ps (ap t.n (l.getD 1 af))).1).toList:=by rw[T];simp only[if_pos a0]
       have q2:((((l.map A3.c).length:Nat):Int) !=2)=false:=by simp[a0]
       have g5:(l.map A3.c)[(1:Int).toNat]?=some [I (l.getD 1 af).k,I (l.getD 1 af).n,S (l.getD 1 af).s]:=by rw[show(1:Int).toNat=1 from rfl,gP,cV af (show 1<l.length by omega)];rfl
       have kk:=ja t.n (l.getD 1 af) a2;have kg:=zj ps (ap t.n (l.getD 1 af)) C;have a5:(getM ps (ap t.n (l.getD 1 af))).1.length<=4398046511104:=by
        rcases EB ps (ap t.n (l.getD 1 af)) with h|⟨y,hy,h⟩
        · rw[h];simp
        · rw[<-h];exact(a1 y hy).2
       generalize l.getD 1 af=id at*
       generalize getM ps (ap t.n id)=gt at*
       obtain⟨gs,gb⟩:=gt;dsimp only at T a5 kg;have kw:=ml gs C;cases hu:dz (gs) with
       |none=>
        rw[show dA (gs)=([],1) by rw[dA,hu]] at kw;rw[show dg t (gs)=none by rw[dg,hu]] at T;rcases F with _|⟨y,l⟩
        all_goals(repeat' first|intro hb hp|refine DR.is (bg U (bn U U d0 d1 aR) ?_)|refine am ?_|refine al ?_ ?_|fail)
        all_goals refine hK _ (i+1,_) (T.trans (List.append_nil _)) oD ?_
        all_goals exact df
       |some r=>
        rw[show dA (gs)=(r,0) by rw[dA,hu]] at kw;by_cases ad:r.length=t.cols.length
        · have q3:((((r.map A3.c).length:Nat):Int)==(((t.cols.map B8.c).length:Nat):Int))=true:=by simp[ad]
          rw[show dg t (gs)=some r by rw[dg,hu];exact if_pos ad] at T;rcases F with _|⟨y,l⟩
          all_goals(repeat' first|intro hb hp|(refine LW.is ?_;first|refine nU 1000 (news:= [ai r]) U U U (cJ U) (cN _ _) (by simp[maxLen]) sP U ?_|apply eU 1004 (es:=(y::l).map ai) (n:=l.length+1) (news:= [ai r]) (er:=(y::l++ [r]).map ai) (nr:=(y::l++ [r]).length);rfl;rfl;rfl;rfl;exact .inl (row_ne (f:=ai) (k:=1) (fun _=>rfl) dD (cN y l));exact dS (f:=ai) (k:=1) (fun _=>rfl) (y::l);exact cJ U;exact(by rw[lM];exact Nat.le_refl _);exact cN _ _;exact(by rw[fJ];simp at ar|-;omega);exact(by simp at ar|-;omega);rfl;exact ij (y::l) r;exact sP)|refine DR.is (bg U (bn U U d0 d1 aR) ?_)|refine am ?_|refine al ?_ ?_|fail)
          · refine hK _ (i+1,[r]) T oD ?_;exact df
          · refine gK [(1000,1004)] U U U U ?_;refine hK _ (i+1,y::l++ [r]) T oD ?_;exact df
        · have q3:((((r.map A3.c).length:Nat):Int)==(((t.cols.map B8.c).length:Nat):Int))=false:=by simp;omega
          rw[show dg t (gs)=none by rw[dg,hu];exact if_neg ad] at T;rcases F with _|⟨y,l⟩
          all_goals(repeat' first|intro hb hp|refine DR.is (bg U (bn U U d0 d1 aR) ?_)|refine am ?_|refine al ?_ ?_|fail)
          all_goals refine hK _ (i+1,_) (T.trans (List.append_nil _)) oD ?_
          all_goals exact df
     · have T:(R.take (i+1)).filterMap (fm ps t w)=F++(none:Option (List A3)).toList:=by rw[T];simp only[if_neg a0]
       have q2:((((l.map A3.c).length:Nat):Int) !=2)=true:=by simp;omega
       rcases F with _|⟨y,l⟩
       all_goals(repeat' first|intro hb hp|refine DR.is (bg U (bn U U d0 d1 aR) ?_)|refine am ?_|refine al ?_ ?_|fail)
       all_goals refine hK _ (i+1,_) (T.trans (List.append_nil _)) oD ?_
       all_goals exact df
abbrev bu(l:List (List A3)):A5:=⟨35,.r (l.map ai).flatten 0⟩
def jB(l:List (List A3)): ∀e∈l.map ai,e.length=1:=dS (f:=ai) (k:=1) (fun _=>rfl) l
def ph{l:List (List A3)}{i:Nat}{x:List A3}(h:l[i]?=some x):(l.map ai)[i]?=some [.sl (x.map A3.c)]:=by rw[gP,h];rfl
def Jb{l:List (List A3)}{i:Nat}{x:List A3}:(l.map ai).set i [.sl (x.map A3.c)] =(l.set i x).map ai:=by rw[List.map_set];rfl
def nG{i:Int}{k:Nat}(h:i=(k:Int)):(0+i.toNat)*1=k:=by subst h;simp
def lz{l:List (List A3)}(h:l≠ []):(l.map ai).flatten≠ []:=row_ne (f:=ai) (k:=1) (fun _=>rfl) dD h
def gq{l:List (List A3)}{b:A5}(h:l≠ []):dV [] [(1000,bu l)] [(1000,b)] =true:=by
 have:=lz h;cases T:(l.map ai).flatten with
 |nil=>exact absurd T this
 |cons x xs=>simp only[dV,keys,bu,T];rfl
def cZ{L:List Nat}{l:List (List A3)}{id:Nat}: [(id,bu l)].all (fun p=>AV.mentsIn L p.2.cs)=true:=by
 simp only[List.all_cons,List.all_nil,Bool.and_true,A5.cs_r,List.replicate_zero,List.append_nil];exact AV.mentsIn_iv _ _
def lV{gs:aw}(l:List (List A3))(a b k:Nat)(h1:a+k<=b)(h2:b+k<=l.length)(hn:l.length<=1000000)(ad:l≠ []):CallG gs prog 243 [.bsh 1000 0 l.length 1,aI a,aI b,aI k,.any] [(1000,bu l)] [(1000,bu (Ae l a b k))] [] (.tup []):=by
 refine iG func243 ntmps243 (fun w0 E0 hG=> ?_);refine wz ?_;refine ae (ι:=Nat) (fun i=>⟨[(10,aI (i:Int)),(0,.bsh 1000 0 l.length 1),(1,aI a),(2,aI b),(3,aI k)],[(1000,bu (Ae l a b i))],[]⟩) (fun i=>k - i) (fun i=>i<=k) (i0:=0) ?_ (Nat.zero_le _) ?_
 · rw[GS C C];exact Wk.mkX ax F5 (fun s v h=>h) .nil
 intro i hi K hK;by_cases hk:i<k
 · have q:decide ((i:Int)<(k:Int))=true:=decide_eq_true C;obtain⟨x,hx⟩: ∃x,l[a+i]?=some x:=⟨_,gG C⟩
   obtain⟨y,hy⟩: ∃y,l[b+i]?=some y:=⟨_,gG C⟩
   have T:=GT (l:=l) (a:=a) (b:=b) (k:=i) C C hx hy;have hl:=oU (l:=l) (a:=a) (b:=b) (k:=i) C C;have gx:(Ae l a b i)[a+i]?=some x:=by rw[lu C C,if_neg C,if_neg C,hx]
   have gy:(Ae l a b i)[b+i]?=some y:=by rw[lu C C,if_neg C,if_neg C,hy]
   generalize Ae l a b i=c at*
   have g2:(c.set (a+i) y)[b+i]?=some y:=by rw[List.getElem?_set_ne C,gy]
   have o1:(0+((a:Int)+(i:Int)).toNat)*1=a+i:=nG C;have o2:(0+((b:Int)+(i:Int)).toNat)*1=b+i:=nG C;have b1:((a:Int)+(i:Int))<(l.length:Int):=C;have b2:((b:Int)+(i:Int))<(l.length:Int):=C;have p1:(0:Int)<=(a:Int)+(i:Int):=C;have p2:(0:Int)<=(b:Int)+(i:Int):=C;(repeat' first|intro hb hp|(refine DR.is ?_;first|apply bg;rfl;apply ay;rfl;rfl;(first|exact p1|exact p2);(first|exact b1|exact b2);(first|exact o1|exact o2)|apply bg;rfl;apply bc (es:=c.map ai) (k:=1) (i:=b+i) (f:=0);rfl;rfl;exact jB c;exact C;exact ph gy;rfl|apply bg;rfl;apply bc (es:=c.map ai) (k:=1) (i:=a+i) (f:=0);rfl;rfl;exact jB c;exact C;exact ph gx;rfl|(apply dU (es:=c.map ai) (i:=a+i) (e:= [.sl (y.map A3.c)]) (er:=(c.set (a+i) y).map ai);rfl;rfl;rfl;rfl;rfl;rfl;exact jB c;exact C;exact(by rw[lM];first|omega|(rw[List.length_set];omega));exact Jb)|(apply dU (es:=(c.set (a+i) y).map ai) (i:=b+i) (e:= [.sl (x.map A3.c)]) (er:=((c.set (a+i) y).set (b+i) x).map ai);rfl;rfl;rfl;rfl;rfl;rfl;exact jB (c.set (a+i) y);exact C;exact(by rw[lM];first|omega|(rw[List.length_set];omega));exact Jb))|refine am ?_|refine al ?_ ?_|fail)
   rw[T];refine hK _ (i+1) hk C ?_;exact Wk.mk' kK F5 B1 .nil
 · have q:decide ((i:Int)<(k:Int))=false:=decide_eq_false C;have e:i=k:=C;subst e;refine wz ?_;apply aM;rfl;rfl;exact Wk.mk' kK .nil B1 .nil;rfl
def uE{gs:aw}(l:List (List A3))(a m b:Nat)(h1:a<m)(h2:m<b)(h3:b<=l.length)(hn:l.length<=1000000):CallG gs prog 229 [.bsh 1000 0 l.length 1,aI a,aI m,aI b,.any] [(1000,bu l)] [(1000,bu (dX l a m b))] [] (.tup []):=by
 refine iG func229 ntmps229 (fun w0 E0 hG=> ?_);refine wz ?_;refine ae (ι:=Nat×Nat×List (List A3)) (fun i=>⟨[(10,aI (i.1:Int)),(11,aI (i.2.1:Int)),(0,.bsh 1000 0 l.length 1),(2,aI m),(4,.any)],[(1000,bu i.2.2)],[]⟩) (fun i=>i.1+i.2.1) (fun i=>dX i.2.2 (m - i.1) m (m+i.2.1)=dX l a m b/\i.2.2.length=l.length/\0<i.1/\0<i.2.1/\i.1<=m/\m+i.2.1<=l.length) (i0:=(m - a,b - m,l)) ?_ ⟨by dsimp only;rw[show m - (m - a)=a by omega,show m+(b - m)=b by omega],rfl,by dsimp only;omega,by dsimp only;omega,by dsimp only;omega,by dsimp only;omega⟩ ?_
 · refine Wk.mkX ax (.cons rfl (Sub.of_eq ?_) (.cons rfl (Sub.of_eq ?_) F3)) (fun s v h=>h) .nil
   · show aI ((m:Int) - (a:Int))=aI ((m - a:Nat):Int);congr 3;omega
   · show aI ((b:Int) - (m:Int))=aI ((b - m:Nat):Int);congr 3;omega
 rintro ⟨i,j,c⟩ ⟨hR,T,hi,hj,ar,a0⟩ K hK;dsimp only at hR T hi hj ar a0;have ad:c≠ []:=fun e=>by rw[e] at T;simp at T;omega
 rw[<-T];by_cases aR:i=j
 · have q:((i:Int) !=(j:Int))=false:=by simp[aR]
   subst aR;have k:=lV (gs:=gs) c (m - i) m i C C C ad;rw[show((m - i:Nat):Int)=(m:Int) - (i:Int) by omega,Lr ar C,hR] at k;(repeat' first|intro hb hp|apply ac [];rfl;exact hG;exact k;exact(.cons fR (.cons fR (.cons fR (.cons fR (.cons (Sub.any _) .nil)))));exact B1;rfl;exact gq ad;exact cZ;rfl|refine am ?_|refine al ?_ ?_|fail)
   apply aM;rfl;rfl;exact Wk.mk' kK .nil B1 .nil;rfl
 have q:((i:Int) !=(j:Int))=true:=by simp;omega
 by_cases hg:j<i
 · have q2:decide ((j:Int)<(i:Int))=true:=decide_eq_true C;have k:=lV (gs:=gs) c (m - i) m j C C C ad;have hl:=oU (l:=c) (a:=m - i) (b:=m) (k:=j) C C;rw[show((m - i:Nat):Int)=(m:Int) - (i:Int) by omega] at k;rw[<-Lq hg ar C] at hR;generalize Ae c (m - i) m j=c' at*
   (repeat' first|intro hb hp|apply ac [];rfl;exact hG;exact k;exact(.cons fR (.cons fR (.cons fR (.cons fR (.cons (Sub.any _) .nil)))));exact B1;rfl;exact gq ad;exact cZ;rfl|refine am ?_|refine al ?_ ?_|fail)
   refine hK _ (i - j,j,c') ⟨hR,by dsimp only;omega,by dsimp only;omega,hj,by dsimp only;omega,by dsimp only;omega⟩ oD ?_;refine Wk.mk' kK (.cons rfl (Sub.of_eq ?_) (wF (.cons rfl (Sub.of_eq (by rw[T])) F2))) B1 .nil;show aI ((i:Int) - (j:Int))=aI ((i - j:Nat):Int);congr 3;omega
 · have q2:decide ((j:Int)<(i:Int))=false:=decide_eq_false C;have k:=lV (gs:=gs) c (m - i) (m+j - i) i C C C ad;have hl:=oU (l:=c) (a:=m - i) (b:=m+j - i) (k:=i) C C;rw[show((m - i:Nat):Int)=(m:Int) - (i:Int) by omega,show((m+j - i:Nat):Int)=(m:Int)+(j:Int) - (i:Int) by omega] at k;rw[<-Lp (show i<j by omega) ar C] at hR;generalize Ae c (m - i) (m+j - i) i=c' at*
   (repeat' first|intro hb hp|apply ac [];rfl;exact hG;exact k;exact(.cons fR (.cons fR (.cons fR (.cons fR (.cons (Sub.any _) .nil)))));exact B1;rfl;exact gq ad;exact cZ;rfl|refine am ?_|refine al ?_ ?_|fail)
   refine hK _ (i,j - i,c') ⟨hR,by dsimp only;omega,hi,by dsimp only;omega,ar,by dsimp only;omega⟩ oD ?_;refine Wk.mk' kK (wF (.cons rfl (Sub.of_eq ?_) (.cons rfl (Sub.of_eq (by rw[T])) F2))) B1 .nil;show aI ((j:Int) - (i:Int))=aI ((j - i:Nat):Int);congr 3;omega
abbrev fO:FuncId:=131
abbrev ep:List AV:= [.ptr 1011 0,.ptr 1012 0,.ptr 1013 0]
abbrev iS(s:A9)(t:A4):List (Nat×A5):= [(1011,⟨23,.l [.any]⟩),(1012,⟨80,.l (s.cs.map .iv)⟩),(1013,⟨57,.l (t.c.map .iv)⟩)]
def mg{s:A9}{t:A4}:dV [] (iS s t) (iS s t)=true:=rfl
def mf{s:A9}{t:A4}:(iS s t).all (fun p=>AV.mentsIn ([] ++keys (iS s t)) p.2.cs)=true:=by simp[keys,A9.cs,A4.c,AV.mentsIn,AV.mentIn]
def cm{s:A9}{t:A4}{l:List (List A3)}{b:A5}(h:l≠ []):dV [] ((1000,bu l)::iS s t) ((1000,b)::iS s t)=true:=by
 have:=lz h;cases T:(l.map ai).flatten with
 |nil=>exact absurd T this
 |cons x xs=>simp only[dV,keys,bu,T];rfl
def ck{L:List Nat}{s:A9}{t:A4}{l:List (List A3)}:((1000,bu l)::iS s t).all (fun p=>AV.mentsIn L p.2.cs)=true:=by
 have:=cZ (L:=L) (l:=l) (id:=1000);simp only[List.all_cons,List.all_nil,Bool.and_true] at this;simp only[List.all_cons,List.all_nil,Bool.and_true,this,Bool.true_and];simp[A9.cs,A4.c,AV.mentsIn,AV.mentIn]
def cL(cf:List A3->List A3->Int)(x y:List A3):Bool:= !decide (cf y x<0)
def wq{gs:aw}{s:A9}{t:A4}{cf:List A3->List A3->Int}[A0 prog fO](l:List (List A3))(a b:Nat)(hL:E4 (cL cf) l)(h1:a<=b)(h2:b<=l.length)(hn:l.length<=1000000)
 (hc: ∀x∈l,∀y∈l,CallG gs prog fO ([.iv (.sl (x.map A3.c)),.iv (.sl (y.map A3.c))] ++ep) (iS s t) (iS s t) [] (aI (cf x y))):
 CallG gs prog 197 [.bsh 1000 0 l.length 1,aI a,aI b,.fn fO ep] ((1000,bu l)::iS s t) ((1000,bu (bK (cL cf) l a b))::iS s t) [] (.tup []):=by
 refine iG func197 ntmps197 (fun w0 E0 hG=> ?_);refine wz ?_;refine ae (ι:=Nat) (fun i=>⟨[(8,aI (i:Int)),(0,.bsh 1000 0 l.length 1),(1,aI a),(2,aI b),(3,.fn fO ep)],(1000,bu (bK (cL cf) l a i))::iS s t,[]⟩) (fun i=>b - i) (fun i=>a<i/\(i<=b\/i=a+1)) (i0:=a+1) ?_ ⟨by omega,.inr rfl⟩ ?_
 · rw[pV C C];exact Wk.mkX ax F5 (fun s v h=>h) .nil
 rintro i ⟨hi,a9⟩ K hK;by_cases hk:i<b
 · have q:decide ((i:Int)<(b:Int))=true:=decide_eq_true C;have hl:=mq (le:=cL cf) (l:=l) (a:=a) (b:=i) C C;have hs:=ku (a:=a) (b:=i) hL C C;have hm: ∀x,x∈bK (cL cf) l a i↔x∈l:=fun x=>nQ C
   have ar:bK (cL cf) (bK (cL cf) l a i) a (i+1)=bK (cL cf) l a (i+1):=Abs.Fd hL C C C C C;have a3:E4 (cL cf) (bK (cL cf) l a i):=⟨hL.tr,hL.tot,fun x hx y hy=>hL.anti x ((hm x).1 hx) y ((hm y).1 hy)⟩
   generalize bK (cL cf) l a i=c at*
   have ba:c≠ []:=fun e=>by rw[e] at hl;simp at hl;omega
   obtain⟨x,hx⟩: ∃x,c[i]?=some x:=⟨_,gG C⟩
   have a4:x∈l:=(hm x).1 (gE hx);refine wz ?_;refine ae (ι:=Nat) (fun j=>⟨[(9,aI (j:Int)),(8,aI (i:Int)),(0,.bsh 1000 0 l.length 1),(1,aI a),(2,aI b),(3,.fn fO ep)],(1000,bu (nl c i j))::iS s t,[]⟩) (fun j=>j) (fun j=>a<=j/\j<=i/\ ∀t y,j<=t->t<i->c[t]?=some y->cL cf x y=true) (i0:=i) ?_ ⟨by omega,Nat.le_refl _,fun t y h1 h2=>absurd h1 C⟩ ?_
   · rw[xA C];exact Wk.mkX (fy rfl) F6 (fun s v h=>h) .nil
   rintro j ⟨a5,ad,a1⟩ K2 a6;by_cases hj:a<j
   · have q2:decide ((a:Int)<(j:Int))=true:=decide_eq_true C;obtain⟨j,rfl⟩: ∃k,j=k+1:=⟨j - 1,by omega⟩
     obtain⟨y,hy⟩: ∃y,c[j]?=some y:=⟨_,gG C⟩
     have a7:y∈l:=(hm y).1 (gE hy);have a8:=xz (l:=c) (i:=i) (j:=j) ad C hx hy;have bh:=uZ (l:=c) (i:=i) (j:=j+1) ad C;have gx:(nl c i (j+1))[j+1]?=some x:=by rw[ir ad C,if_pos rfl,hx]
     have gy:(nl c i (j+1))[j]?=some y:=by rw[ir ad C,if_neg C,if_neg C,hy]
     have o1:(0+((j+1:Nat):Int).toNat)*1=j+1:=nG rfl;have o2:(0+(((j+1:Nat):Int) - 1).toNat)*1=j:=nG C;have b1:((j+1:Nat):Int)<(l.length:Int):=C;have b2:(((j+1:Nat):Int) - 1)<(l.length:Int):=C;have p1:(0:Int)<=((j+1:Nat):Int):=C;have p2:(0:Int)<=((j+1:Nat):Int) - 1:=C;have kc:=hc x a4 y a7;by_cases aR:cf x y<0
     · have q3:decide (cf x y<0)=true:=decide_eq_true aR;generalize nl c i (j+1)=m at*
       have g2:(m.set (j+1) y)[j]?=some y:=by rw[List.getElem?_set_ne C,gy]
       (repeat' first|intro hb hp|(refine DR.is ?_;first|apply bg;rfl;apply ay;rfl;rfl;(first|exact p1|exact p2);(first|exact b1|exact b2);(first|exact o1|exact o2)|apply bg;rfl;apply bc (es:=m.map ai) (k:=1) (i:=j+1) (f:=0);rfl;rfl;exact jB m;exact C;exact ph gx;rfl|apply bg;rfl;apply bc (es:=m.map ai) (k:=1) (i:=j) (f:=0);rfl;rfl;exact jB m;exact C;exact ph gy;rfl|apply eY (f:=fO);rfl;exact hG;rfl;exact kc;rfl;exact(.cons rfl (.cons rfl (.cons rfl .nil)));exact mg;exact mf;rfl|apply dU (es:=m.map ai) (i:=j+1) (e:= [.sl (y.map A3.c)]) (er:=(m.set (j+1) y).map ai);rfl;rfl;rfl;rfl;rfl;rfl;exact jB m;exact C;exact(by rw[lM];omega);exact Jb|apply dU (es:=(m.set (j+1) y).map ai) (i:=j) (e:= [.sl (x.map A3.c)]) (er:=((m.set (j+1) y).set j x).map ai);rfl;rfl;rfl;rfl;rfl;rfl;exact jB (m.set (j+1) y);exact C;exact(by rw[lM,List.length_set];omega);exact Jb)|refine am ?_|refine al ?_ ?_|fail)
       rw[a8];refine a6 _ j ⟨by omega,by omega,fun t z a0 a2 hz=> ?_⟩ C ?_
       · by_cases e:t=j
         · subst e;rw[hy] at hz;cases hz;have e1:cL cf y x=false:=by simp[cL,aR]
           have e2:=hL.tot x y
           rwa [e1,Bool.or_false] at e2
         · exact a1 t z C a2 hz
       refine Wk.mk' kK (.cons rfl (Sub.of_eq ?_) F5) B4 .nil;show aI (((j+1:Nat):Int) - 1)=aI (j:Int);congr 3;omega
     · have q3:decide (cf x y<0)=false:=decide_eq_false aR;have T:nl c i (j+1)=bK (cL cf) c a (i+1):=zc a3 a5 ad C hs hx (fun t z a0 a2 hz=>by
        have e1:cL cf y x=true:=by simp[cL,aR]
        by_cases e:t=j
        · subst e;rw[hy] at hz;cases hz;exact e1
        · exact hL.tr _ y _ (hs t j z y a0 C C hz hy) e1) a1
       rw[ar] at T;generalize nl c i (j+1)=m at*
       (repeat' first|intro hb hp|(refine DR.is ?_;first|apply bg;rfl;apply ay;rfl;rfl;(first|exact p1|exact p2);(first|exact b1|exact b2);(first|exact o1|exact o2)|apply bg;rfl;apply bc (es:=m.map ai) (k:=1) (i:=j+1) (f:=0);rfl;rfl;exact jB m;exact C;exact ph gx;rfl|apply bg;rfl;apply bc (es:=m.map ai) (k:=1) (i:=j) (f:=0);rfl;rfl;exact jB m;exact C;exact ph gy;rfl|apply eY (f:=fO);rfl;exact hG;rfl;exact kc;rfl;exact(.cons rfl (.cons rfl (.cons rfl .nil)));exact mg;exact mf;rfl)|refine am ?_|refine al ?_ ?_|fail)
       rw[T];refine hK _ (i+1) ⟨by omega,.inl hk⟩ C ?_;exact Wk.mk' kK F5 B4 .nil
   · have q2:decide ((a:Int)<(j:Int))=false:=decide_eq_false C;have ej:j=a:=C;subst ej;have T:nl c i j=bK (cL cf) c j (i+1):=zc a3 nR ad C hs hx (fun t z a0 a2 hz=>absurd a0 C) a1;rw[ar] at T;refine wz ?_;rw[T];refine hK _ (i+1) ⟨by omega,.inl hk⟩ C ?_;exact Wk.mk' kK F5 B4 .nil
 · have q:decide ((i:Int)<(b:Int))=false:=decide_eq_false C;have e:bK (cL cf) l a i=bK (cL cf) l a b:=by
    by_cases e:i=b
    · rw[e]
    · rw[pV C C,pV C C]
   rw[e];refine wz ?_;apply aM;rfl;rfl;exact Wk.mk' kK .nil B4 .nil;rfl
end Go.Proofs.Y
namespace Go.Abs
def jl{P:Program}{c:C7}{ops:Array Oper}{Q:Exit->Act->World->Prop}{rest:List Oper}{fr:List (Nat×AV)}{bx:List (Nat×A5)}{tk:List (Nat×C9)}{d:Nat}{ty:TypeId}{pos:String}{T:Array Edge}{x:Operand}{s t:TypeId}{k k0:IntKind}{m n:Int}(ad:Nat.ble (d+1) c.nt=true)(hx:St.ev ⟨fr,bx,tk⟩ x= .iv (.im (.int k m)))[ht:D9 P t .i64][hs:D9 P s k0](hq:IntKind.i64.wrap m=n)
 (h:LW P c ⟨(d,aI n)::fr,bx,tk⟩ ops Q rest):LW P c ⟨fr,bx,tk⟩ ops Q (⟨some d,.convert s t x,ty,pos,T,none⟩::rest):=by
 exact s_v (v:=aI n) h ad (by subst hq;exact Ck hx)
end Go.Abs
namespace Go.Proofs.Y
open Go.Abs Go.Proofs.Tryz
attribute [local irreducible] L Code.wp bodyPost Exit.then Exit.inBlock
def Eu{cf:List A3->List A3->Int}{x y:List A3}{l:List (List A3)}(T:E4 (cL cf) l)(h:cf y x<0):cL cf y x=true:=by
 have e1:cL cf x y=false:=by simp[cL,h]
 have e2:=T.tot x y
 rwa [e1,Bool.false_or] at e2
def yX{cf:List A3->List A3->Int}{x y:List A3}(h: ¬cf y x<0):cL cf x y=true:=by simp[cL,h]
def yD{cf:List A3->List A3->Int}{l l':List (List A3)}(hL:E4 (cL cf) l'){a b p q:Nat}{z w:List A3}(hs:ei (cL cf) l a b)(k1:a<=p)(k2:p<=q)(k3:q<b)(hz:l[p]?=some z)(T:l[q]?=some w):cL cf z w=true:=by
 by_cases e:p=q
 · subst e;rw[hz] at T;cases T;have:=hL.tot z z;simpa using this
 · exact hs p q z w k1 C k3 hz T
def EA(i j:Nat)(hn:i+j<4611686018427387904)(h:i<j): ∃k:Nat,IntKind.i64.wrap ((IntKind.u64.wrap ((i:Int)+(j:Int))).fdiv (2 ^ min (Int.toNat 1) IntKind.u64.bits))=(k:Int)/\i<=k/\k<j:=⟨(i+j) / 2,HX i j hn,by omega,by omega⟩
def GQ{gs:aw}{s:A9}{t:A4}{cf:List A3->List A3->Int}[A0 prog fO](l:List (List A3))(a b:Nat)(hL:E4 (cL cf) l)(h1:a+1<b)(h2:b<=l.length)(hn:l.length<=1000000)(hs:ei (cL cf) l (a+1) b)
 (hc: ∀x∈l,∀y∈l,CallG gs prog fO ([.iv (.sl (x.map A3.c)),.iv (.sl (y.map A3.c))] ++ep) (iS s t) (iS s t) [] (aI (cf x y))):
 CallG gs prog 207 [.bsh 1000 0 l.length 1,aI a,aI ((a+1:Nat):Int),aI b,.fn fO ep] ((1000,bu l)::iS s t) ((1000,bu (bK (cL cf) l a b))::iS s t) [] (.tup []):=by
 refine iG func207 ntmps207 (fun w0 E0 hG=> ?_);have q:(((a+1:Nat):Int) - (a:Int)==1)=true:=by simp;omega
 obtain⟨x,hx⟩: ∃x,l[a]?=some x:=⟨_,gG C⟩
 have a2:x∈l:=gE hx;refine wz ?_;refine ae (ι:=Nat×Nat) (fun i=>⟨[(10,aI (i.1:Int)),(11,aI (i.2:Int)),(0,.bsh 1000 0 l.length 1),(1,aI a),(4,.fn fO ep)],(1000,bu l)::iS s t,[]⟩) (fun i=>i.2 - i.1) (fun i=>a+1<=i.1/\i.1<=i.2/\i.2<=b/\(∀t z,a+1<=t->t<i.1->l[t]?=some z->cL cf z x=true)/\(∀t z,i.2<=t->t<b->l[t]?=some z->cL cf x z=true)) (i0:=(a+1,b)) ?_ ⟨Nat.le_refl _,by dsimp only;omega,Nat.le_refl _,fun t z h1 h2=>absurd h1 (by dsimp only at h2;omega),fun t z h1 h2=>absurd h1 oD⟩ ?_
 · exact Wk.mkX (fy rfl) F5 (fun s v h=>h) .nil
 rintro ⟨i,j⟩ ⟨hi,a3,hj,ad,ar⟩ K hK;dsimp only at hi a3 hj ad ar;by_cases hk:i<j
 · have q2:decide ((i:Int)<(j:Int))=true:=decide_eq_true C;obtain⟨h,hh,h3,h4⟩:=EA i j C hk;obtain⟨y,hy⟩: ∃y,l[h]?=some y:=⟨_,gG C⟩
   have a4:y∈l:=gE hy;have kc:=hc y a4 x a2;have o1:(0+((h:Nat):Int).toNat)*1=h:=nG rfl;have o2:(0+((a:Nat):Int).toNat)*1=a:=nG rfl;have b1:(h:Int)<(l.length:Int):=C;have b2:(a:Int)<(l.length:Int):=C;by_cases T:cf y x<0
   · have q3:decide (cf y x<0)=true:=decide_eq_true T;(repeat' first|intro hb hp|apply jl;rfl;rfl;exact hh|(refine DR.is ?_;first|apply bg;rfl;apply ay;rfl;rfl;exact Int.natCast_nonneg _;(first|exact b1|exact b2);(first|exact o1|exact o2)|apply bg;rfl;apply bc (es:=l.map ai) (k:=1) (i:=h) (f:=0);rfl;rfl;exact jB l;exact C;exact ph hy;rfl|apply bg;rfl;apply bc (es:=l.map ai) (k:=1) (i:=a) (f:=0);rfl;rfl;exact jB l;exact C;exact ph hx;rfl|apply eY (f:=fO);rfl;exact hG;rfl;exact kc;rfl;exact(.cons rfl (.cons rfl (.cons rfl .nil)));exact mg;exact mf;rfl)|refine am ?_|refine al ?_ ?_|fail)
     refine hK _ (h+1,j) ⟨by dsimp only;omega,by dsimp only;omega,hj,fun t z aR a0 hz=>hL.tr _ y _ (yD hL hs aR (by dsimp only at a0;omega) C hz hy) (Eu hL T),ar⟩ oD ?_;exact Wk.mk' kK (wG F4) B4 .nil
   · have q3:decide (cf y x<0)=false:=decide_eq_false T;(repeat' first|intro hb hp|apply jl;rfl;rfl;exact hh|(refine DR.is ?_;first|apply bg;rfl;apply ay;rfl;rfl;exact Int.natCast_nonneg _;(first|exact b1|exact b2);(first|exact o1|exact o2)|apply bg;rfl;apply bc (es:=l.map ai) (k:=1) (i:=h) (f:=0);rfl;rfl;exact jB l;exact C;exact ph hy;rfl|apply bg;rfl;apply bc (es:=l.map ai) (k:=1) (i:=a) (f:=0);rfl;rfl;exact jB l;exact C;exact ph hx;rfl|apply eY (f:=fO);rfl;exact hG;rfl;exact kc;rfl;exact(.cons rfl (.cons rfl (.cons rfl .nil)));exact mg;exact mf;rfl)|refine am ?_|refine al ?_ ?_|fail)
     refine hK _ (i,h) ⟨hi,by dsimp only;omega,by dsimp only;omega,ad,fun t z aR a0 hz=>hL.tr _ y _ (yX T) (yD hL hs (by omega:a+1<=h) (by dsimp only at aR;omega) a0 hy hz)⟩ oD ?_;exact Wk.mk' kK F5 B4 .nil
 have q2:decide ((i:Int)<(j:Int))=false:=decide_eq_false C;have a5:i=j:=C;subst a5;have a1:dX l a (a+1) i=bK (cL cf) l a b:=HU hL hi hj h2 hs hx ad ar;refine wz ?_;refine ae (ι:=Nat) (fun k=>⟨[(13,aI (k:Int)),(10,aI (i:Int)),(0,.bsh 1000 0 l.length 1)],(1000,bu (dX l a (a+1) (k+1)))::iS s t,[]⟩) (fun k=>i - k) (fun k=>a<=k/\k+1<=i) (i0:=a) ?_ ⟨Nat.le_refl _,by omega⟩ ?_
 · rw[yL C C];exact Wk.mkX (fy rfl) F3 (fun s v h=>h) .nil
 rintro k ⟨a6,a9⟩ K2 a7;by_cases ba:k+1<i
 · have q4:decide ((k:Int)<(i:Int) - 1)=true:=decide_eq_true C;obtain⟨y,hy⟩: ∃y,l[k+1]?=some y:=⟨_,gG C⟩
   have a8:=Js (l:=l) (i:=a) (k:=k) a6 C hx hy;have bh:=kI (l:=l) (a:=a) (m:=a+1) (b:=k+1) C C C;have gx:(dX l a (a+1) (k+1))[k]?=some x:=by rw[cz C C C,if_neg C,if_pos C,<-hx];congr 1;omega
   have gy:(dX l a (a+1) (k+1))[k+1]?=some y:=by rw[cz C C C,if_neg C,if_neg C,hy]
   generalize dX l a (a+1) (k+1)=m at*
   have g2:(m.set k y)[k+1]?=some y:=by rw[List.getElem?_set_ne C,gy]
   have o1:(0+((k:Nat):Int).toNat)*1=k:=nG rfl;have o2:(0+(((k:Nat):Int)+1).toNat)*1=k+1:=nG C;have b1:(k:Int)<(l.length:Int):=C;have b2:(k:Int)+1<(l.length:Int):=C;have p1:(0:Int)<=(k:Int):=C;have p2:(0:Int)<=(k:Int)+1:=C;(repeat' first|intro hb hp|(refine DR.is ?_;first|apply bg;rfl;apply ay;rfl;rfl;(first|exact p1|exact p2);(first|exact b1|exact b2);(first|exact o1|exact o2)|apply bg;rfl;apply bc (es:=m.map ai) (k:=1) (i:=k+1) (f:=0);rfl;rfl;exact jB m;exact C;exact ph gy;rfl|apply bg;rfl;apply bc (es:=m.map ai) (k:=1) (i:=k) (f:=0);rfl;rfl;exact jB m;exact C;exact ph gx;rfl|apply dU (es:=m.map ai) (i:=k) (e:= [.sl (y.map A3.c)]) (er:=(m.set k y).map ai);rfl;rfl;rfl;rfl;rfl;rfl;exact jB m;exact C;exact(by rw[lM];omega);exact Jb|apply dU (es:=(m.set k y).map ai) (i:=k+1) (e:= [.sl (x.map A3.c)]) (er:=((m.set k y).set (k+1) x).map ai);rfl;rfl;rfl;rfl;rfl;rfl;exact jB (m.set k y);exact C;exact(by rw[lM,List.length_set];omega);exact Jb)|refine am ?_|refine al ?_ ?_|fail)
   rw[a8];refine a7 _ (k+1) ⟨by omega,by omega⟩ C ?_;exact Wk.mk' kK (wG F2) B4 .nil
 · have q4:decide ((k:Int)<(i:Int) - 1)=false:=decide_eq_false C;rw[show k+1=i by omega,a1];refine wz ?_;apply L.endQ0;rfl;rfl;exact Wk.mk' kK .nil B4 .nil;rfl
def GP{gs:aw}{s:A9}{t:A4}{cf:List A3->List A3->Int}[A0 prog fO](l:List (List A3))(a m:Nat)(hL:E4 (cL cf) l)(h1:a+1<m)(h2:m<l.length)(hn:l.length<=1000000)(hs:ei (cL cf) l a m)
 (hc: ∀x∈l,∀y∈l,CallG gs prog fO ([.iv (.sl (x.map A3.c)),.iv (.sl (y.map A3.c))] ++ep) (iS s t) (iS s t) [] (aI (cf x y))):
 CallG gs prog 207 [.bsh 1000 0 l.length 1,aI a,aI m,aI ((m+1:Nat):Int),.fn fO ep] ((1000,bu l)::iS s t) ((1000,bu (bK (cL cf) l a (m+1)))::iS s t) [] (.tup []):=by
 refine iG func207 ntmps207 (fun w0 E0 hG=> ?_);have q:((m:Int) - (a:Int)==1)=false:=by simp;omega
 have q1:(((m+1:Nat):Int) - (m:Int)==1)=true:=by simp;omega
 obtain⟨x,hx⟩: ∃x,l[m]?=some x:=⟨_,gG C⟩
 have a3:x∈l:=gE hx;refine wz ?_;refine ae (ι:=Nat×Nat) (fun i=>⟨[(14,aI (i.1:Int)),(15,aI (i.2:Int)),(0,.bsh 1000 0 l.length 1),(2,aI m),(4,.fn fO ep)],(1000,bu l)::iS s t,[]⟩) (fun i=>i.2 - i.1) (fun i=>a<=i.1/\i.1<=i.2/\i.2<=m/\(∀t z,a<=t->t<i.1->l[t]?=some z->cL cf z x=true)/\(∀t z,i.2<=t->t<m->l[t]?=some z->cL cf x z=true)) (i0:=(a,m)) ?_ ⟨Nat.le_refl _,by dsimp only;omega,Nat.le_refl _,fun t z h1 h2=>absurd h1 (by dsimp only at h2;omega),fun t z h1 h2=>absurd h1 oD⟩ ?_
 · exact Wk.mkX (fy rfl) F5 (fun s v h=>h) .nil
 rintro ⟨i,j⟩ ⟨hi,a4,hj,ar,aR⟩ K hK;dsimp only at hi a4 hj ar aR;by_cases hk:i<j
 · have q2:decide ((i:Int)<(j:Int))=true:=decide_eq_true C;obtain⟨h,hh,h3,h4⟩:=EA i j C hk;obtain⟨y,hy⟩: ∃y,l[h]?=some y:=⟨_,gG C⟩
   have a5:y∈l:=gE hy;have kc:=hc x a3 y a5;have o1:(0+((h:Nat):Int).toNat)*1=h:=nG rfl;have o2:(0+((m:Nat):Int).toNat)*1=m:=nG rfl;have b1:(h:Int)<(l.length:Int):=C;have b2:(m:Int)<(l.length:Int):=C;by_cases T:cf x y<0
   · have q3:decide (cf x y<0)=true:=decide_eq_true T;have q4:(!decide (cf x y<0))=false:=by rw[q3];rfl
     (repeat' first|intro hb hp|apply jl;rfl;rfl;exact hh|(refine DR.is ?_;first|apply bg;rfl;apply ay;rfl;rfl;exact Int.natCast_nonneg _;(first|exact b1|exact b2);(first|exact o1|exact o2)|apply bg;rfl;apply bc (es:=l.map ai) (k:=1) (i:=h) (f:=0);rfl;rfl;exact jB l;exact C;exact ph hy;rfl|apply bg;rfl;apply bc (es:=l.map ai) (k:=1) (i:=m) (f:=0);rfl;rfl;exact jB l;exact C;exact ph hx;rfl|apply eY (f:=fO);rfl;exact hG;rfl;exact kc;rfl;exact(.cons rfl (.cons rfl (.cons rfl .nil)));exact mg;exact mf;rfl)|refine am ?_|refine al ?_ ?_|fail)
     refine hK _ (i,h) ⟨hi,by dsimp only;omega,by dsimp only;omega,ar,fun t z a0 a1 hz=>hL.tr _ y _ (Eu hL T) (yD hL hs (by omega:a<=h) (by dsimp only at a0;omega) a1 hy hz)⟩ oD ?_;exact Wk.mk' kK F5 B4 .nil
   · have q3:decide (cf x y<0)=false:=decide_eq_false T;have q4:(!decide (cf x y<0))=true:=by rw[q3];rfl
     (repeat' first|intro hb hp|apply jl;rfl;rfl;exact hh|(refine DR.is ?_;first|apply bg;rfl;apply ay;rfl;rfl;exact Int.natCast_nonneg _;(first|exact b1|exact b2);(first|exact o1|exact o2)|apply bg;rfl;apply bc (es:=l.map ai) (k:=1) (i:=h) (f:=0);rfl;rfl;exact jB l;exact C;exact ph hy;rfl|apply bg;rfl;apply bc (es:=l.map ai) (k:=1) (i:=m) (f:=0);rfl;rfl;exact jB l;exact C;exact ph hx;rfl|apply eY (f:=fO);rfl;exact hG;rfl;exact kc;rfl;exact(.cons rfl (.cons rfl (.cons rfl .nil)));exact mg;exact mf;rfl)|refine am ?_|refine al ?_ ?_|fail)
     refine hK _ (h+1,j) ⟨by dsimp only;omega,by dsimp only;omega,hj,fun t z a0 a1 hz=>hL.tr _ y _ (yD hL hs a0 (by dsimp only at a1;omega) C hz hy) (yX T),aR⟩ oD ?_;exact Wk.mk' kK (wG F4) B4 .nil
 have q2:decide ((i:Int)<(j:Int))=false:=decide_eq_false C;have a6:i=j:=C;subst a6;have a2:nl l m i=bK (cL cf) l a (m+1):=zc hL hi hj h2 hs hx ar aR;refine wz ?_;refine ae (ι:=Nat) (fun k=>⟨[(17,aI (k:Int)),(14,aI (i:Int)),(0,.bsh 1000 0 l.length 1)],(1000,bu (nl l m k))::iS s t,[]⟩) (fun k=>k) (fun k=>i<=k/\k<=m) (i0:=m) ?_ ⟨hj,Nat.le_refl _⟩ ?_
 · rw[xA C];exact Wk.mkX (fy rfl) F3 (fun s v h=>h) .nil
 rintro k ⟨a9,ad⟩ K2 a7;by_cases ba:i<k
 · have q4:decide ((i:Int)<(k:Int))=true:=decide_eq_true C;obtain⟨k,rfl⟩: ∃n,k=n+1:=⟨k - 1,by omega⟩
   obtain⟨y,hy⟩: ∃y,l[k]?=some y:=⟨_,gG C⟩
   have a8:=xz (l:=l) (i:=m) (j:=k) ad C hx hy;have bh:=uZ (l:=l) (i:=m) (j:=k+1) ad C;have gx:(nl l m (k+1))[k+1]?=some x:=by rw[ir ad C,if_pos rfl,hx]
   have gy:(nl l m (k+1))[k]?=some y:=by rw[ir ad C,if_neg C,if_neg C,hy]
   generalize nl l m (k+1)=c at*
   have g2:(c.set (k+1) y)[k]?=some y:=by rw[List.getElem?_set_ne C,gy]
   have o1:(0+((k+1:Nat):Int).toNat)*1=k+1:=nG rfl;have o2:(0+(((k+1:Nat):Int) - 1).toNat)*1=k:=nG C;have b1:((k+1:Nat):Int)<(l.length:Int):=C;have b2:(((k+1:Nat):Int) - 1)<(l.length:Int):=C;have p1:(0:Int)<=((k+1:Nat):Int):=C;have p2:(0:Int)<=((k+1:Nat):Int) - 1:=C;(repeat' first|intro hb hp|(refine DR.is ?_;first|apply bg;rfl;apply ay;rfl;rfl;(first|exact p1|exact p2);(first|exact b1|exact b2);(first|exact o1|exact o2)|apply bg;rfl;apply bc (es:=c.map ai) (k:=1) (i:=k+1) (f:=0);rfl;rfl;exact jB c;exact C;exact ph gx;rfl|apply bg;rfl;apply bc (es:=c.map ai) (k:=1) (i:=k) (f:=0);rfl;rfl;exact jB c;exact C;exact ph gy;rfl|apply dU (es:=c.map ai) (i:=k+1) (e:= [.sl (y.map A3.c)]) (er:=(c.set (k+1) y).map ai);rfl;rfl;rfl;rfl;rfl;rfl;exact jB c;exact C;exact(by rw[lM];omega);exact Jb|apply dU (es:=(c.set (k+1) y).map ai) (i:=k) (e:= [.sl (x.map A3.c)]) (er:=((c.set (k+1) y).set k x).map ai);rfl;rfl;rfl;rfl;rfl;rfl;exact jB (c.set (k+1) y);exact C;exact(by rw[lM,List.length_set];omega);exact Jb)|refine am ?_|refine al ?_ ?_|fail)
   rw[a8];refine a7 _ k ⟨by omega,by omega⟩ C ?_;refine Wk.mk' kK (.cons rfl (Sub.of_eq ?_) F2) B4 .nil;show aI (((k+1:Nat):Int) - 1)=aI (k:Int);congr 3;omega
 · have q4:decide ((i:Int)<(k:Int))=false:=decide_eq_false C;rw[show k=i by omega,a2];refine wz ?_;apply L.endQ0;rfl;rfl;exact Wk.mk' kK .nil B4 .nil;rfl
end Go.Proofs.Y
