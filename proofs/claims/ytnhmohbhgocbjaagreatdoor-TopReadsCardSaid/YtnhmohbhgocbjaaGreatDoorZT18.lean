/- Lemmas towards the law. Conditions: each one says its own. -/
import Derived.Test.YtnhmohbhgocbjaaGreatDoorZT15
import Derived.Test.YtnhmohbhgocbjaaGreatDoorZT16
set_option linter.all false
set_option maxHeartbeats 64000000
set_option maxRecDepth 100000
namespace Go.Proofs.Y
open Go.Abs Go.Proofs.Tryz
attribute [local irreducible] L Code.wp bodyPost Exit.then Exit.inBlock
variable [Errs]
def CP(r:Rd)(hr:RdOk r)(h1:(al r [bu,bZ]).1=false)(h2:(al r [bu,ez]).1=false)(h3:(al r [iR,bZ]).1=false)(h4:(al r [ew,jK]).1=false)(h5:(al r [fq,fp]).1=false)(h6:(al r [go]).1=false)(h7:(al r [jj]).1=true):
 CallG cA prog 43 [.ptr 1000 0] [(1000,ep r)] [(1000,ep (mH (al r [jj]).2).2)] [] (.agg ((mH (al r [jj]).2).1.cs.map .iv)):=by
 have k1:=aQ (gs:=cA) r [bu,bZ] hr dD;have k2:=aQ (gs:=cA) r [bu,ez] hr dD;have k3:=aQ (gs:=cA) r [iR,bZ] hr dD;have k4:=aQ (gs:=cA) r [ew,jK] hr dD;have k5:=aQ (gs:=cA) r [fq,fp] hr dD;have k6:=aQ (gs:=cA) r [go] hr dD;have k7:=aQ (gs:=cA) r [jj] hr dD;rw[h1,cE h1] at k1;rw[h2,cE h2] at k2;rw[h3,cE h3] at k3;rw[h4,cE h4] at k4;rw[h5,cE h5] at k5;rw[h6,cE h6] at k6;rw[h7] at k7;have o:=(aV r [jj]).ok hr;generalize (al r [jj]).2=r1 at*
 clear h1 h2 h3 h4 h5 h6 h7;unfold mH;have ko:=aQ (gs:=cA) r1 [[42]] o dD;have oo:=(CX r1).ok o;have kO:=(oq 8 (fun x=>(sB 7 [] [] .nils .nils .nils .nils (.iv x)).cs) (Mr) (fj 6) jo dD (by(repeat' (first|exact Subs.nil|refine Subs.cons fR ?_|refine Subs.cons Sub.nilsI ?_))) (fun n es=>by(repeat' (first|exact Pubs.nil|refine Pubs.cons Pub.here ?_|refine Pubs.cons Pub.same ?_))) r1 o).sws [(1001,3),(1003,1)] (args2:= [.ptr 1000 0,.fn 79 [.ptr 3 0,.ptr 1 0]]) (bx2:= [(1000,ep r1),(3,sB 7 [] [] .nils .nils .nils .nils .nils),(1,pB)]) (bx2':= [(1000,ep (aP (mf 6) r1).2),(3,sB 7 [] [] .nils .nils .nils .nils (.iv (.sl ((aP (mf 6) r1).1.map Ex.c)))),(1,pB)]) (tk2':= []) (res2:= .tup []) rfl rfl rfl rfl rfl;have hO:(al r1 [[42]]).1=false→io r1=aP (mf 6) r1:=fun h=>by unfold io;rw[if_neg (by rw[h];decide)]
 have hO1:(al r1 [[42]]).1=true→io r1=([],(al r1 [[42]]).2):=fun h=>by unfold io;rw[if_pos h]
 have hat:=cE (r:=r1) (ws:= [[42]]);generalize aP (mf 6) r1=pO at*
 generalize io r1=p2 at*
 obtain⟨out,r2⟩:=p2;dsimp only at*
 have kf:=dv (gs:=cA) r2 [fp] oo dD;have of:=(bJ r2 [fp]).ok oo;unfold kU at*
 have kF:=(oq 1 (fun x=>(sB 7 [] [] .nils .nils .nils (.iv x) (.iv (.sl (out.map Ex.c)))).cs) (Mq (.sl (out.map Ex.c))) bA (c:=Str.c) (fun _=>rfl) dD (by(repeat' (first|exact Subs.nil|refine Subs.cons fR ?_|refine Subs.cons Sub.nilsI ?_))) (fun n es=>by(repeat' (first|exact Pubs.nil|refine Pubs.cons Pub.here ?_|refine Pubs.cons Pub.same ?_))) (aL r2 [fp]) of).sws [(1001,3),(1003,1)] (args2:= [.ptr 1000 0,.fn 80 [.ptr 3 0,.ptr 1 0]]) (bx2:= [(1000,ep (aL r2 [fp])),(3,sB 7 [] [] .nils .nils .nils .nils (.iv (.sl (out.map Ex.c)))),(1,pB)]) (bx2':= [(1000,ep (aP aq (aL r2 [fp])).2),(3,sB 7 [] [] .nils .nils .nils (.iv (.sl ((aP aq (aL r2 [fp])).1.map Str.c))) (.iv (.sl (out.map Ex.c)))),(1,pB)]) (tk2':= []) (res2:= .tup []) rfl rfl rfl rfl rfl;have o3:=(ig bA (aL r2 [fp])).ok of;generalize aP aq (aL r2 [fp])=p3 at*
 generalize aL r2 [fp] =r25 at*
 obtain⟨frm,r3⟩:=p3;dsimp only at*
 have kw:=pY r3 o3;have o4:=(oa r3).ok o3;generalize di r3=p4 at*
 obtain⟨wh,r4⟩:=p4;dsimp only at*
 have k8:=aQ (gs:=cA) r4 [ff,Ac] o4 dD;have o5:=(aV r4 [ff,Ac]).ok o4;have k9:=tC (al r4 [ff,Ac]).2 o5;have o6:=(fj 6 (al r4 [ff,Ac]).2).ok o5;have k10:=aQ (gs:=cA) (mf 6 (al r4 [ff,Ac]).2).2 [xl] o6 dD;have o7:=(Hz r4).ok o4;have hat4:=cE (r:=r4) (ws:= [ff,Ac]);have hq1:(al r4 [ff,Ac]).1=true→jL r4=(([(mf 6 (al r4 [ff,Ac]).2).1],(al (mf 6 (al r4 [ff,Ac]).2).2 [xl]).1),(al (mf 6 (al r4 [ff,Ac]).2).2 [xl]).2):=fun h=>by unfold jL;rw[if_pos h]
 have hq2:(al r4 [ff,Ac]).1=false→jL r4=(([],false),r4):=fun h=>by unfold jL;rw[if_neg (by rw[h];decide)]
 generalize jL r4=p7 at*
 generalize al (mf 6 (al r4 [ff,Ac]).2).2 [xl] =pd at*
 generalize mf 6 (al r4 [ff,Ac]).2=p6 at*
 generalize al r4 [ff,Ac] =p5 at*
 obtain⟨b5,r5⟩:=p5;obtain⟨e6,r6⟩:=p6;obtain⟨bd,rd⟩:=pd;obtain⟨⟨ord,down⟩,r7⟩:=p7;dsimp only at*
 have k11:=aQ (gs:=cA) r7 [kB] o7 dD;have o8:=(aV r7 [kB]).ok o7;have k12:=qt (al r7 [kB]).2 o8;have hat7:=cE (r:=r7) (ws:= [kB]);have hl1:(al r7 [kB]).1=true→ip r7=dl (al r7 [kB]).2:=fun h=>by unfold ip;rw[if_pos h]
 have hl2:(al r7 [kB]).1=false→ip r7=(-1,r7):=fun h=>by unfold ip;rw[if_neg (by rw[h];decide)]
 generalize ip r7=p9 at*
 generalize dl (al r7 [kB]).2=pn at*
 generalize al r7 [kB] =p8 at*
 obtain⟨b8,r8⟩:=p8;obtain⟨n,rn⟩:=pn;obtain⟨n9,r9⟩:=p9;obtain⟨lO,rO⟩:=pO;generalize al r1 [[42]] =pa at*
 obtain⟨ba,ra⟩:=pa;dsimp only at*
 clear o oo of o3 o4 o5 o6 o7 o8 hr;refine iG func43 ntmps43 (fun w0 E0 hG=> ?_);cases ba<;>cases b5<;>cases b8
 · clear hO1 hq1 hl1;cases hO rfl;have e:=hat rfl;subst e;cases hq2 rfl;have e:=hat4 rfl;subst e;cases hl2 rfl;have e:=hat7 rfl;subst e;(repeat' first|intro hb hp|apply ac [];rfl;exact hG;exact kO;exact fS;exact B3;rfl;rfl;rfl;rfl|apply ac [];rfl;exact hG;exact kF;exact fS;exact wB (.cons rfl rfl (by(repeat' (first|exact Subs.nil|refine Subs.cons fR ?_|refine Subs.cons Sub.nilsI ?_))) B1);rfl;rfl;rfl;rfl|refine LW.is (s_Q ?_)|refine am ?_|refine ak ?_ ?_|fail)
   all_goals refine gM ?_ ?_
   all_goals rfl
 · clear hO1 hq1 hl2 hat7;cases hO rfl;have e:=hat rfl;subst e;cases hq2 rfl;have e:=hat4 rfl;subst e;cases hl1 rfl;(repeat' first|intro hb hp|apply ac [];rfl;exact hG;exact kO;exact fS;exact B3;rfl;rfl;rfl;rfl|apply ac [];rfl;exact hG;exact kF;exact fS;exact wB (.cons rfl rfl (by(repeat' (first|exact Subs.nil|refine Subs.cons fR ?_|refine Subs.cons Sub.nilsI ?_))) B1);rfl;rfl;rfl;rfl|refine LW.is (s_Q ?_)|refine am ?_|refine ak ?_ ?_|fail)
   all_goals refine gM ?_ ?_
   all_goals rfl
 · clear hO1 hq2 hat4 hl1;cases hO rfl;have e:=hat rfl;subst e;cases hq1 rfl;cases hl2 rfl;have e:=hat7 rfl;subst e;(repeat' first|intro hb hp|apply ac [];rfl;exact hG;exact kO;exact fS;exact B3;rfl;rfl;rfl;rfl|apply ac [];rfl;exact hG;exact kF;exact fS;exact wB (.cons rfl rfl (by(repeat' (first|exact Subs.nil|refine Subs.cons fR ?_|refine Subs.cons Sub.nilsI ?_))) B1);rfl;rfl;rfl;rfl|refine LW.is (s_Q ?_)|refine am ?_|refine ak ?_ ?_|fail)
   all_goals refine gM ?_ ?_
   all_goals(first|rfl|(simp only[Stm.cs,ia,List.map_cons,List.map_nil,aN];rfl))
 · clear hO1 hq2 hat4 hl2 hat7;cases hO rfl;have e:=hat rfl;subst e;cases hq1 rfl;cases hl1 rfl;(repeat' first|intro hb hp|apply ac [];rfl;exact hG;exact kO;exact fS;exact B3;rfl;rfl;rfl;rfl|apply ac [];rfl;exact hG;exact kF;exact fS;exact wB (.cons rfl rfl (by(repeat' (first|exact Subs.nil|refine Subs.cons fR ?_|refine Subs.cons Sub.nilsI ?_))) B1);rfl;rfl;rfl;rfl|refine LW.is (s_Q ?_)|refine am ?_|refine ak ?_ ?_|fail)
   all_goals refine gM ?_ ?_
   all_goals(first|rfl|(simp only[Stm.cs,ia,List.map_cons,List.map_nil,aN];rfl))
 · clear hO hat hq1 hl1;cases hO1 rfl;cases hq2 rfl;have e:=hat4 rfl;subst e;cases hl2 rfl;have e:=hat7 rfl;subst e;(repeat' first|intro hb hp|apply ac [];rfl;exact hG;exact kF;exact fS;exact wB (.cons rfl rfl (by(repeat' (first|exact Subs.nil|refine Subs.cons fR ?_|refine Subs.cons Sub.nilsI ?_))) B1);rfl;rfl;rfl;rfl|refine LW.is (s_Q ?_)|refine am ?_|refine ak ?_ ?_|fail)
   all_goals refine gM ?_ ?_
   all_goals rfl
 · clear hO hat hq1 hl2 hat7;cases hO1 rfl;cases hq2 rfl;have e:=hat4 rfl;subst e;cases hl1 rfl;(repeat' first|intro hb hp|apply ac [];rfl;exact hG;exact kF;exact fS;exact wB (.cons rfl rfl (by(repeat' (first|exact Subs.nil|refine Subs.cons fR ?_|refine Subs.cons Sub.nilsI ?_))) B1);rfl;rfl;rfl;rfl|refine LW.is (s_Q ?_)|refine am ?_|refine ak ?_ ?_|fail)
   all_goals refine gM ?_ ?_
   all_goals rfl
 · clear hO hat hq2 hat4 hl1;cases hO1 rfl;cases hq1 rfl;cases hl2 rfl;have e:=hat7 rfl;subst e;(repeat' first|intro hb hp|apply ac [];rfl;exact hG;exact kF;exact fS;exact wB (.cons rfl rfl (by(repeat' (first|exact Subs.nil|refine Subs.cons fR ?_|refine Subs.cons Sub.nilsI ?_))) B1);rfl;rfl;rfl;rfl|refine LW.is (s_Q ?_)|refine am ?_|refine ak ?_ ?_|fail)
   all_goals refine gM ?_ ?_
   all_goals(first|rfl|(simp only[Stm.cs,ia,List.map_cons,List.map_nil,aN];rfl))
 · clear hO hat hq2 hat4 hl2 hat7;cases hO1 rfl;cases hq1 rfl;cases hl1 rfl;(repeat' first|intro hb hp|apply ac [];rfl;exact hG;exact kF;exact fS;exact wB (.cons rfl rfl (by(repeat' (first|exact Subs.nil|refine Subs.cons fR ?_|refine Subs.cons Sub.nilsI ?_))) B1);rfl;rfl;rfl;rfl|refine LW.is (s_Q ?_)|refine am ?_|refine ak ?_ ?_|fail)
   all_goals refine gM ?_ ?_
   all_goals(first|rfl|(simp only[Stm.cs,ia,List.map_cons,List.map_nil,aN];rfl))
end Go.Proofs.Y
namespace Go.Proofs.Y
open Go.Abs Go.Proofs.Tryz
attribute [local irreducible] L Code.wp bodyPost Exit.then Exit.inBlock
def LQ{c:UInt8}{r:Str}{n:Nat}(h:fh c r=some n)(hl:r.length<1000000):TokOk ((c::r).take n):=by
 have hn:n≤r.length+1∧(c=39→2≤n)∧(c=45→n=1):=by
  have e1:iQ 39=false:=by decide
  have e2:iQ 45=false:=by decide
  have e3:lh 39=false:=by decide
  have e4:lh 45=false:=by decide
  have h1:=(List.takeWhile_prefix iQ (l:=r)).length_le;have h2:=(List.takeWhile_prefix lh (l:=r)).length_le;unfold fh at h;split at h
  · rename_i hc;cases h;exact⟨by omega,fun e=>(by subst e;rw[e1] at hc;cases hc),fun e=>(by subst e;rw[e2] at hc;cases hc)⟩
  split at h
  · rename_i hc;cases h;exact⟨by omega,fun e=>(by subst e;rw[e3] at hc;cases hc),fun e=>(by subst e;rw[e4] at hc;cases hc)⟩
  split at h
  · rename_i hc;subst hc;split at h
    · cases h
    · rename_i h0;cases h;have:=Ds r 39;exact⟨by omega,fun _=>by omega,fun e=>by cases e⟩
  · rename_i hc;split at h
    · cases h;exact⟨by omega,fun e=>absurd e hc,fun _=>rfl⟩
    · cases h
 have h1:=yW h;obtain⟨m,rfl⟩: ∃m,n=m+1:=⟨n - 1,by omega⟩
 refine⟨by simp[lT];omega,fun e=> ?_,fun e=> ?_⟩
 · have:=hn.2.1 (by simpa using e);simp[lT];omega
 · have:=hn.2.2 (by simpa using e);simp[lT];omega
def uD: ∀(k:Nat) (s:Str),s.length≤k→s.length≤1000000→ ∀l,cW s=some l→l.length≤s.length∧ ∀t∈l,TokOk t
 |0,s,hk,_,l,h=>by
  have:s= []:=List.length_eq_zero_iff.1 C;subst this;rw[rU] at h;cases h;exact⟨Nat.le_refl _,fun t ht=>by cases ht⟩
 |k+1,[],_,_,l,h=>by
  rw[rU] at h;cases h;exact⟨Nat.le_refl _,fun t ht=>by cases ht⟩
 |k+1,c::r,hk,hm,l,h=>by
  simp only[lC] at hk hm;by_cases hb:c=32∨c=10
  · rw[tg hb] at h;obtain⟨h1,h2⟩:=uD k r C C l h;exact⟨by simp;omega,h2⟩
  · cases ht:fh c r with
    |none=>rw[uE hb ht] at h;cases h
    |some n=>
     rw[uC hb ht,Option.map_eq_some_iff] at h;obtain⟨l',hl',rfl⟩:=h;have hp:=yW ht;have hd:((c::r).drop n).length≤r.length:=by simp;omega
     obtain⟨h1,h2⟩:=uD k _ C C l' hl';refine⟨by simp only[lC];omega,fun t hm2=> ?_⟩;rcases List.mem_cons.1 hm2 with rfl|h3
     · exact LQ ht C
     · exact h2 t h3
def Lz(s:Str)(h:s.length≤1000000):RdOk (nM s)∧(nM s).l.length≤s.length:=by
 unfold nM;cases hs:cW s with
 |none=>exact⟨⟨by simp,fun t ht=>by cases ht⟩,by simp⟩
 |some l=>
  obtain⟨h1,h2⟩:=uD _ s nR h l hs;exact⟨⟨by dsimp only;omega,h2⟩,h1⟩
variable [Errs]
def Ht(r:Rd)(hr:RdOk r):CallG cA prog 43 [.ptr 1000 0] [(1000,ep r)] [(1000,ep (fi r).2)] [] (.agg ((fi r).1.cs.map .iv)):=by
 unfold fi;cases h1:(al r [bu,bZ]).1 with
 |true=>rw[if_pos U];exact CS r hr h1
 |false=>
 rw[if_neg dD];have k1:=aQ (gs:=cA) r [bu,bZ] hr dD;rw[h1,cE h1] at k1;cases h2:(al r [bu,ez]).1 with
 |true=>rw[if_pos U];exact Hu r hr h1 h2
 |false=>
 rw[if_neg dD];have k2:=aQ (gs:=cA) r [bu,ez] hr dD;rw[h2,cE h2] at k2;cases h3:(al r [iR,bZ]).1 with
 |true=>rw[if_pos U];exact Hv r hr h1 h2 h3
 |false=>
 rw[if_neg dD];have k3:=aQ (gs:=cA) r [iR,bZ] hr dD;rw[h3,cE h3] at k3;cases h4:(al r [ew,jK]).1 with
 |true=>rw[if_pos U];exact CQ r hr h1 h2 h3 h4
 |false=>
 rw[if_neg dD];have k4:=aQ (gs:=cA) r [ew,jK] hr dD;rw[h4,cE h4] at k4;cases h5:(al r [fq,fp]).1 with
 |true=>rw[if_pos U];exact CR r hr h1 h2 h3 h4 h5
 |false=>
 rw[if_neg dD];have k5:=aQ (gs:=cA) r [fq,fp] hr dD;rw[h5,cE h5] at k5;cases h6:(al r [go]).1 with
 |true=>rw[if_pos U];exact CO r hr h1 h2 h3 h4 h5 h6
 |false=>
 rw[if_neg dD];have k6:=aQ (gs:=cA) r [go] hr dD;rw[h6,cE h6] at k6;cases h7:(al r [jj]).1 with
 |true=>rw[if_pos U];exact CP r hr h1 h2 h3 h4 h5 h6 h7
 |false=>
 rw[if_neg dD];have k7:=aQ (gs:=cA) r [jj] hr dD;rw[h7,cE h7] at k7;clear h1 h2 h3 h4 h5 h6 h7;refine iG func43 ntmps43 (fun w0 E0 hG=> ?_);(repeat' first|intro hb hp|refine LW.is (s_Q ?_)|refine am ?_|refine ak ?_ ?_|fail)
 all_goals refine gM ?_ ?_
 all_goals rfl
def MJ{r:Rd}{ws:List Str}(h:r.bad=true):(al r ws).2.bad=true:=by
 unfold al;repeat' split
 all_goals exact h
def Hl{r:Rd}{ws:List Str}(h:r.bad=true):(aL r ws).bad=true:=by
 unfold aL;split
 · exact MJ h
 · rfl
def FA(r:Rd):(fi r).2.bad=true∨(fi r).2.l.length<r.l.length:=by
 unfold fi;split
 · rename_i h;exact .inr (Nat.lt_of_le_of_lt (xz _).le (lX h dD))
 split
 · rename_i h;exact .inr (Nat.lt_of_le_of_lt (EC _).le (lX h dD))
 split
 · rename_i h;exact .inr (Nat.lt_of_le_of_lt (bA _).le (lX h dD))
 split
 · rename_i h;exact .inr (Nat.lt_of_le_of_lt (xx _).le (lX h dD))
 split
 · rename_i h;exact .inr (Nat.lt_of_le_of_lt (xy _).le (lX h dD))
 split
 · rename_i h;exact .inr (Nat.lt_of_le_of_lt (xu _).le (lX h dD))
 split
 · rename_i h;exact .inr (Nat.lt_of_le_of_lt (xw _).le (lX h dD))
 · exact .inl U
def atQ{f:FuncId}{args args2:List AV}{q:Nat}{b b':Box}{res:AV}(h:CallG cA prog f args [(1000,b)] [(1000,b')] [] res)(h1:AV.rens (Abs.sws [(1000,q)]) args=args2)(hm:AV.mentsIn [] b.cs=true)(hm':AV.mentsIn [] b'.cs=true)(hr:AV.mentIn [] res=true):
 CallG cA prog f args2 [(q,b)] [(q,b')] [] res:=h.at1 h1 hm hm' hr
def KY(s:Stm):AV.mentIn [] (.agg (s.cs.map .iv))=true:=by rw[AV.mentIn];exact AV.mentsIn_iv _ _
def uM(s:Str):CallG cA prog 17 [aS s] [] [] [] (.tup [.iv (.sl ((cj s).1.map Stm.cs)),.iv (I (cj s).2)]):=by
 unfold cj;refine iG func17 ntmps17 (fun w0 E0 hG=> ?_);by_cases hl:1500<s.length
 · rw[if_pos hl];have q:decide ((1500:Int)<(s.length:Int))=true:=decide_eq_true C;refine wz ?_;all_goals refine bn ?_
   all_goals rfl
 rw[if_neg hl];have q:decide ((1500:Int)<(s.length:Int))=false:=decide_eq_false C;have ks:=(FD s C).toG (gs:=cA);obtain⟨hr,hn⟩:=Lz s C;have hn:(nM s).l.length≤1500:=C;have e1:(nM s).l=(ma s).1:=by unfold nM ma;cases cW s<;>rfl
 have e2:(nM s).bad= !(ma s).2:=by unfold nM ma;cases cW s<;>rfl
 generalize hW:fL ((nM s).l.length+1) [] (nM s)=W;generalize nM s=r at*
 generalize ma s=p at*
 obtain⟨lw,ok⟩:=p;obtain⟨rl,bad⟩:=r;dsimp only at e1 e2;subst e1 e2;refine wz ?_;refine L.adopt 7 (s:=7) (t:=80) (k:=20) U U U ?_;refine ae (ι:=Nat×List Stm×Rd) (fun i=>⟨[(6,.ptr 20 0),(7,.row 7 (i.2.1.map Stm.cs))],[(20,ep i.2.2)],[(7,⟨80,20⟩)]⟩) (fun i=>i.1) (fun i=>fL i.1 i.2.1 i.2.2=W∧RdOk i.2.2∧((i.2.2.bad=true∧0<i.1∧i.2.1.length≤1501)∨(i.2.2.l.length<i.1∧i.2.1.length+i.2.2.l.length≤1500))) (i0:=(rl.length+1,[],⟨rl, !ok⟩)) ?_ ⟨hW,hr,.inr ⟨Nat.lt_succ_self _,by simpa using hn⟩⟩ ?_
 · exact df
 clear hW hr hn ks;rintro ⟨n,l,r⟩ ⟨hI,hr,hn⟩ K hK;dsimp only at hI hn hr;cases n with
 |zero=>omega
 |succ n=>
 unfold fL at hI;by_cases hz:r.l= [] ∨r.bad=true
 · rw[if_pos hz] at hI;subst hI;dsimp only;have hll:l.length≤1501:=C;clear hn hr hK;cases h0:r.l with
   |nil=>
    have q0:decide ((0:Int)<(((r.l).map Str.c).length:Int))=false:=by rw[h0];rfl
    cases hb:r.bad with
    |true=>
     rw[if_pos U];refine wz ?_;all_goals refine bn ?_
     all_goals rfl
    |false=>
     rw[if_neg dD];by_cases h6:6<l.length
     · rw[if_pos h6];have q6:decide ((6:Int)<((l.map Stm.cs).length:Int))=true:=decide_eq_true (by rw[lM];omega);refine wz ?_;all_goals refine bn ?_
       all_goals rfl
     · rw[if_neg h6];have q6:decide ((6:Int)<((l.map Stm.cs).length:Int))=false:=decide_eq_false (by rw[lM];omega);refine wz ?_;all_goals refine bn ?_
       all_goals rfl
   |cons x xs=>
    have q0:decide ((0:Int)<(((r.l).map Str.c).length:Int))=true:=by rw[h0];exact decide_eq_true sP
    have hb:r.bad=true:=by rcases hz with h|h;rw[h0] at h;cases h;exact h
    rw[if_pos hb];have q2:(!r.bad)=false:=by rw[hb];rfl
    refine wz ?_;all_goals refine bn ?_
    all_goals rfl
 · rw[if_neg hz] at hI;have hz1:r.l≠ []:=fun e=>hz (.inl e)
   have hb:r.bad=false:=by cases h:r.bad with|true=>exact absurd (.inr h) hz|false=>rfl
   have q1:decide ((0:Int)<((r.l.map Str.c).length:Int))=true:=decide_eq_true (by rw[lM];have:=gU hz1;omega);have q2:(!r.bad)=true:=by rw[hb];rfl
   have k1:=atQ (q:=20) (Ht r hr) U U U (KY _);have o1:=(zc r).ok hr;have k2:=atQ (q:=20) (dv (gs:=cA) (fi r).2 [[59]] o1 dD) U U U U;have o2:=(bJ (fi r).2 [[59]]).ok o1;have hle1:=(zc r).le;have he:=FA r;have hle2:=(bJ (fi r).2 [[59]]).le;have htb:=Hl (r:=(fi r).2) (ws:= [[59]]);have hpos:=gU hz1;generalize aL (fi r).2 [[59]] =r2 at*
   generalize fi r=p at*
   obtain⟨x,r1⟩:=p;dsimp only at*
   have hn':r.l.length<n+1∧l.length+r.l.length≤1500:=by
    rcases hn with h|h
    · rw[hb] at h;cases h.1
    · exact h
   have hll:l.length≤1500:=C;(repeat' first|intro hb hp|(refine LW.is ?_;first|(apply kJ (q:=20) (ha:=rfl);(case hb=>exact rfl);(case hc=>assumption);(case hG=>assumption);rfl;rfl;rfl;first|rfl|exact KY _)|apply bC;rfl;rfl;rfl;rfl;exact dU (f:=Stm.cs) (k:=20) (fun _=>rfl) l;exact cK U;(rw[lM,fC];simp;omega);(rw[lM];simp;omega);rfl;rfl)|(refine DR.is ?_;first|(apply Ji (q:=20) (ha:=rfl);(case hb=>exact rfl);(case hc=>assumption);(case hG=>assumption);rfl;rfl;rfl;first|rfl|exact KY _))|refine am ?_|refine ak ?_ ?_|fail)
   refine L.only [7,6] ?_;refine L.retok 7 38 7 U U U U ?_;refine hK _ (n,l++ [x],r2) ⟨hI,o2,?_⟩ (Nat.lt_succ_self _) (Wk.mk' kK (wF (.cons U (Sub.of_eq (congrArg (AV.row 7) (by rw[pA];rfl))) .nil)) B1 (.cons U .nil));dsimp only;rcases he with h|h
   · exact .inl ⟨htb h,by omega,by simp;omega⟩
   · exact .inr ⟨by omega,by simp;omega⟩
end Go.Proofs.Y
namespace Go.Proofs.Y
open Go.Abs Go.Proofs.Tryz
attribute [local irreducible] L Code.wp bodyPost Exit.then Exit.inBlock
def br(row:List Val):Ex→Ex
 | .mk op v s name n l=>if op=2∧0≤n∧n<(row.length:Int) then .mk 1 (row.getD n.toNat af) [] [] 0 [] else .mk op v s name n (l.attach.map fun x=>br row x.1)
 decreasing_by
  have:=List.sizeOf_lt_of_mem x.2;simp;omega
def mP(row:List Val)(op:Int)(v:Val)(s name:Str)(n:Int)(l:List Ex):
 br row (.mk op v s name n l)=if op=2∧0≤n∧n<(row.length:Int) then .mk 1 (row.getD n.toNat af) [] [] 0 [] else .mk op v s name n (l.map (br row)):=by
 rw[br];simp
def In(row:List Val): ∀e:Ex,e.Ok→(br row e).Ok
 | .mk op v s name n l,h=>by
   rw[mP];cases h with
   |mk hl h=>
    split
    · exact .mk sP sP
    · refine .mk (by rw[lM];exact hl) (fun x hx=> ?_);obtain⟨y,hy,rfl⟩:=mM hx;exact In row y (h y hy)
def ye(row:List Val): ∀(e:Ex) (hok:e.Ok),CallA prog 126 [.agg (e.cs.map .iv),.iv (.sl (row.map Val.c))] [] [] [] (.agg ((br row e).cs.map .iv))
 | .mk op v s name n l,hok=>by
   have ih: ∀x∈l,CallA prog 126 [.agg (x.cs.map .iv),.iv (.sl (row.map Val.c))] [] [] [] (.agg ((br row x).cs.map .iv)):=fun x hx=>ye row x (by cases hok with|mk _ h=>exact h x hx)
   have hl:l.length*104≤140737488355328:=by cases hok with|mk hl _=>exact hl
   have hc:(Ex.mk op v s name n l).cs= [I op,I v.k,I v.n,S v.s,S s,S name,I n,.sl (l.map Ex.c)]:=rfl;rw[mP,hc];clear hc hok;refine iA func126 ntmps126 (fun w0 E0=> ?_);by_cases hk:op=2∧0≤n∧n<(row.length:Int)
   · rw[if_pos hk];obtain⟨rfl,h0,h1⟩:=hk;have q1:((2:Int)==2)=true:=rfl;have q2:decide (0≤n)=true:=decide_eq_true h0;have q3:decide (n<((row.map Val.c).length:Int))=true:=decide_eq_true (by rw[lM];exact h1);have g1:(row.map Val.c)[n.toNat]?=some [I (row.getD n.toNat af).k,I (row.getD n.toNat af).n,S (row.getD n.toNat af).s]:=by rw[gP,cV af (show n.toNat<row.length by omega)];rfl
     generalize row.getD n.toNat af=u at*
     clear ih;refine wz ?_;all_goals refine bn ?_
     all_goals rfl
   rw[if_neg hk];by_cases h2:op=2
   · subst h2;have q1:((2:Int)==2)=true:=rfl;by_cases h0:0≤n
     · have q2:decide (0≤n)=true:=decide_eq_true h0;have q3:decide (n<((row.map Val.c).length:Int))=false:=decide_eq_false (by rw[lM];exact fun h=>hk ⟨rfl,h0,h⟩);clear hk;refine wz ?_;refine L.adopt 5 (s:=5) (t:=78) (k:=8) U U U ?_;refine ae (ι:=Nat) (fun i=>⟨[(32,aI (i:Int)),(31,aI ((l.map Ex.c).length:Int)),(30,.iv (.sl (l.map Ex.c))),(5,.row 5 ((l.take i).map fun x=>(br row x).c)),(1,.iv (.sl (row.map Val.c))),(2,.ptr 2 0),(4,.ptr 4 0)],
        [(2,⟨78,.l [.iv (I (2)),.iv (I v.k),.iv (I v.n),.iv (S v.s),.iv (S s),.iv (S name),.iv (I n),.iv (.sl (l.map Ex.c))]⟩),(4,⟨78,.l [.iv (I 0),.iv (I 0),.iv (I 0),.iv (S []),.iv (S []),.iv (S []),.iv (I 0),.nils]⟩)],[(5,⟨78,8⟩)]⟩) (fun i=>l.length - i) (fun i=>True) (i0:=0) ?_ trivial ?_
       · exact df
       intro i _ K hK;cases hx:l[i]? with
       |some x=>
        have hlt:=eZ (l:=l.map Ex.c) (cq (f:=Ex.c) hx);have hlt':=eP hx;have ihx:=ih x (gE hx);have g1:(l.map Ex.c)[((i:Nat):Int).toNat]?=some [I x.op,I x.v.k,I x.v.n,S x.v.s,S x.s,S x.name,I x.n,.sl (x.l.map Ex.c)]:=by rw[iN,gP,hx];exact congrArg some (aN x)
        have n1:((l.take (i+1)).map fun x=>(br row x).c)=((l.take i).map fun x=>(br row x).c)++ [(br row x).cs]:=by rw[dg hx,pA];exact congrArg _ (by simp[aN])
        have l1:((l.take i).map fun x=>(br row x).c).length=i:=by simp;omega
        have k1: ∀e∈((l.take i).map fun x=>(br row x).c),e.length=8:=fun e he=>by obtain⟨y,_,rfl⟩:=mM he;rw[aN];rfl
        generalize br row x=r at*
        generalize ((l.take i).map fun x=>(br row x).c)=es at*
        clear ih;(repeat' first|intro hb hp|(refine LW.is ?_;first|refine bC U U U U k1 (by first|exact len_chunks U|exact bz U bK) (by simp[maxLen,ah,l1];omega) (by simp[ah,l1];omega) U U ?_)|refine am ?_|refine ak ?_ ?_|fail)
        refine L.onlyS [32,31,30,5,1,2,4] [2,4] U ?_;refine L.retok 5 41 5 U U U U ?_;refine hK _ (i+1) trivial C (Wk.mk' kK (wF (wF (wF (.cons U (Sub.of_eq (congrArg (AV.row 5) n1.symm)) F3)))) B2 (.cons U .nil))
       |none=>
        have hlt:=fa (l:=l.map Ex.c) (bf hx);have hN:l.take i=l:=tL (gO hx);rw[hN];have hm:(l.map fun x=>(br row x).c)=(l.map (br row)).map Ex.c:=by rw[List.map_map];rfl
        rw[hm];generalize l.map (br row)=es;clear ih hK;refine wz ?_;all_goals refine bn ?_
        all_goals rfl
     · have q2:decide (0≤n)=false:=decide_eq_false h0;clear hk;refine wz ?_;refine L.adopt 5 (s:=5) (t:=78) (k:=8) U U U ?_;refine ae (ι:=Nat) (fun i=>⟨[(32,aI (i:Int)),(31,aI ((l.map Ex.c).length:Int)),(30,.iv (.sl (l.map Ex.c))),(5,.row 5 ((l.take i).map fun x=>(br row x).c)),(1,.iv (.sl (row.map Val.c))),(2,.ptr 2 0),(4,.ptr 4 0)],
        [(2,⟨78,.l [.iv (I (2)),.iv (I v.k),.iv (I v.n),.iv (S v.s),.iv (S s),.iv (S name),.iv (I n),.iv (.sl (l.map Ex.c))]⟩),(4,⟨78,.l [.iv (I 0),.iv (I 0),.iv (I 0),.iv (S []),.iv (S []),.iv (S []),.iv (I 0),.nils]⟩)],[(5,⟨78,8⟩)]⟩) (fun i=>l.length - i) (fun i=>True) (i0:=0) ?_ trivial ?_
       · exact df
       intro i _ K hK;cases hx:l[i]? with
       |some x=>
        have hlt:=eZ (l:=l.map Ex.c) (cq (f:=Ex.c) hx);have hlt':=eP hx;have ihx:=ih x (gE hx);have g1:(l.map Ex.c)[((i:Nat):Int).toNat]?=some [I x.op,I x.v.k,I x.v.n,S x.v.s,S x.s,S x.name,I x.n,.sl (x.l.map Ex.c)]:=by rw[iN,gP,hx];exact congrArg some (aN x)
        have n1:((l.take (i+1)).map fun x=>(br row x).c)=((l.take i).map fun x=>(br row x).c)++ [(br row x).cs]:=by rw[dg hx,pA];exact congrArg _ (by simp[aN])
        have l1:((l.take i).map fun x=>(br row x).c).length=i:=by simp;omega
        have k1: ∀e∈((l.take i).map fun x=>(br row x).c),e.length=8:=fun e he=>by obtain⟨y,_,rfl⟩:=mM he;rw[aN];rfl
        generalize br row x=r at*
        generalize ((l.take i).map fun x=>(br row x).c)=es at*
        clear ih;(repeat' first|intro hb hp|(refine LW.is ?_;first|refine bC U U U U k1 (by first|exact len_chunks U|exact bz U bK) (by simp[maxLen,ah,l1];omega) (by simp[ah,l1];omega) U U ?_)|refine am ?_|refine ak ?_ ?_|fail)
        refine L.onlyS [32,31,30,5,1,2,4] [2,4] U ?_;refine L.retok 5 41 5 U U U U ?_;refine hK _ (i+1) trivial C (Wk.mk' kK (wF (wF (wF (.cons U (Sub.of_eq (congrArg (AV.row 5) n1.symm)) F3)))) B2 (.cons U .nil))
       |none=>
        have hlt:=fa (l:=l.map Ex.c) (bf hx);have hN:l.take i=l:=tL (gO hx);rw[hN];have hm:(l.map fun x=>(br row x).c)=(l.map (br row)).map Ex.c:=by rw[List.map_map];rfl
        rw[hm];generalize l.map (br row)=es;clear ih hK;refine wz ?_;all_goals refine bn ?_
        all_goals rfl
   · have q1:(op==2)=false:=by simp[h2]
     clear hk;refine wz ?_;refine L.adopt 5 (s:=5) (t:=78) (k:=8) U U U ?_;refine ae (ι:=Nat) (fun i=>⟨[(32,aI (i:Int)),(31,aI ((l.map Ex.c).length:Int)),(30,.iv (.sl (l.map Ex.c))),(5,.row 5 ((l.take i).map fun x=>(br row x).c)),(1,.iv (.sl (row.map Val.c))),(2,.ptr 2 0),(4,.ptr 4 0)],
      [(2,⟨78,.l [.iv (I (op)),.iv (I v.k),.iv (I v.n),.iv (S v.s),.iv (S s),.iv (S name),.iv (I n),.iv (.sl (l.map Ex.c))]⟩),(4,⟨78,.l [.iv (I 0),.iv (I 0),.iv (I 0),.iv (S []),.iv (S []),.iv (S []),.iv (I 0),.nils]⟩)],[(5,⟨78,8⟩)]⟩) (fun i=>l.length - i) (fun i=>True) (i0:=0) ?_ trivial ?_
     · exact df
     intro i _ K hK;cases hx:l[i]? with
     |some x=>
      have hlt:=eZ (l:=l.map Ex.c) (cq (f:=Ex.c) hx);have hlt':=eP hx;have ihx:=ih x (gE hx);have g1:(l.map Ex.c)[((i:Nat):Int).toNat]?=some [I x.op,I x.v.k,I x.v.n,S x.v.s,S x.s,S x.name,I x.n,.sl (x.l.map Ex.c)]:=by rw[iN,gP,hx];exact congrArg some (aN x)
      have n1:((l.take (i+1)).map fun x=>(br row x).c)=((l.take i).map fun x=>(br row x).c)++ [(br row x).cs]:=by rw[dg hx,pA];exact congrArg _ (by simp[aN])
      have l1:((l.take i).map fun x=>(br row x).c).length=i:=by simp;omega
      have k1: ∀e∈((l.take i).map fun x=>(br row x).c),e.length=8:=fun e he=>by obtain⟨y,_,rfl⟩:=mM he;rw[aN];rfl
      generalize br row x=r at*
      generalize ((l.take i).map fun x=>(br row x).c)=es at*
      clear ih;(repeat' first|intro hb hp|(refine LW.is ?_;first|refine bC U U U U k1 (by first|exact len_chunks U|exact bz U bK) (by simp[maxLen,ah,l1];omega) (by simp[ah,l1];omega) U U ?_)|refine am ?_|refine ak ?_ ?_|fail)
      refine L.onlyS [32,31,30,5,1,2,4] [2,4] U ?_;refine L.retok 5 41 5 U U U U ?_;refine hK _ (i+1) trivial C (Wk.mk' kK (wF (wF (wF (.cons U (Sub.of_eq (congrArg (AV.row 5) n1.symm)) F3)))) B2 (.cons U .nil))
     |none=>
      have hlt:=fa (l:=l.map Ex.c) (bf hx);have hN:l.take i=l:=tL (gO hx);rw[hN];have hm:(l.map fun x=>(br row x).c)=(l.map (br row)).map Ex.c:=by rw[List.map_map];rfl
      rw[hm];generalize l.map (br row)=es;clear ih hK;refine wz ?_;all_goals refine bn ?_
      all_goals rfl
abbrev fD:FuncId:=129
abbrev nP(s:Stm):List (Nat×Box):= [(1012,⟨80,.l (s.cs.map .iv)⟩)]
def sV{s:Stm}:(nP s).all (fun p=>AV.mentsIn ([] ++keys (nP s)) p.2.cs)=true:=by simp[keys,Stm.cs,AV.mentsIn,AV.mentIn]
def oh{s:Stm}{l:List (List Val)}{b:Box}(h:l≠ []):dW [] ((1000,bv l)::nP s) ((1000,b)::nP s)=true:=by
 have:=lG h;cases hq:(l.map ai).flatten with
 |nil=>exact absurd hq this
 |cons x xs=>simp only[dW,keys,bv,hq];rfl
def uU{L:List Nat}{s:Stm}{l:List (List Val)}:((1000,bv l)::nP s).all (fun p=>AV.mentsIn L p.2.cs)=true:=by
 have:=cZ (L:=L) (l:=l) (id:=1000);simp only[List.all_cons,List.all_nil,Bool.and_true] at this;simp only[List.all_cons,List.all_nil,Bool.and_true,this,Bool.true_and];simp[Stm.cs,AV.mentsIn,AV.mentIn]
def Cm{gs:au}(s:Stm)(hw:s.wh.Ok)(x:List Val):CallG gs prog fD ([.iv (.sl (x.map Val.c))] ++ [.ptr 1012 0]) (nP s) (nP s) [] (aB (!bM s.wh x)):=by
 have kh:=(yk s.wh hw x).toG (gs:=gs);refine iG func129 ntmps129 (fun w0 E0 hG=> ?_);(repeat' first|intro hb hp|refine dM (ha:=rfl) U hG kh U ?_|refine am ?_|refine ak ?_ ?_|fail)
 all_goals exact L.ends U U sE wK
def zC{gs:au}{s:Stm}[CallTy prog fD](p:List Val→Bool)(l:List (List Val))(hne:l≠ [])(hl:l.length≤1000000)
 (hc: ∀y∈l,CallG gs prog fD ([.iv (.sl (y.map Val.c))] ++ [.ptr 1012 0]) (nP s) (nP s) [] (aB (p y))):
 CallG gs prog 176 [.bsh 1000 0 l.length 1,.fn fD [.ptr 1012 0]] ((1000,bv l)::nP s) ((1000,bv l)::nP s) [] (aI (iB p l)):=by
 refine iG func176 ntmps176 (fun w0 E0 hG=> ?_);refine wz ?_;refine ae (ι:=Nat) (fun i=>⟨[(8,aI (i:Int)),(7,aI (l.length:Int)),(0,.bsh 1000 0 l.length 1),(1,.fn fD [.ptr 1012 0])],(1000,bv l)::nP s,[]⟩) (fun i=>l.length - i) (fun i=> ∀y∈l.take i,p y=false) (i0:=0) ?_ sP ?_
 · exact Wk.mkX ay F4 (fun s v h=>h) .nil
 intro i hI K hK;cases hx:l[i]? with
 |none=>
  have hlt:decide ((i:Int)<(l.length:Int))=false:=by have:=gO hx;exact decide_eq_false C
  rw[jG (fK hI hx)];refine wz ?_;apply L.ends;rfl;rfl;exact fR;exact Wk.mk' kK .nil B2 .nil
 |some y=>
  have hlt':=(gS hx).1;have hlt:decide ((i:Int)<(l.length:Int))=true:=decide_eq_true C;have hcz:=hc y (gE hx);have p1:(0:Int)≤(i:Int):=C;have b1:(i:Int)<(l.length:Int):=C;have o1:(0+((i:Nat):Int).toNat)*1=i:=nN U;cases hq:p y with
  |true=>
   rw[hq] at hcz;rw[gC hI hx hq];(repeat' first|intro hb hp|(refine LW.is ?_;first|refine ag U (az U U p1 b1 o1) ?_|refine ag U (aZ (es:=l.map ai) (k:=1) (i:=i) (f:=0) U U (jD l) C (pr hx) U) ?_|refine ja (f:=fD) U hG U hcz U (.cons U .nil) U sV U ?_)|refine am ?_|refine ak ?_ ?_|fail)
   all_goals exact L.ends U U fR wK
  |false=>
   rw[hq] at hcz;(repeat' first|intro hb hp|(refine LW.is ?_;first|refine ag U (az U U p1 b1 o1) ?_|refine ag U (aZ (es:=l.map ai) (k:=1) (i:=i) (f:=0) U U (jD l) C (pr hx) U) ?_|refine ja (f:=fD) U hG U hcz U (.cons U .nil) U sV U ?_)|refine am ?_|refine ak ?_ ?_|fail)
   refine hK _ (i+1) (fun z hz=>by
    rw[dg hx] at hz;rcases mA hz with hz|hz
    · exact hI z hz
    · rw[List.mem_singleton.1 hz];exact hq) C ?_
   exact Wk.mk' kK (wG F3) B2 .nil
def IX{gs:au}{s:Stm}[CallTy prog fD](p:List Val→Bool)(l:List (List Val))(hne:l≠ [])(hl:l.length≤1000000)
 (hc: ∀y∈l,CallG gs prog fD ([.iv (.sl (y.map Val.c))] ++ [.ptr 1012 0]) (nP s) (nP s) [] (aB (p y))) (hnk:l.filter (fun x=> !p x)≠ [])
 (i0:Nat) (x0:List Val) (hbef: ∀y∈l.take i0,p y=false) (hx0:l[i0]?=some x0) (hp0:p x0=true):
 CallG gs prog 128 [.bsh 1000 0 l.length 1,.fn fD [.ptr 1012 0]] ((1000,bv l)::nP s) ((1002,bv (l.filter (fun x=> !p x)))::(1000,⟨35,.l []⟩)::nP s) [] (.bsh 1002 0 (l.filter (fun x=> !p x)).length 1):=by
 refine iG func128 ntmps128 (fun w0 E0 hG=> ?_);have hk:=jD l;have hfl:(l.map ai).flatten.length=l.length*1:=by rw[ao _ hk,lM]
 have hfne:(l.map ai).flatten≠ []:=lG hne;have kx:=zC (gs:=gs) (s:=s) p l hne hl hc;rw[gC hbef hx0 hp0] at kx;have hi0:=(gS hx0).1;have he:((i0:Int)== -1)=false:=beq_eq_false_iff_ne.2 C;(repeat' first|intro hb hp|apply ac [];rfl;exact hG;exact kx;exact fS;exact B2;rfl;exact oh hne;exact uU;rfl|refine am ?_|refine ak ?_ ?_|fail)
 refine L.openRow 0 (id:=1000) (n:=l.length) (k:=1) U U (.inl hfne) C (fun cap hc1 hc2=> ?_);obtain⟨mm,hmm⟩: ∃mm,mm=cap*1 - (l.map ai).flatten.length:=⟨_,rfl⟩
 rw[←hmm];rw[hfl] at hmm;refine ae (ι:=List (List Val)×Nat×Nat) (fun x=>⟨[(5,aI (x.2.1:Int)),(6,aI (x.2.2:Int)),(0,.bsl 1000 0 l.length cap),(1,.fn fD [.ptr 1012 0])],(1000,⟨35,.r (x.1.map ai).flatten mm⟩)::nP s,[]⟩) (fun x=>l.length - x.2.2) (fun x=>DI p l x.1 x.2.1 x.2.2) (i0:=(l,i0,i0+1)) ?_ (.first hbef hx0 hp0) ?_
 · exact Wk.mk' kK (wF (wG F2)) B2 .nil
 rintro ⟨cur,i,j⟩ hD K hK;dsimp only at hD hK⊢;have hlt0:=hD.lt;have hle0:=hD.le;have hcu:=hD.l;have hkc:=jD cur;have hlc:(cur.map ai).length=l.length:=by rw[lM,hcu]
 have hic:i<(cur.map ai).length:=by rw[hlc];omega
 cases hx:l[j]? with
 |none=>
  obtain⟨hcl0,hci⟩:=hD.full hx;have hcl:(cur.map ai).take i=(l.filter (fun x=> !p x)).map ai:=by rw[←List.map_take,hcl0]
  have hj:=gO hx;have hlt:decide ((j:Int)<(l.length:Int))=false:=decide_eq_false C;generalize hG2:l.filter (fun x=> !p x)=kept at*
  (repeat' first|intro hb hp|(refine LW.is ?_;first|apply ag;rfl;apply cy (off':=i*1) (n':=l.length - i) (cap':=cap - i);rfl;rfl;omega;omega;omega;omega;omega|apply gf (j:=i);rfl;rfl;exact hkc;rfl;(rw[hlc];omega);omega;(rw[hlc];omega);exact hcl;rfl|apply ag;rfl;apply fg (n':=i);rfl;rfl;omega;omega;omega)|refine am ?_|refine ak ?_ ?_|fail)
  have hpos:0<i:=by rw[←hci];exact gU hnk
  have hkk:=jD kept;all_goals(apply cv 4 1002 (k:=1) (n:=i);rfl;rfl;rfl;exact hkk;(rw[lM];exact hci);omega;(rw[hlc];omega))
  all_goals(apply L.ends;rfl;rfl;exact Sub.of_eq (congrArg (fun z=>AV.bsh 1002 0 z 1) hci.symm);exact Wk.mk' kK .nil B3 .nil)
 |some y=>
  have hlt':=(gS hx).1;have hlt:decide ((j:Int)<(l.length:Int))=true:=decide_eq_true C;have hcz:=hc y (gE hx);have g1:((j:Nat):Int)<(l.length:Int):=C;have g4:0+((j:Nat):Int).toNat*1=j:=C;have h1:((i:Nat):Int)<(l.length:Int):=C;have h4:0+((i:Nat):Int).toNat*1=i:=C;have gy:cur[j]?=some y:=by rw[hD.at,hx]
  cases hq:p y with
  |true=>
   rw[hq] at hcz;(repeat' first|intro hb hp|(refine LW.is ?_;first|apply ag;rfl;apply cF;rfl;rfl;omega;(first|exact g1|exact h1);(first|exact g4|exact h4)|apply ag;rfl;apply aZ (es:=cur.map ai) (k:=1) (i:=j) (f:=0);rfl;rfl;exact hkc;exact C;exact pr gy;rfl|apply ja (f:=fD);rfl;exact hG;rfl;exact hcz;rfl;exact(.cons U .nil);rfl;exact sV;rfl)|refine am ?_|refine ak ?_ ?_|fail)
   refine hK _ (cur,i,j+1) (hD.drop hx hq) oD ?_;exact Wk.mk' kK (wF (wG F2)) B2 .nil
  |false=>
   rw[hq] at hcz;(repeat' first|intro hb hp|(refine LW.is ?_;first|apply ag;rfl;apply cF;rfl;rfl;omega;(first|exact g1|exact h1);(first|exact g4|exact h4)|apply ag;rfl;apply aZ (es:=cur.map ai) (k:=1) (i:=j) (f:=0);rfl;rfl;exact hkc;exact C;exact pr gy;rfl|apply dS (es:=cur.map ai) (i:=i) (e:= [.sl (y.map Val.c)]) (er:=(cur.set i y).map ai);rfl;rfl;rfl;rfl;rfl;rfl;exact hkc;exact C;exact hic;exact JA|apply ja (f:=fD);rfl;exact hG;rfl;exact hcz;rfl;exact(.cons U .nil);rfl;exact sV;rfl)|refine am ?_|refine ak ?_ ?_|fail)
   refine hK _ (cur.set i y,i+1,j+1) (hD.keep hx hq) oD ?_;exact Wk.mk' kK (wG (wG F2)) B2 .nil
def IY{gs:au}{s:Stm}[CallTy prog fD](p:List Val→Bool)(l:List (List Val))(hne:l≠ [])(hl:l.length≤1000000)
 (hc: ∀y∈l,CallG gs prog fD ([.iv (.sl (y.map Val.c))] ++ [.ptr 1012 0]) (nP s) (nP s) [] (aB (p y))) (hnk:l.filter (fun x=> !p x)= [])
 (i0:Nat) (x0:List Val) (hbef: ∀y∈l.take i0,p y=false) (hx0:l[i0]?=some x0) (hp0:p x0=true):
 CallG gs prog 128 [.bsh 1000 0 l.length 1,.fn fD [.ptr 1012 0]] ((1000,bv l)::nP s) ((1000,⟨35,.l []⟩)::nP s) [] (.iv (.sl [])):=by
 refine iG func128 ntmps128 (fun w0 E0 hG=> ?_);have hk:=jD l;have hfl:(l.map ai).flatten.length=l.length*1:=by rw[ao _ hk,lM]
 have hfne:(l.map ai).flatten≠ []:=lG hne;have kx:=zC (gs:=gs) (s:=s) p l hne hl hc;rw[gC hbef hx0 hp0] at kx;have hi0:=(gS hx0).1;have he:((i0:Int)== -1)=false:=beq_eq_false_iff_ne.2 C;(repeat' first|intro hb hp|apply ac [];rfl;exact hG;exact kx;exact fS;exact B2;rfl;exact oh hne;exact uU;rfl|refine am ?_|refine ak ?_ ?_|fail)
 refine L.openRow 0 (id:=1000) (n:=l.length) (k:=1) U U (.inl hfne) C (fun cap hc1 hc2=> ?_);obtain⟨mm,hmm⟩: ∃mm,mm=cap*1 - (l.map ai).flatten.length:=⟨_,rfl⟩
 rw[←hmm];rw[hfl] at hmm;refine ae (ι:=List (List Val)×Nat×Nat) (fun x=>⟨[(5,aI (x.2.1:Int)),(6,aI (x.2.2:Int)),(0,.bsl 1000 0 l.length cap),(1,.fn fD [.ptr 1012 0])],(1000,⟨35,.r (x.1.map ai).flatten mm⟩)::nP s,[]⟩) (fun x=>l.length - x.2.2) (fun x=>DI p l x.1 x.2.1 x.2.2) (i0:=(l,i0,i0+1)) ?_ (.first hbef hx0 hp0) ?_
 · exact Wk.mk' kK (wF (wG F2)) B2 .nil
 rintro ⟨cur,i,j⟩ hD K hK;dsimp only at hD hK⊢;have hlt0:=hD.lt;have hle0:=hD.le;have hcu:=hD.l;have hkc:=jD cur;have hlc:(cur.map ai).length=l.length:=by rw[lM,hcu]
 have hic:i<(cur.map ai).length:=by rw[hlc];omega
 cases hx:l[j]? with
 |none=>
  obtain⟨hcl0,hci⟩:=hD.full hx;have hcl:(cur.map ai).take i=(l.filter (fun x=> !p x)).map ai:=by rw[←List.map_take,hcl0]
  have hj:=gO hx;have hlt:decide ((j:Int)<(l.length:Int))=false:=decide_eq_false C;generalize hG2:l.filter (fun x=> !p x)=kept at*
  (repeat' first|intro hb hp|(refine LW.is ?_;first|apply ag;rfl;apply cy (off':=i*1) (n':=l.length - i) (cap':=cap - i);rfl;rfl;omega;omega;omega;omega;omega|apply gf (j:=i);rfl;rfl;exact hkc;rfl;(rw[hlc];omega);omega;(rw[hlc];omega);exact hcl;rfl|apply ag;rfl;apply fg (n':=i);rfl;rfl;omega;omega;omega)|refine am ?_|refine ak ?_ ?_|fail)
  subst hnk;all_goals refine cT 1000 U (Go.Abs.row_ne (.inr (by rw[hlc];omega))) ?_
  all_goals(apply L.ends;rfl;rfl;exact hci▸Sub.bsl0 _ _ _;exact Wk.mk' kK .nil B2 .nil)
 |some y=>
  have hlt':=(gS hx).1;have hlt:decide ((j:Int)<(l.length:Int))=true:=decide_eq_true C;have hcz:=hc y (gE hx);have g1:((j:Nat):Int)<(l.length:Int):=C;have g4:0+((j:Nat):Int).toNat*1=j:=C;have h1:((i:Nat):Int)<(l.length:Int):=C;have h4:0+((i:Nat):Int).toNat*1=i:=C;have gy:cur[j]?=some y:=by rw[hD.at,hx]
  cases hq:p y with
  |true=>
   rw[hq] at hcz;(repeat' first|intro hb hp|(refine LW.is ?_;first|apply ag;rfl;apply cF;rfl;rfl;omega;(first|exact g1|exact h1);(first|exact g4|exact h4)|apply ag;rfl;apply aZ (es:=cur.map ai) (k:=1) (i:=j) (f:=0);rfl;rfl;exact hkc;exact C;exact pr gy;rfl|apply ja (f:=fD);rfl;exact hG;rfl;exact hcz;rfl;exact(.cons U .nil);rfl;exact sV;rfl)|refine am ?_|refine ak ?_ ?_|fail)
   refine hK _ (cur,i,j+1) (hD.drop hx hq) oD ?_;exact Wk.mk' kK (wF (wG F2)) B2 .nil
  |false=>
   rw[hq] at hcz;(repeat' first|intro hb hp|(refine LW.is ?_;first|apply ag;rfl;apply cF;rfl;rfl;omega;(first|exact g1|exact h1);(first|exact g4|exact h4)|apply ag;rfl;apply aZ (es:=cur.map ai) (k:=1) (i:=j) (f:=0);rfl;rfl;exact hkc;exact C;exact pr gy;rfl|apply dS (es:=cur.map ai) (i:=i) (e:= [.sl (y.map Val.c)]) (er:=(cur.set i y).map ai);rfl;rfl;rfl;rfl;rfl;rfl;exact hkc;exact C;exact hic;exact JA|apply ja (f:=fD);rfl;exact hG;rfl;exact hcz;rfl;exact(.cons U .nil);rfl;exact sV;rfl)|refine am ?_|refine ak ?_ ?_|fail)
   refine hK _ (cur.set i y,i+1,j+1) (hD.keep hx hq) oD ?_;exact Wk.mk' kK (wG (wG F2)) B2 .nil
def KU{gs:au}{s:Stm}[CallTy prog fD](p:List Val→Bool)(l:List (List Val))(hne:l≠ [])(hl:l.length≤1000000)
 (hc: ∀y∈l,CallG gs prog fD ([.iv (.sl (y.map Val.c))] ++ [.ptr 1012 0]) (nP s) (nP s) [] (aB (p y))) (hno: ∀y∈l,p y=false):
 CallG gs prog 128 [.bsh 1000 0 l.length 1,.fn fD [.ptr 1012 0]] ((1000,bv l)::nP s) ((1002,bv l)::(1000,⟨35,.l []⟩)::nP s) [] (.bsh 1002 0 l.length 1):=by
 refine iG func128 ntmps128 (fun w0 E0 hG=> ?_);have hk:=jD l;have hfl:(l.map ai).flatten.length=l.length*1:=by rw[ao _ hk,lM]
 have hfne:(l.map ai).flatten≠ []:=lG hne;have hpos:0<l.length:=gU hne;have kx:=zC (gs:=gs) (s:=s) p l hne hl hc;rw[jG hno] at kx;(repeat' first|intro hb hp|apply ac [];rfl;exact hG;exact kx;exact fS;exact B2;rfl;exact oh hne;exact uU;rfl|refine am ?_|refine ak ?_ ?_|fail)
 all_goals(refine L.openRow 4 (id:=1000) (n:=l.length) (k:=1) U U (.inl hfne) C (fun cap hc1 hc2=> ?_))
 all_goals(apply cv 4 1002 (k:=1) (n:=l.length);rfl;rfl;rfl;exact hk;exact lM _;omega;(rw[hfl];omega))
 all_goals(apply L.ends;rfl;rfl;exact fR;exact Wk.mk' kK .nil B3 .nil)
def L.tail{ι:Type}(st:ι→St)(I:ι→Prop){c:Ctx}{st0:St}{X0 X:Act→World→Prop}(hm:(∀i st',I i→Wk c st' (st i)→L c st' X)→L c st0 X0)(ht: ∀i,I i→L c (st i) X):L c st0 X0:=hm fun i st' hi hw=>L.wk hw (ht i hi)
def gAi(K:Nat):List (List Val)→AV
 | [] => .iv (.sl [])
 |x::l=> .bsh K 0 (l.length+1) 1
def Iy{K:Nat}{l:List (List Val)}(h:l≠ []):gAi K l= .bsh K 0 l.length 1:=by
 cases l with
 |nil=>exact absurd U h
 |cons a l=>rfl
def Ip{gs:au}:CallG gs prog 176 [.iv (.sl []),.any] [] [] [] (aI (-1)):=by
 refine iG func176 ntmps176 (fun w0 E0 hG=> ?_);refine wz ?_;refine ae (ι:=Nat) (fun i=>⟨[(8,aI 0),(7,aI 0),(0,.iv (.sl []))],[],[]⟩) (fun i=>i) (fun i=>True) (i0:=0) ?_ trivial ?_
 · exact Wk.mk' kK (wG (wG F1)) .nil .nil
 intro i _ K hK;refine wz ?_;all_goals exact L.ends U U sE wK
def Ja{gs:au}:CallG gs prog 128 [.iv (.sl []),.any] [] [] [] (.iv (.sl [])):=by
 have kx:=Ip (gs:=gs);refine iG func128 ntmps128 (fun w0 E0 hG=> ?_);(repeat' first|intro hb hp|refine ac [] rfl hG kx (.cons fR (.cons (Sub.any _) .nil)) .nil U U U U ?_|refine am ?_|refine ak ?_ ?_|fail)
 all_goals exact L.ends U U fR wK
def IZ{gs:au}{s:Stm}[CallTy prog fD](p:List Val→Bool)(l:List (List Val))(hne:l≠ [])(hl:l.length≤1000000)
 (hc: ∀y∈l,CallG gs prog fD ([.iv (.sl (y.map Val.c))] ++ [.ptr 1012 0]) (nP s) (nP s) [] (aB (!p y))) (hnk:l.filter p≠ []):
 CallG gs prog 128 [.bsh 1000 0 l.length 1,.fn fD [.ptr 1012 0]] ((1000,bv l)::nP s) ((1002,bv (l.filter p))::(1000,⟨35,.l []⟩)::nP s) [] (.bsh 1002 0 (l.filter p).length 1):=by
 have e:l.filter (fun x=> !(!p x))=l.filter p:=by simp
 by_cases hno: ∀y∈l,(!p y)=false
 · have e2:l.filter p=l:=List.filter_eq_self.2 (fun y hy=>by simpa using hno y hy);rw[e2];exact KU (fun x=> !p x) l hne hl hc hno
 · obtain⟨i,x,h1,h2,h3⟩:=jg hno;have:=IX (fun x=> !p x) l hne hl hc (by rw[e];exact hnk) i x h1 h2 h3;rw[e] at this;exact this
def DL{gs:au}{s:Stm}[CallTy prog fD](p:List Val→Bool)(l:List (List Val))(hne:l≠ [])(hl:l.length≤1000000)
 (hc: ∀y∈l,CallG gs prog fD ([.iv (.sl (y.map Val.c))] ++ [.ptr 1012 0]) (nP s) (nP s) [] (aB (!p y))) (hnk:l.filter p= []):
 CallG gs prog 128 [.bsh 1000 0 l.length 1,.fn fD [.ptr 1012 0]] ((1000,bv l)::nP s) ((1000,⟨35,.l []⟩)::nP s) [] (.iv (.sl [])):=by
 have e:l.filter (fun x=> !(!p x))=l.filter p:=by simp
 by_cases hno: ∀y∈l,(!p y)=false
 · have e2:l.filter p=l:=List.filter_eq_self.2 (fun y hy=>by simpa using hno y hy);exact absurd (e2.symm.trans hnk) hne
 · obtain⟨i,x,h1,h2,h3⟩:=jg hno;exact IY (fun x=> !p x) l hne hl hc (by rw[e];exact hnk) i x h1 h2 h3
def zq(s:Stm)(x:List Val):List Val:=s.out.map (aC x)
def re(s:Stm)(l:List (List Val)):List (List Val):=if 0≤s.n∧s.n<(l.length:Int) then l.take s.n.toNat else l
def AI(s:Stm)(wide:Nat)(J:List (List Val)):List (List Val):=(re s ((J.filter (bM s.wh)).mergeSort (cM (dc s wide)))).map (zq s)
def DN{s:Stm}{l F:List (List Val)}{b:Box}(h:l≠ [])(hF:F≠ []):dW [1002] ((1000,bv l)::nP s) ((1002,bv F)::(1000,b)::nP s)=true:=by
 have h1:=lG h;have h2:=lG hF;cases hq:(l.map ai).flatten with
 |nil=>exact absurd hq h1
 |cons x xs=>
  cases hr:(F.map ai).flatten with
  |nil=>exact absurd hr h2
  |cons y ys=>simp only[dW,keys,bv,hq,hr];rfl
def DM{L:List Nat}{s:Stm}{l:List (List Val)}:((1002,bv l)::(1000,(⟨35,.l []⟩:Box))::nP s).all (fun p=>AV.mentsIn L p.2.cs)=true:=by
 have:=cZ (L:=L) (l:=l) (id:=1000);simp only[List.all_cons,List.all_nil,Bool.and_true] at this;simp only[List.all_cons,List.all_nil,Bool.and_true,this,Bool.true_and];simp[Stm.cs,AV.mentsIn,AV.mentIn]
def pW{gs:au}(c:Cat)(ps:List Pg)(n:Int)(s:Stm)(a:Tab)(w:Way)(R J:List (List Val))(hR:R.length≤1000000)(hJ:J.length≤1000000)
 (hok:s.wh.Ok) (hoo: ∀e∈s.ord,e.Ok) (hlo:s.ord.length≤140737488355328) (hout: ∀e∈s.out,e.Ok) (hlout:s.out.length*104≤140737488355328)
 (n0:Str) (hf0:s.frm[0]?=some n0)
 (ka:CallA prog 53 [.agg (c.c.map .iv),aS n0] [] [] [] (.tup [.agg (a.c.map .iv),.iv (B true)]))
 (kw:CallA prog 121 [.agg (c.c.map .iv),.agg (a.c.map .iv),aI 0,.agg (s.wh.cs.map .iv)] [] [] [] (.agg (w.c.map .iv)))
 (kr:CallG gs prog 27 [.agg [.iv (.sl (ps.map Pg.c))],.agg (a.c.map .iv),.agg (w.c.map .iv)] [] (CB 1000 R) [] (Fc 1000 R))
 (one:s.frm.length≠2→J=R)
 (two:s.frm.length=2→ ∃(n1:Str) (b:Tab) (w2:List Val→Way) (R2:List Val→List (List Val)),s.frm[1]?=some n1∧
   CallA prog 53 [.agg (c.c.map .iv),aS n1] [] [] [] (.tup [.agg (b.c.map .iv),.iv (B true)])∧
   (∀x∈R,CallA prog 121 [.agg (c.c.map .iv),.agg (b.c.map .iv),aI (x.length:Int),.agg ((br x s.wh).cs.map .iv)] [] [] [] (.agg ((w2 x).c.map .iv)))∧
   (∀x∈R,CallG gs prog 27 [.agg [.iv (.sl (ps.map Pg.c))],.agg (b.c.map .iv),.agg ((w2 x).c.map .iv)] [] (CB 1000 (R2 x)) [] (Fc 1000 (R2 x)))∧
   J=R.flatMap (fun x=>(R2 x).map (x++ ·))∧(∀x∈R,x.length≤1000∧ ∀y∈R2 x,y.length≤1000))
 (hx: ∀x∈J,x≠ []) (hwid:2≤s.frm.length→ ∀x∈J,a.cols.length<x.length)
 (hL:Lin (cM (dc s a.cols.length)) (J.filter (bM s.wh))):
 CallG gs prog 98 [.ptr 1010 0,.agg (s.cs.map .iv)] [(1010,bQ c ps n)] [(1010,bQ c ps n)] [] (.iv (.sl ((AI s a.cols.length J).map ai))):=by
 refine iG func98 ntmps98 (fun w0 E0 hG=> ?_);have g0:(s.frm.map Str.c)[(0:Int).toNat]?=some [S n0]:=by rw[show(0:Int).toNat=0 from rfl,gP,hf0];rfl
 have hfl:((s.frm.map Str.c).length:Int)=(s.frm.length:Int):=by rw[lM]
 apply L.tail (ι:=List (List Val)) (fun l=>⟨[(102,gAi 1000 l),(103,.fn fD [.ptr 1012 0]),(7,gAi 1000 l),(2,.ptr 1011 0),(3,.ptr 1012 0),(5,.ptr 1013 0)],
  (1011,⟨23,.l [.ptr 1010 0]⟩)::(1012,⟨80,.l (s.cs.map .iv)⟩)::(1013,⟨57,.l (a.c.map .iv)⟩)::(1010,bQ c ps n)::CB 1000 l,[]⟩) (fun l=>l=J)
 · intro tailB;by_cases h2:s.frm.length=2
   · obtain⟨n1,b,w2,R2,hf1,kb,kw2,kr2,hJ2,hl2⟩:=two h2;have q1:(((s.frm.map Str.c).length:Int)==2)=true:=by rw[hfl,h2];rfl
     have g1:(s.frm.map Str.c)[(1:Int).toNat]?=some [S n1]:=by rw[show(1:Int).toNat=1 from rfl,gP,hf1];rfl
     apply L.tail (ι:=Unit) (fun _=>⟨[(65,aI (0:Int)),(64,aI (R.length:Int)),(63,.iv (.sl (R.map ai))),(10,.nils),(2,.ptr 2 0),(3,.ptr 3 0),(5,.ptr 5 0),(8,.ptr 8 0)],(2,⟨23,.l [.ptr 1010 0]⟩)::(3,⟨80,.l (s.cs.map .iv)⟩)::(5,⟨57,.l (a.c.map .iv)⟩)::(8,⟨57,.l (b.c.map .iv)⟩)::(1010,bQ c ps n):: [],[]⟩) (fun _=>True)
     · intro tailL;by_cases hRe:R= []
       · subst hRe;(repeat' first|intro hb hp|apply fe [];rfl;exact hG;exact kr;rfl;rfl;rfl;rfl;rfl|refine am ?_|refine ak ?_ ?_|fail)
         exact tailL () _ trivial (Wk.mk' kK (wG (wG (.cons rfl Sub.nils F5))) B5 .nil)
       · rw[oE hRe,mi hRe] at kr;(repeat' first|intro hb hp|apply fe [1000];rfl;exact hG;exact kr;rfl;rfl;rfl;exact cZ;rfl|refine am ?_|refine ak ?_ ?_|fail)
         refine L.pubS 1000 63 (es:=R.map ai) (k:=1) rfl rfl (jD R) dD (fun h=>hRe (List.map_eq_nil_iff.1 h)) (lM _) rfl .here ?_;exact tailL () _ trivial (Wk.mk' kK (wG (wG F6)) B5 .nil)
     intro _ _;refine ae (ι:=Nat×List (List Val)) (fun i=>⟨[(65,aI (i.1:Int)),(64,aI (R.length:Int)),(63,.iv (.sl (R.map ai))),(10,Fc 1001 i.2),(2,.ptr 2 0),(3,.ptr 3 0),(5,.ptr 5 0),(8,.ptr 8 0)],(2,⟨23,.l [.ptr 1010 0]⟩)::(3,⟨80,.l (s.cs.map .iv)⟩)::(5,⟨57,.l (a.c.map .iv)⟩)::(8,⟨57,.l (b.c.map .iv)⟩)::(1010,bQ c ps n)::CB 1001 i.2,[]⟩) (fun i=>R.length - i.1) (fun i=>(R.take i.1).flatMap (fun x=>(R2 x).map (x++ ·))=i.2) (i0:=(0,[])) ?_ rfl ?_
     · exact(Wk.mk' kK (wG F7) B5 .nil)
     rintro ⟨i,F⟩ hI K hK;dsimp only at hI hK;cases hxi:R[i]? with
     |none=>
      have q:decide ((i:Int)<(R.length:Int))=false:=decide_eq_false (by have:=gO hxi;omega);rw[bc hxi] at hI;have hFJ:F=J:=by rw[←hI,hJ2]
      clear hK kw2 kr2;rcases F with _|⟨y,l⟩
      · (repeat' first|intro hb hp|apply ag;rfl;apply aA;rfl|refine am ?_|refine ak ?_ ?_|fail)
        refine LW.mk ?_;refine gK [(2,1011),(3,1012),(5,1013)] rfl rfl rfl rfl ?_;exact tailB [] _ hFJ (Wk.mk' kK (.cons rfl Sub.nils (wF (.cons rfl Sub.nils F3))) B4 .nil)
      · (repeat' first|intro hb hp|apply ag;rfl;apply aA;rfl|refine am ?_|refine ak ?_ ?_|fail)
        refine LW.mk ?_;refine gK [(2,1011),(3,1012),(5,1013),(1001,1000)] rfl rfl rfl rfl ?_;exact tailB (y::l) _ hFJ wK
     |some x=>
      have hlt':i<R.length:=(gS hxi).1;have hm:=gE hxi;have q:decide ((i:Int)<(R.length:Int))=true:=decide_eq_true C;have g1:(R.map ai)[((i:Nat):Int).toNat]?=some [.sl (x.map Val.c)]:=by rw[iN,gP,hxi];rfl
      have kw:=kw2 x hm;have kr:=kr2 x hm;have kk:=ye x s.wh hok;have hlx:((x.map Val.c).length:Int)=(x.length:Int):=by rw[lM]
      rw[←hlx] at kw;have hFl:(R.take (i+1)).flatMap (fun x=>(R2 x).map (x++ ·))=F++(R2 x).map (x++ ·):=by rw[dg hxi,List.flatMap_append,hI];simp
      have hFJ:F.length+(R2 x).length≤1000000:=by
       have h:=congrArg List.length (List.take_append_drop (i+1) R▸hJ2:J=_);rw[List.flatMap_append,hFl,gV,gV,lM] at h;omega
      obtain⟨hx1,hy1⟩:=hl2 x hm;clear kw2 kr2 tailB hJ2 hl2 hI;generalize R2 x=ys at*
      generalize w2 x=w2 at*
      apply L.tail (ι:=Unit) (fun _=>⟨[(88,aI 0),(87,aI (ys.length:Int)),(86,.iv (.sl (ys.map ai))),(12,.iv (.sl (x.map Val.c))),(65,aI (i:Int)),(64,aI (R.length:Int)),(63,.iv (.sl (R.map ai))),(10,Fc 1001 F),(2,.ptr 2 0),(3,.ptr 3 0),(5,.ptr 5 0),(8,.ptr 8 0)],(2,⟨23,.l [.ptr 1010 0]⟩)::(3,⟨80,.l (s.cs.map .iv)⟩)::(5,⟨57,.l (a.c.map .iv)⟩)::(8,⟨57,.l (b.c.map .iv)⟩)::(1010,bQ c ps n)::CB 1001 F,[]⟩) (fun _=>True)
      · intro tailI;by_cases hye:ys= []
        · subst hye;rcases F with _|⟨y,l⟩
          · (repeat' first|intro hb hp|apply fe [];rfl;exact hG;exact kr;rfl;rfl;rfl;rfl;rfl|refine am ?_|refine ak ?_ ?_|fail)
            exact tailI () _ trivial (Wk.mk' kK (wG (wG (.cons rfl Sub.nils (wF (wF F7))))) B5 .nil)
          · (repeat' first|intro hb hp|apply fe [];rfl;exact hG;exact kr;rfl;rfl;rfl;rfl;rfl|refine am ?_|refine ak ?_ ?_|fail)
            exact tailI () _ trivial (Wk.mk' kK (wG (wG (.cons rfl Sub.nils (wF (wF F7))))) (wB B5) .nil)
        · rw[oE hye,mi hye] at kr;rcases F with _|⟨y,l⟩
          · (repeat' first|intro hb hp|apply fe [1000];rfl;exact hG;exact kr;rfl;rfl;rfl;exact cZ;rfl|refine am ?_|refine ak ?_ ?_|fail)
            refine L.pubS 1000 86 (es:=ys.map ai) (k:=1) rfl rfl (jD ys) dD (fun h=>hye (List.map_eq_nil_iff.1 h)) (lM _) rfl .here ?_;exact tailI () _ trivial (Wk.mk' kK (wG (wG (wF (wF (wF F7))))) B5 .nil)
          · (repeat' first|intro hb hp|apply fe [1000];rfl;exact hG;exact kr;rfl;rfl;rfl;exact cZ;rfl|refine am ?_|refine ak ?_ ?_|fail)
            refine L.pubS 1000 86 (es:=ys.map ai) (k:=1) rfl rfl (jD ys) dD (fun h=>hye (List.map_eq_nil_iff.1 h)) (lM _) rfl .here ?_;exact tailI () _ trivial (Wk.mk' kK (wG (wG (wF (wF (wF F7))))) (wB B5) .nil)
      intro _ _;clear kw kr kk g1;refine ae (ι:=Nat×List (List Val)) (fun j=>⟨[(88,aI (j.1:Int)),(87,aI (ys.length:Int)),(86,.iv (.sl (ys.map ai))),(12,.iv (.sl (x.map Val.c))),(65,aI (i:Int)),(64,aI (R.length:Int)),(63,.iv (.sl (R.map ai))),(10,Fc 1001 j.2),(2,.ptr 2 0),(3,.ptr 3 0),(5,.ptr 5 0),(8,.ptr 8 0)],(2,⟨23,.l [.ptr 1010 0]⟩)::(3,⟨80,.l (s.cs.map .iv)⟩)::(5,⟨57,.l (a.c.map .iv)⟩)::(8,⟨57,.l (b.c.map .iv)⟩)::(1010,bQ c ps n)::CB 1001 j.2,[]⟩) (fun j=>ys.length - j.1) (fun j=>F++(ys.take j.1).map (x++ ·)=j.2) (i0:=(0,F)) ?_ sP ?_
      · exact Wk.mkX (fE rfl) (wF (wF (wF (wF (wF F7))))) (fun s v h=>h) .nil
      rintro ⟨j,G⟩ hJ K2 hK2;dsimp only at hJ hK2;cases hyj:ys[j]? with
      |none=>
       have q2:decide ((j:Int)<(ys.length:Int))=false:=decide_eq_false (by have:=gO hyj;omega);rw[bc hyj] at hJ;clear hK2;rcases G with _|⟨y,l⟩
       · refine wz ?_;exact hK _ (i+1,[]) (hFl.trans hJ) oD (Wk.mk' kK (wF F7) B5 .nil)
       · refine wz ?_;exact hK _ (i+1,y::l) (hFl.trans hJ) oD (Wk.mk' kK (wF F7) (wB B5) .nil)
      |some y=>
       have hlt2:j<ys.length:=(gS hyj).1;have q2:decide ((j:Int)<(ys.length:Int))=true:=decide_eq_true C;have g2:(ys.map ai)[((j:Nat):Int).toNat]?=some [.sl (y.map Val.c)]:=by rw[iN,gP,hyj];rfl
       have hy2:=hy1 y (gE hyj);have hcat: [x,y].flatten=x++y:=by simp
       have kc:=(Ce [x,y] sP (by rw[hcat,gV];omega)).pubRow;rw[hcat] at kc;have hst:F++(ys.take (j+1)).map (x++ ·)=G++ [x++y]:=by rw[dg hyj,pA,←List.append_assoc,hJ];rfl
       have hGl:G.length+1≤1000000:=by
        have h:=congrArg List.length hst;rw[gV,gV,lM,lT] at h;simp only[lC,List.length_nil] at h;omega
       clear hJ;generalize x++y=z at*
       rcases G with _|⟨y',l⟩
       · (repeat' first|intro hb hp|(refine LW.is ?_;first|apply od 1001 (news:= [ai z]);rfl;rfl;rfl;exact cK rfl;exact cN _ _;exact(by simp[maxLen]);exact sP;rfl)|refine am ?_|refine ak ?_ ?_|fail)
         exact hK2 _ (j+1,[z]) hst oD (Wk.mk' kK (wF (wF (wF (wF (wF F7))))) (wB B5) .nil)
       · (repeat' first|intro hb hp|(refine LW.is ?_;first|apply eY 1004 (es:=(y'::l).map ai) (n:=l.length+1) (news:= [ai z]) (er:=(y'::l++ [z]).map ai) (nr:=(y'::l++ [z]).length);rfl;rfl;rfl;rfl;exact .inl (row_ne (f:=ai) (k:=1) (fun _=>rfl) dD (cN y' l));exact dU (f:=ai) (k:=1) (fun _=>rfl) (y'::l);exact cK rfl;exact(by rw[lM];exact Nat.le_refl _);exact cN _ _;exact(by rw[fC];simp at hGl⊢;omega);exact(by simp at hGl⊢;omega);rfl;exact ij (y'::l) z;exact sP)|refine am ?_|refine ak ?_ ?_|fail)
         refine gK [(1001,1004)] rfl rfl rfl rfl ?_;exact hK2 _ (j+1,y'::l++ [z]) hst oD (Wk.mk' kK (wF (wF (wF (wF (wF F7))))) (wB B5) .nil)
   · have q1:(((s.frm.map Str.c).length:Int)==2)=false:=by rw[hfl];simp;omega
     have hJR:=one h2;by_cases hRe:R= []
     · subst hRe;(repeat' first|intro hb hp|apply fe [];rfl;exact hG;exact kr;rfl;rfl;rfl;rfl;rfl|apply ag;rfl;apply aA;rfl|refine am ?_|refine ak ?_ ?_|fail)
       refine LW.mk ?_;refine gK [(2,1011),(3,1012),(5,1013)] rfl rfl rfl rfl ?_;exact tailB [] _ hJR.symm (Wk.mk' kK (.cons rfl Sub.nils (wF (.cons rfl Sub.nils F3))) B4 .nil)
     · rw[oE hRe,mi hRe] at kr;(repeat' first|intro hb hp|apply fe [1000];rfl;exact hG;exact kr;rfl;rfl;rfl;exact cZ;rfl|apply ag;rfl;apply aA;rfl|refine am ?_|refine ak ?_ ?_|fail)
       refine LW.mk ?_;refine gK [(2,1011),(3,1012),(5,1013)] rfl rfl rfl rfl ?_;refine tailB R _ hJR.symm ?_;rw[Iy hRe,mi hRe];exact wK
 intro l hl;rw[hl];clear hl l one two hf0 ka kw kr g0;have kD:=fun y=>Cm (gs:=gs) s hok y
 have kE:=Ja (gs:=gs);have kS:=tS (gs:=gs);apply L.tail (ι:=List (List Val)) (fun l=>⟨[(124,aI 0),(123,aI ((l.map ai).length:Int)),(122,.iv (.sl (l.map ai))),(15,.nils),(3,.ptr 1012 0)],
  [(1012,⟨80,.l (s.cs.map .iv)⟩),(1010,bQ c ps n)],[]⟩) (fun l=>l=re s ((J.filter (bM s.wh)).mergeSort (cM (dc s a.cols.length))))
 · intro tailD;by_cases hJe:J= []
   · have hm:re s ((J.filter (bM s.wh)).mergeSort (cM (dc s a.cols.length)))= []:=by rw[hJe];simp[re]
     rw[hm] at tailD;rw[show gAi 1000 J= .iv (.sl []) by rw[hJe];rfl,show CB 1000 J= [] by rw[hJe];rfl];refine LW.out ?_;by_cases hn0:0≤s.n
     · have q1:decide (0≤s.n)=true:=decide_eq_true hn0;have q2:decide (s.n<((([]:List (List IV)).length:Nat):Int))=false:=decide_eq_false (by simp;omega);(repeat' first|intro hb hp|apply ac [];rfl;exact hG;exact kE;exact(.cons fR (.cons (Sub.any _) .nil));exact .nil;rfl;rfl;rfl;rfl|apply ac [];rfl;exact hG;exact kS;exact(.cons fR (.cons (Sub.any _) .nil));exact .nil;rfl;rfl;rfl;rfl|apply ag;rfl;apply aA;rfl|refine am ?_|refine ak ?_ ?_|fail)
       all_goals exact tailD [] _ rfl (Wk.mk' kK (wG (wG (wG F2))) B2 .nil)
     · have q1:decide (0≤s.n)=false:=decide_eq_false hn0;(repeat' first|intro hb hp|apply ac [];rfl;exact hG;exact kE;exact(.cons fR (.cons (Sub.any _) .nil));exact .nil;rfl;rfl;rfl;rfl|apply ac [];rfl;exact hG;exact kS;exact(.cons fR (.cons (Sub.any _) .nil));exact .nil;rfl;rfl;rfl;rfl|apply ag;rfl;apply aA;rfl|refine am ?_|refine ak ?_ ?_|fail)
       all_goals exact tailD [] _ rfl (Wk.mk' kK (wG (wG (wG F2))) B2 .nil)
   rw[Iy hJe,mi hJe];by_cases hk:J.filter (bM s.wh)= []
   · have hm:re s ((J.filter (bM s.wh)).mergeSort (cM (dc s a.cols.length)))= []:=by rw[hk];simp[re]
     rw[hm] at tailD;have kD1:=DL (bM s.wh) J hJe hJ (fun y _=>kD y) hk;refine LW.out ?_;by_cases hn0:0≤s.n
     · have q1:decide (0≤s.n)=true:=decide_eq_true hn0;have q2:decide (s.n<((([]:List (List IV)).length:Nat):Int))=false:=decide_eq_false (by simp;omega);(repeat' first|intro hb hp|apply ac [];rfl;exact hG;exact kD1;exact fS;exact B2;rfl;exact oh hJe;rfl;rfl|apply ac [];rfl;exact hG;exact kS;exact(.cons fR (.cons (Sub.any _) .nil));exact .nil;rfl;rfl;rfl;rfl|apply ag;rfl;apply aA;rfl|refine am ?_|refine ak ?_ ?_|fail)
       all_goals exact tailD [] _ rfl (Wk.mk' kK (wG (wG (wG F2))) B2 .nil)
     · have q1:decide (0≤s.n)=false:=decide_eq_false hn0;(repeat' first|intro hb hp|apply ac [];rfl;exact hG;exact kD1;exact fS;exact B2;rfl;exact oh hJe;rfl;rfl|apply ac [];rfl;exact hG;exact kS;exact(.cons fR (.cons (Sub.any _) .nil));exact .nil;rfl;rfl;rfl;rfl|apply ag;rfl;apply aA;rfl|refine am ?_|refine ak ?_ ?_|fail)
       all_goals exact tailD [] _ rfl (Wk.mk' kK (wG (wG (wG F2))) B2 .nil)
   have hkJ: ∀x∈J.filter (bM s.wh),x∈J:=fun x h=>(List.mem_filter.1 h).1
   have hkl:(J.filter (bM s.wh)).length≤1000000:=Nat.le_trans (List.length_filter_le ..) hJ;have kD1:=IZ (bM s.wh) J hJe hJ (fun y _=>kD y) hk;have kS1:=uF (gs:=gs) (s:=s) (t:=a) (cf:=dc s a.cols.length) (J.filter (bM s.wh)) hk hL hkl
    (fun x h1 y h2=>Cl s hoo hlo a x y (hx x (hkJ x h1)) (hx y (hkJ y h2)) (fun h=>⟨hwid h x (hkJ x h1),hwid h y (hkJ y h2)⟩))
   have hl0:(J.filter (bM s.wh)).length=((J.filter (bM s.wh)).mergeSort (cM (dc s a.cols.length))).length:=(List.length_mergeSort _).symm;have hne:=nv (le:=cM (dc s a.cols.length)) hk;generalize (J.filter (bM s.wh)).mergeSort (cM (dc s a.cols.length))=T at*
   generalize hF:J.filter (bM s.wh)=F at*
   have hT1':(T.map ai).length=F.length:=by rw[lM,hl0]
   have hne':T.map ai≠ []:=fun h=>hne (List.map_eq_nil_iff.1 h)
   have rT:=jD T;refine LW.out ?_;by_cases hn0:0≤s.n
   · have q1:decide (0≤s.n)=true:=decide_eq_true hn0;by_cases hn1:s.n<(T.length:Int)
     · have hm:re s T=T.take s.n.toNat:=if_pos ⟨hn0,hn1⟩;rw[hm] at tailD;have q2:decide (s.n<((T.map ai).length:Int))=true:=decide_eq_true (by rw[lM];exact hn1);have q3:s.n≤((T.map ai).length:Int):=by rw[lM];omega
       have q4:(T.map ai).take s.n.toNat=(T.take s.n.toNat).map ai:=(List.map_take ..).symm;(repeat' first|intro hb hp|apply ac [1002];rfl;exact hG;exact kD1;exact fS;exact B2;rfl;exact DN hJe hk;exact DM;rfl;refine LW.mk ?_;refine gK [(1002,1000)] rfl rfl rfl rfl ?_;refine LW.out ?_|apply ac [];rfl;exact hG;exact kS1;exact fS;exact wB (.cons rfl rfl (Subs.cons (Sub.any _) .nil) B2);rfl;exact cm hk;exact ck;rfl;refine LW.mk ?_;refine L.pubS 1000 7 (es:=T.map ai) (k:=1) rfl rfl rT dD hne' hT1' rfl .here ?_;refine LW.out ?_|apply ag;rfl;apply aA;rfl|(refine LW.is ?_;first|apply ag;rfl;apply eA;rfl;rfl;exact rT;exact hn0;exact q3;exact q4)|refine am ?_|refine ak ?_ ?_|fail)
       all_goals exact tailD _ _ rfl (Wk.mk' kK (wG (wG (wG F2))) B2 .nil)
     · have hm:re s T=T:=if_neg (fun h=>hn1 h.2);rw[hm] at tailD;have q2:decide (s.n<((T.map ai).length:Int))=false:=decide_eq_false (by rw[lM];exact hn1);(repeat' first|intro hb hp|apply ac [1002];rfl;exact hG;exact kD1;exact fS;exact B2;rfl;exact DN hJe hk;exact DM;rfl;refine LW.mk ?_;refine gK [(1002,1000)] rfl rfl rfl rfl ?_;refine LW.out ?_|apply ac [];rfl;exact hG;exact kS1;exact fS;exact wB (.cons rfl rfl (Subs.cons (Sub.any _) .nil) B2);rfl;exact cm hk;exact ck;rfl;refine LW.mk ?_;refine L.pubS 1000 7 (es:=T.map ai) (k:=1) rfl rfl rT dD hne' hT1' rfl .here ?_;refine LW.out ?_|apply ag;rfl;apply aA;rfl|refine am ?_|refine ak ?_ ?_|fail)
       all_goals exact tailD _ _ rfl (Wk.mk' kK (wG (wG (wG F2))) B2 .nil)
   · have q1:decide (0≤s.n)=false:=decide_eq_false hn0;have hm:re s T=T:=if_neg (fun h=>hn0 h.1);rw[hm] at tailD;(repeat' first|intro hb hp|apply ac [1002];rfl;exact hG;exact kD1;exact fS;exact B2;rfl;exact DN hJe hk;exact DM;rfl;refine LW.mk ?_;refine gK [(1002,1000)] rfl rfl rfl rfl ?_;refine LW.out ?_|apply ac [];rfl;exact hG;exact kS1;exact fS;exact wB (.cons rfl rfl (Subs.cons (Sub.any _) .nil) B2);rfl;exact cm hk;exact ck;rfl;refine LW.mk ?_;refine L.pubS 1000 7 (es:=T.map ai) (k:=1) rfl rfl rT dD hne' hT1' rfl .here ?_;refine LW.out ?_|apply ag;rfl;apply aA;rfl|refine am ?_|refine ak ?_ ?_|fail)
     all_goals exact tailD _ _ rfl (Wk.mk' kK (wG (wG (wG F2))) B2 .nil)
 intro l hl;rw[hl];clear hl l hL hx hwid kD kE kS;have hlen:(re s ((J.filter (bM s.wh)).mergeSort (cM (dc s a.cols.length)))).length≤1000000:=by
  have h1:((J.filter (bM s.wh)).mergeSort (cM (dc s a.cols.length))).length≤1000000:=by rw[List.length_mergeSort];exact Nat.le_trans (List.length_filter_le ..) hJ
  unfold re;split
  · rw[lT];omega
  · exact h1
 unfold AI;generalize re s ((J.filter (bM s.wh)).mergeSort (cM (dc s a.cols.length)))=l at*
 refine L.adopt 15 (s:=15) (t:=35) (k:=1) rfl rfl rfl ?_;refine ae (ι:=Nat) (fun i=>⟨[(124,aI (i:Int)),(123,aI ((l.map ai).length:Int)),(122,.iv (.sl (l.map ai))),(15,.row 15 (((l.take i).map (zq s)).map ai)),(3,.ptr 1012 0)],
  [(1012,⟨80,.l (s.cs.map .iv)⟩),(1010,bQ c ps n)],[(15,⟨35,1⟩)]⟩) (fun i=>l.length - i) (fun i=>True) (i0:=0) ?_ trivial ?_
 · exact wL
 intro i _ K hK;cases hxi:l[i]? with
 |none=>
  have hlt:=fa (l:=l.map ai) (bf hxi);rw[bc hxi];clear hK;refine wz ?_;all_goals(apply L.ends;rfl;rfl;exact Sub.row _ _;exact Wk.mk' kK .nil B1 .nil)
 |some x=>
  have hlt:=eZ (l:=l.map ai) (cq (f:=ai) hxi);have hlt':=eP hxi;have g1:(l.map ai)[((i:Nat):Int).toNat]?=some [.sl (x.map Val.c)]:=by rw[iN,gP,hxi];rfl
  have n1:((l.take (i+1)).map (zq s)).map ai=((l.take i).map (zq s)).map ai++ [[.sl ((s.out.map (aC x)).map Val.c)]]:=by rw[dg hxi,pA,pA];rfl
  have l1:(((l.take i).map (zq s)).map ai).length=i:=by simp;omega
  have k1: ∀e∈((l.take i).map (zq s)).map ai,e.length=1:=jD _;generalize ((l.take i).map (zq s)).map ai=es at*
  refine wz ?_;refine L.adopt 18 (s:=18) (t:=41) (k:=3) rfl rfl rfl ?_;refine ae (ι:=Nat) (fun j=>⟨[(131,aI (j:Int)),(130,aI ((s.out.map Ex.c).length:Int)),(129,.iv (.sl (s.out.map Ex.c))),(18,.row 18 (((s.out.take j).map (aC x)).map Val.c)),(17,.iv (.sl (x.map Val.c))),(124,aI (i:Int)),(123,aI ((l.map ai).length:Int)),(122,.iv (.sl (l.map ai))),(15,.row 15 es),(3,.ptr 1012 0)],
   [(1012,⟨80,.l (s.cs.map .iv)⟩),(1010,bQ c ps n)],[(18,⟨41,3⟩),(15,⟨35,1⟩)]⟩) (fun j=>s.out.length - j) (fun j=>True) (i0:=0) ?_ trivial ?_
  · exact wL
  intro j _ K2 hK2;cases hy:s.out[j]? with
  |none=>
   have hlt2:=fa (l:=s.out.map Ex.c) (bf hy);rw[bc hy];clear hK2;generalize (s.out.map (aC x)).map Val.c=vs at*
   (repeat' first|intro hb hp|(refine LW.is ?_;first|apply bC;rfl;rfl;rfl;rfl;exact k1;(first|exact len_chunks rfl|exact bz rfl bK);(simp[maxLen,ah,l1];omega);(simp[ah,l1];omega);rfl;rfl)|refine am ?_|refine ak ?_ ?_|fail)
   refine L.onlyS [124,123,122,15,3] [1012,1010] rfl ?_;refine L.retok 15 145 15 rfl rfl rfl rfl ?_;refine hK _ (i+1) trivial C (Wk.mk' kK (wF (wF (wF (.cons rfl (Sub.of_eq (congrArg (AV.row 15) n1.symm)) F1)))) B2 (.cons rfl .nil))
  |some e=>
   have hlt2:=eZ (l:=s.out.map Ex.c) (cq (f:=Ex.c) hy);have hlt2':=eP hy;have g2:(s.out.map Ex.c)[((j:Nat):Int).toNat]?=some e.cs:=by rw[iN,gP,hy,←aN];rfl
   have kv:=lg x e (hout e (gE hy));rw[aN] at kv;have n2:((s.out.take (j+1)).map (aC x)).map Val.c=((s.out.take j).map (aC x)).map Val.c++ [(aC x e).c]:=by rw[dg hy,pA,pA];rfl
   have l2:(((s.out.take j).map (aC x)).map Val.c).length=j:=by simp;omega
   have k2: ∀e∈((s.out.take j).map (aC x)).map Val.c,e.length=3:=fun e he=>by obtain⟨y,_,rfl⟩:=mM he;rfl
   generalize aC x e=v at*
   generalize ((s.out.take j).map (aC x)).map Val.c=vs at*
   clear hK n1 l1 k1;(repeat' first|intro hb hp|(refine LW.is ?_;first|apply bC;rfl;rfl;rfl;rfl;exact k2;(first|exact len_chunks rfl|exact bz rfl bK);(simp[maxLen,ah,l2];omega);(simp[ah,l2];omega);rfl;rfl)|refine am ?_|refine ak ?_ ?_|fail)
   refine L.onlyS [131,130,129,18,17,124,123,122,15,3] [1012,1010] rfl ?_;refine L.retok 18 140 18 rfl rfl rfl rfl ?_;refine hK2 _ (j+1) trivial C (Wk.mk' kK (wF (wF (wF (.cons rfl (Sub.of_eq (congrArg (AV.row 18) n2.symm)) F6)))) B2 (.cons rfl (.cons rfl .nil)))
end Go.Proofs.Y
