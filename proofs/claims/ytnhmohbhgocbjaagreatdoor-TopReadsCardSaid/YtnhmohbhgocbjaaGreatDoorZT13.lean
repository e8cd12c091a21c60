/- Lemmas towards the law. Conditions: each one says its own. -/
import Derived.Test.YtnhmohbhgocbjaaGreatDoorZT9
import Derived.Test.YtnhmohbhgocbjaaGreatDoorZT11
set_option linter.all false
set_option maxHeartbeats 64000000
set_option maxRecDepth 100000
namespace Go.Abs
def L.endsIAI{P:Program}{c:Ctx}{st:St}{fn:Func}{res:AV}{rs:List ResultVar}{y u:IV}{cs:List AV}(hfn:fn.results=rs.toArray)(hv:(st.ress P rs).map AV.pub.pubs=some [.iv y,.agg cs,.iv u])(hi:c.ins= [])(he:AV.tup [.iv y,.agg cs,.iv u] =res):L c st (bodyPost P fn (lp c [] [] res) .ret):=L.endsP (bx':= []) hfn hv hi he
end Go.Abs
namespace Go.Proofs.Y
open Go.Abs Go.Proofs.Tryz
attribute [local irreducible] L Code.wp bodyPost Exit.then Exit.inBlock
def cQ:Ex→List Ex
 | .mk op v s name n [a,b] =>if op=7 then cQ a++cQ b else [.mk op v s name n [a,b]]
 | .mk op v s name n l=> [.mk op v s name n l]
def pu(v:Val)(s name:Str)(n:Int)(a b:Ex):cQ (.mk 7 v s name n [a,b])=cQ a++cQ b:=by rw[cQ,if_pos U]
def gW{op:Int}(v:Val)(s name:Str)(n:Int){l:List Ex}(h: ¬(op=7∧l.length=2)):cQ (.mk op v s name n l)= [.mk op v s name n l]:=by
 unfold cQ;split
 · rename_i a b hq;cases hq;rw[if_neg (fun e=>h ⟨e,rfl⟩)]
 · rename_i hq;cases hq;rfl
def se: ∀(e:Ex) (hl:(cQ e).length*104≤140737488355328),CallA prog 171 [.agg (e.cs.map .iv)] [] [] [(2,⟨78,8⟩)] (.row 2 ((cQ e).map Ex.c))
 | .mk op v s name n l,hl=>by
   by_cases h:op=7∧l.length=2
   · obtain⟨rfl,h2⟩:=h
     match l,h2 with
     | [a,b],_=>
     rw[pu] at hl⊢;rw[gV] at hl;have ka:=(se a C).sws [(2,16)] (args2:= [.agg (a.cs.map .iv)]) (bx2:= []) (bx2':= []) (tk2':= [(16,⟨78,8⟩)]) (res2:= .row 16 ((cQ a).map Ex.c)) U U U U U;have kb:=(se b C).pubRow;have g0:([a,b].map Ex.c)[(0:Int).toNat]?=some a.cs:=congrArg some (aN a);have g1:([a,b].map Ex.c)[(1:Int).toNat]?=some b.cs:=congrArg some (aN b);refine iA func171 ntmps171 (fun w0 E0=> ?_);(repeat' first|intro hb hp|(refine DR.is ?_;first|refine rA U U U U (qw _) (qw _) (by rw[lM,lM,fC];omega) (by rw[lM,lM];omega) U U ?_)|refine am ?_|refine ak ?_ ?_|fail)
     all_goals(refine L.only [2] ?_)
     all_goals(refine L.retok 2 22 2 U U U U ?_)
     all_goals exact L.ends U U (Sub.of_eq (congrArg (AV.row 2) (pA ..).symm)) (Wk.mk' (by intro id h;simp[keys] at h) .nil .nil (.cons U .nil))
   · rw[gW v s name n h];refine iA func171 ntmps171 (fun w0 E0=> ?_);by_cases h7:op=7
     · have q1:(op==7)=true:=by simpa using h7
       have q2:(((l.map Ex.c).length:Int)==2)=false:=by
        have:l.length≠2:=fun e=>h ⟨h7,e⟩
        rw[lM];simp;omega
       refine wz ?_;all_goals(refine L.only [2] ?_)
       all_goals(refine L.retok 2 24 2 U U U U ?_)
       all_goals exact L.ends U U (Sub.of_eq (congrArg (AV.row 2) (by rw[List.map_cons,List.map_nil,aN];rfl))) (Wk.mk' (by intro id h;simp[keys] at h) .nil .nil (.cons U .nil))
     · have q1:(op==7)=false:=by simpa using h7
       refine wz ?_;all_goals(refine L.only [2] ?_)
       all_goals(refine L.retok 2 24 2 U U U U ?_)
       all_goals exact L.ends U U (Sub.of_eq (congrArg (AV.row 2) (by rw[List.map_cons,List.map_nil,aN];rfl))) (Wk.mk' (by intro id h;simp[keys] at h) .nil .nil (.cons U .nil))
def Ex.op_mk(op:Int)(v:Val)(s name:Str)(n:Int)(l:List Ex):(Ex.mk op v s name n l).op=op:=rfl
def Ex.l_mk(op:Int)(v:Val)(s name:Str)(n:Int)(l:List Ex):(Ex.mk op v s name n l).l=l:=rfl
def bo(e:Ex):Int×Val×Int:=
 if(e.op≠5∧e.op≠6)∨e.l.length≠2 then(-1,af,0)
 else if(e.l.getD 0 nilE).op=2∧(e.l.getD 1 nilE).op=1∧aw (e.l.getD 1 nilE).v=true then((e.l.getD 0 nilE).n,(e.l.getD 1 nilE).v,e.op)
 else if(e.l.getD 0 nilE).op=1∧(e.l.getD 1 nilE).op=2∧aw (e.l.getD 0 nilE).v=true then((e.l.getD 1 nilE).n,(e.l.getD 0 nilE).v,if e.op=5 then e.op else -1)
 else(-1,af,0)
def Gq(e:Ex):CallA prog 172 [.agg (e.cs.map .iv)] [] [] [] (.tup [.iv (I (bo e).1),.agg ((bo e).2.1.c.map .iv),.iv (I (bo e).2.2)]):=by
 obtain⟨op,v,s,name,n,l⟩:=e;refine iA func172 ntmps172 (fun w0 E0=> ?_);by_cases h2:l.length=2
 · match l,h2 with
   | [a,b],_=>
   have g0:([a,b].map Ex.c)[(0:Int).toNat]?=some a.cs:=congrArg some (aN a);have g1:([a,b].map Ex.c)[(1:Int).toNat]?=some b.cs:=congrArg some (aN b);have ka:=aX a.v;have kb:=aX b.v;have eo:(Ex.mk op v s name n [a,b]).op=op:=rfl;have el:(Ex.mk op v s name n [a,b]).l= [a,b]:=rfl;have e0:([a,b]:List Ex).getD 0 nilE=a:=rfl;have e1:([a,b]:List Ex).getD 1 nilE=b:=rfl;have el2:([a,b]:List Ex).length=2:=rfl;have bm:bo (.mk op v s name n [a,b])=if op≠5∧op≠6 then(-1,af,0) else if a.op=2∧b.op=1∧aw b.v=true then(a.n,b.v,op) else if a.op=1∧b.op=2∧aw a.v=true then(b.n,a.v,if op=5 then op else -1) else(-1,af,0):=by
    rw[bo,eo,el,e0,e1,el2];simp only[ne_eq,not_true_eq_false,or_false]
   rw[bm];by_cases h5:op=5
   · rw[if_neg C];have q5:((Ex.mk op v s name n [a,b]).op !=5)=false:=by rw[eo];simp[*]
     have q6:((Ex.mk op v s name n [a,b]).op !=6)=true:=by rw[eo];simp[*]
     have p5:((Ex.mk op v s name n [a,b]).op==5)=true:=by rw[eo];simp[*]
     by_cases a2:a.op=2
     · have a2q:(a.op==2)=true:=by simp[*]
       have a1q:(a.op==1)=false:=by simp[*]
       rw[if_neg (c:=a.op=1∧_) (fun h=>by have:=h.1;omega)];by_cases b1:b.op=1
       · have b1q:(b.op==1)=true:=by simp[*]
         cases hg:aw b.v with
         |true=>rw[if_pos ⟨a2,b1,rfl⟩]
                refine wz ?_;all_goals exact L.endsIAI U U U U
         |false=>rw[if_neg (fun h=>by have:=h.2.2;cases this)]
                 refine wz ?_;all_goals exact L.endsIAI U U U U
       · have b1q:(b.op==1)=false:=by simp[*]
         rw[if_neg (fun h=>b1 h.2.1)];refine wz ?_;all_goals exact L.endsIAI U U U U
     have a2q:(a.op==2)=false:=by simp[*]
     rw[if_neg (c:=a.op=2∧_) (fun h=>a2 h.1)];by_cases a1:a.op=1
     · have a1q:(a.op==1)=true:=by simp[*]
       by_cases b2:b.op=2
       · have b2q:(b.op==2)=true:=by simp[*]
         cases hg:aw a.v with
         |true=>rw[if_pos ⟨a1,b2,rfl⟩,if_pos h5]
                refine wz ?_;all_goals exact L.endsIAI U U U U
         |false=>rw[if_neg (fun h=>by have:=h.2.2;cases this)]
                 refine wz ?_;all_goals exact L.endsIAI U U U U
       · have b2q:(b.op==2)=false:=by simp[*]
         rw[if_neg (fun h=>b2 h.2.1)];refine wz ?_;all_goals exact L.endsIAI U U U U
     have a1q:(a.op==1)=false:=by simp[*]
     rw[if_neg (fun h=>a1 h.1)];refine wz ?_;all_goals exact L.endsIAI U U U U
   by_cases h6:op=6
   · rw[if_neg C];have q5:((Ex.mk op v s name n [a,b]).op !=5)=true:=by rw[eo];simp[*]
     have q6:((Ex.mk op v s name n [a,b]).op !=6)=false:=by rw[eo];simp[*]
     have p5:((Ex.mk op v s name n [a,b]).op==5)=false:=by rw[eo];simp[*]
     by_cases a2:a.op=2
     · have a2q:(a.op==2)=true:=by simp[*]
       have a1q:(a.op==1)=false:=by simp[*]
       rw[if_neg (c:=a.op=1∧_) (fun h=>by have:=h.1;omega)];by_cases b1:b.op=1
       · have b1q:(b.op==1)=true:=by simp[*]
         cases hg:aw b.v with
         |true=>rw[if_pos ⟨a2,b1,rfl⟩]
                refine wz ?_;all_goals exact L.endsIAI U U U U
         |false=>rw[if_neg (fun h=>by have:=h.2.2;cases this)]
                 refine wz ?_;all_goals exact L.endsIAI U U U U
       · have b1q:(b.op==1)=false:=by simp[*]
         rw[if_neg (fun h=>b1 h.2.1)];refine wz ?_;all_goals exact L.endsIAI U U U U
     have a2q:(a.op==2)=false:=by simp[*]
     rw[if_neg (c:=a.op=2∧_) (fun h=>a2 h.1)];by_cases a1:a.op=1
     · have a1q:(a.op==1)=true:=by simp[*]
       by_cases b2:b.op=2
       · have b2q:(b.op==2)=true:=by simp[*]
         cases hg:aw a.v with
         |true=>rw[if_pos ⟨a1,b2,rfl⟩,if_neg h5]
                refine wz ?_;all_goals exact L.endsIAI U U U U
         |false=>rw[if_neg (fun h=>by have:=h.2.2;cases this)]
                 refine wz ?_;all_goals exact L.endsIAI U U U U
       · have b2q:(b.op==2)=false:=by simp[*]
         rw[if_neg (fun h=>b2 h.2.1)];refine wz ?_;all_goals exact L.endsIAI U U U U
     have a1q:(a.op==1)=false:=by simp[*]
     rw[if_neg (fun h=>a1 h.1)];refine wz ?_;all_goals exact L.endsIAI U U U U
   rw[if_pos ⟨h5,h6⟩];have q5:((Ex.mk op v s name n [a,b]).op !=5)=true:=by rw[eo];simp[*]
   have q6:((Ex.mk op v s name n [a,b]).op !=6)=true:=by rw[eo];simp[*]
   have p5:((Ex.mk op v s name n [a,b]).op==5)=false:=by rw[eo];simp[*]
   refine wz ?_;all_goals exact L.endsIAI U U U U
 · have q2:(((l.map Ex.c).length:Int) !=2)=true:=by rw[lM];simp;omega
   have e:bo (.mk op v s name n l)=(-1,af,0):=by rw[bo,if_pos (.inr h2)]
   rw[e];(repeat' first|intro hb hp|refine am ?_|refine ak ?_ ?_|fail)
   all_goals exact L.endsIAI U U U U
def tK(t:Tab)(k:Int):Str:=(t.cols.getD k.toNat ⟨[],0,false⟩).n
def oA(x:Idx)(v:Val):Way:=⟨x.n,aO x.n++de [v],(aO x.n++de [v])++ [255]⟩
def zD(t:Tab)(k:Int)(v:Val):List Idx→Way→Int→Way×Int
 | [],b,r=>(b,r)
 |x::l,b,r=>if(x.tb==t.n && (x.co==tK t k && decide (r<3)))=true then zD t k v l (oA x v) 3 else zD t k v l b r
def gI(c:Cat)(t:Tab)(k:Int)(v:Val)(op:Int)(b:Way)(r:Int):Way×Int:=
 if(k=0∧op=5)∧r<4 then(⟨[],ap t.n v,ap t.n v++ [0]⟩,4)
 else if op=5∧r<3 then zD t k v c.is b r
 else if(k=0∧op=6)∧r<2 then(⟨[],dn t.n,ap t.n v⟩,2)
 else if(k=0∧op= -1)∧r<2 then(⟨[],ap t.n v++ [0],(ei t.n).hi⟩,2)
 else(b,r)
def zZ(c:Cat)(t:Tab)(a:Int):List Ex→Way→Int→Way
 | [],b,_=>b
 |e::l,b,r=>
  if(bo e).2.2=0∨(bo e).1 - a<0∨(t.cols.length:Int)≤(bo e).1 - a then zZ c t a l b r
  else if(bo e).2.1.k=0 then⟨[],dn t.n,dn t.n⟩
  else zZ c t a l (gI c t ((bo e).1 - a) (bo e).2.1 (bo e).2.2 b r).1 (gI c t ((bo e).1 - a) (bo e).2.1 (bo e).2.2 b r).2
def bU(c:Cat)(t:Tab)(a:Int)(e:Ex):Way:=zZ c t a (cQ e) (ei t.n) 0
def CZ(t:Str)(v:Val):(ap t v).length≤t.length+12:=by
 have:=kZ [v];simp only[ap,dn,gV,lC,List.length_nil] at*;omega
def oT(c:Cat)(t:Tab)(a:Int)(e:Ex)(hps:(cQ e).length*104≤140737488355328)(ha0:0≤a)(ha:a≤1000)(hn: ∀p∈cQ e,-4611686018427387904≤(bo p).1∧(bo p).1≤4611686018427387904)
 (htn:t.n.length≤140737488355328) (htl:t.cols.length≤1000) (hil:c.is.length≤1000) (hin: ∀x∈c.is,x.n.length≤140737488355328):
 CallA prog 121 [.agg (c.c.map .iv),.agg (t.c.map .iv),aI a,.agg (e.cs.map .iv)] [] [] [] (.agg ((bU c t a e).c.map .iv)):=by
 have kp:=(se e hps).pubRow;have kA:=oY t.n htn;have kr:=uS t.n htn;unfold bU;generalize cQ e=ps at*
 generalize hW:zZ c t a ps (ei t.n) 0=W;refine iA func121 ntmps121 (fun w0 E0=> ?_);refine wz ?_;refine ae (ι:=Nat×Str×Str×Str×Int) (fun i=>⟨[(27,aI (i.1:Int)),(26,aI ((ps.map Ex.c).length:Int)),(25,.iv (.sl (ps.map Ex.c))),(10,aI i.2.2.2.2),(9,.ptr 9 0),(8,.ptr 8 0),(5,.ptr 5 0),(4,.ptr 4 0),(2,aI a)],
  [(9,⟨60,.l [aS i.2.1,aS i.2.2.1,aS i.2.2.2.1]⟩),(8,⟨60,.l [aS [],aS [],aS []]⟩),(5,⟨57,.l [aS t.n,.iv (.sl (t.cols.map Col.c))]⟩),(4,⟨47,.l [.iv (.sl (c.ts.map Tab.c)),.iv (.sl (c.is.map Idx.c))]⟩)],[]⟩) (fun i=>ps.length - i.1) (fun i=>zZ c t a (ps.drop i.1) ⟨i.2.1,i.2.2.1,i.2.2.2.1⟩ i.2.2.2.2=W) (i0:=(0,[],dn t.n,([114] ++t.n)++ [1],0)) ?_ (by exact hW) ?_
 · exact df
 rintro ⟨i,bi,bl,bh,r⟩ hI K hK;dsimp only at hI hK⊢;cases hx:ps[i]? with
 |none=>
  have hlt:=fa (l:=ps.map Ex.c) (bf hx);rw[dL (gO hx)] at hI;subst hI;refine wz ?_;all_goals refine bn ?_
  all_goals rfl
 |some x=>
  have hlt:=eZ (l:=ps.map Ex.c) (cq (f:=Ex.c) hx);have hlt':=eP hx;have g1:(ps.map Ex.c)[((i:Nat):Int).toNat]?=some [I x.op,I x.v.k,I x.v.n,S x.v.s,S x.s,S x.name,I x.n,.sl (x.l.map Ex.c)]:=by rw[iN,gP,hx];exact congrArg some (aN x)
  have kb:=Gq x;obtain⟨hn1,hn2⟩:=hn x (gE hx);rw[eS hx] at hI;unfold zZ at hI;generalize bo x=bd at*
  obtain⟨pl,v,op⟩:=bd;dsimp only at hI kb hn1 hn2;have kR:=jb t.n v htn;have hrk:=CZ t.n v;have hkl:(de [v]).length≤10:=kZ [v];have kK:=ov [v] sP;by_cases hs:op=0∨pl - a<0∨(t.cols.length:Int)≤pl - a
  · rw[if_pos hs] at hI;by_cases h1:op=0
    · have q1:(op==0)=true:=by simpa using h1
      refine wz ?_;refine hK _ (i+1,bi,bl,bh,r) hI oD ?_;exact df
    have q1:(op==0)=false:=by simpa using h1
    by_cases h2:pl - a<0
    · have q2:decide (pl - a<0)=true:=decide_eq_true h2;refine wz ?_;refine hK _ (i+1,bi,bl,bh,r) hI oD ?_;exact df
    · have q2:decide (pl - a<0)=false:=decide_eq_false h2;have q3:decide (((t.cols.map Col.c).length:Int)≤pl - a)=true:=decide_eq_true (by rw[lM];omega);refine wz ?_;refine hK _ (i+1,bi,bl,bh,r) hI oD ?_;exact df
  rw[if_neg hs] at hI;have q1:(op==0)=false:=by simp;omega
  have q2:decide (pl - a<0)=false:=decide_eq_false C;have q3:decide (((t.cols.map Col.c).length:Int)≤pl - a)=false:=decide_eq_false (by rw[lM];omega);by_cases hv:v.k=0
  · rw[if_pos hv] at hI;subst hI;have q4:(v.k==0)=true:=by simpa using hv
    refine wz ?_;all_goals refine bn ?_
    all_goals rfl
  rw[if_neg hv] at hI;have q4:(v.k==0)=false:=by simpa using hv
  have hK': ∀st' bi' bl' bh' r',gI c t (pl - a) v op ⟨bi,bl,bh⟩ r=(⟨bi',bl',bh'⟩,r')→Wk _ st' ⟨[(27,aI ((i+1:Nat):Int)),(26,aI ((ps.map Ex.c).length:Int)),(25,.iv (.sl (ps.map Ex.c))),(10,aI r'),(9,.ptr 9 0),(8,.ptr 8 0),(5,.ptr 5 0),(4,.ptr 4 0),(2,aI a)],
   [(9,⟨60,.l [aS bi',aS bl',aS bh']⟩),(8,⟨60,.l [aS [],aS [],aS []]⟩),(5,⟨57,.l [aS t.n,.iv (.sl (t.cols.map Col.c))]⟩),(4,⟨47,.l [.iv (.sl (c.ts.map Tab.c)),.iv (.sl (c.is.map Idx.c))]⟩)],[]⟩→L _ st' K:=fun st' bi' bl' bh' r' hq hw=>hK st' (i+1,bi',bl',bh',r') (by rw[hq] at hI;exact hI) oD hw
  clear hK hI;obtain⟨cc,hcc⟩: ∃cc,t.cols[(pl - a).toNat]?=some cc:=⟨_,gG C⟩
  have gk:(t.cols.map Col.c)[(pl - a).toNat]?=some [S cc.n,I cc.t,.im (.bool cc.m)]:=by rw[gP,hcc];rfl
  have hcn:tK t (pl - a)=cc.n:=by rw[tK,List.getD_eq_getElem?_getD,hcc];rfl
  have nz1:pl - a=0→(pl - a==0)=true:=fun h=>by rw[h];rfl
  have nz0: ¬(pl - a=0)→(pl - a==0)=false:=fun h=>by simpa using h
  by_cases h5:op=5
  · subst h5;have t5:((5:Int)==5)=true:=rfl;have t6:((5:Int)==6)=false:=rfl;have tm:((5:Int)== -1)=false:=rfl;by_cases hz:pl - a=0
    · have tz:=nz1 hz;by_cases h4:r<4
      · have t4:decide (r<4)=true:=decide_eq_true h4;clear kr kA;refine wz ?_;refine hK' _ [] (ap t.n v) (ap t.n v++ [0]) 4 (by rw[gI,if_pos ⟨⟨hz,rfl⟩,h4⟩]) ?_;exact df
      · have t4:decide (r<4)=false:=decide_eq_false h4;have t3:decide (r<3)=false:=decide_eq_false C;clear kr kA kR;refine wz ?_;refine hK' _ bi bl bh r (by rw[gI,if_neg (fun h=>h4 h.2),if_neg (fun h=>absurd h.2 C),if_neg (fun h=>absurd h.1.2 dD),if_neg (fun h=>absurd h.1.2 dD)]) ?_;exact df
    have tz:=nz0 hz;by_cases h3: ¬(r<3)
    · have t3:decide (r<3)=false:=decide_eq_false h3;clear kr kA kR;refine wz ?_;refine hK' _ bi bl bh r (by rw[gI,if_neg (fun h=>hz h.1.1),if_neg (fun h=>h3 h.2),if_neg (fun h=>absurd h.1.2 dD),if_neg (fun h=>absurd h.1.2 dD)]) ?_;exact df
    have h3:r<3:=C;have t3:decide (r<3)=true:=decide_eq_true h3;clear kr kA kR;refine wz ?_;have hst:gI c t (pl - a) v 5 ⟨bi,bl,bh⟩ r=zD t (pl - a) v c.is ⟨bi,bl,bh⟩ r:=by rw[gI,if_neg (fun h=>hz h.1.1),if_pos ⟨rfl,h3⟩]
    rw[hst] at hK';have hib:i<1353245619657:=C;clear hst hps hn hrk kp kb g1;generalize hZ:zD t (pl - a) v c.is ⟨bi,bl,bh⟩ r=Z at hK';refine ae (ι:=Nat×Str×Str×Str×Int) (fun j=>⟨[(92,aI (j.1:Int)),(91,aI ((c.is.map Idx.c).length:Int)),(90,.iv (.sl (c.is.map Idx.c))),(16,aI (pl - a)),(14,.ptr 14 0),(27,aI (i:Int)),(26,aI ((ps.map Ex.c).length:Int)),(25,.iv (.sl (ps.map Ex.c))),(10,aI j.2.2.2.2),(9,.ptr 9 0),(8,.ptr 8 0),(5,.ptr 5 0),(4,.ptr 4 0),(2,aI a)],
     [(14,⟨41,.l [aI v.k,aI v.n,aS v.s]⟩),(9,⟨60,.l [aS j.2.1,aS j.2.2.1,aS j.2.2.2.1]⟩),(8,⟨60,.l [aS [],aS [],aS []]⟩),(5,⟨57,.l [aS t.n,.iv (.sl (t.cols.map Col.c))]⟩),(4,⟨47,.l [.iv (.sl (c.ts.map Tab.c)),.iv (.sl (c.is.map Idx.c))]⟩)],[]⟩) (fun j=>c.is.length - j.1) (fun j=>zD t (pl - a) v (c.is.drop j.1) ⟨j.2.1,j.2.2.1,j.2.2.2.1⟩ j.2.2.2.2=Z) (i0:=(0,bi,bl,bh,r)) ?_ (by exact hZ) ?_
    · exact df
    clear hZ;rintro ⟨j,bi2,bl2,bh2,r2⟩ hJ K2 hK2;dsimp only at hJ hK2⊢;cases hy:c.is[j]? with
    |none=>
     have hlt2:=fa (l:=c.is.map Idx.c) (bf hy);rw[dL (gO hy)] at hJ;refine wz ?_;refine hK' _ _ _ _ _ hJ.symm (Wk.mk' (by intro id h;cases h) (wF (wF F7)) B4 .nil)
    |some y=>
     have hlt2:=eZ (l:=c.is.map Idx.c) (cq (f:=Idx.c) hy);have hlt2':=eP hy;have g2:(c.is.map Idx.c)[((j:Nat):Int).toNat]?=some [S y.n,S y.tb,S y.co]:=by rw[iN,gP,hy];rfl
     have hyn:=hin y (gE hy);have kE:=lV y.n hyn;have hEK:(aO y.n++de [v]).length≤y.n.length+12:=by simp only[aO,gV,lC,List.length_nil];omega
     have hel:(aO y.n).length≤y.n.length+2:=by simp only[aO,gV,lC,List.length_nil];omega
     rw[eS hy] at hJ;unfold zD at hJ;by_cases hc:(y.tb==t.n && (y.co==tK t (pl - a) && decide (r2<3)))=true
     · rw[if_pos hc] at hJ;rw[hcn] at hc;simp only[aE] at hc;obtain⟨c1,c2,c3⟩:=hc;refine wz ?_;refine hK2 _ (j+1,y.n,aO y.n++de [v],(aO y.n++de [v])++ [255],3) hJ oD ?_;exact df
     · rw[if_neg hc] at hJ;rw[hcn] at hc;(repeat' first|intro hb hp|refine am ?_|refine ak ?_ ?_|fail)
       all_goals first
        |(exfalso;apply hc;simp_all;done)
        |(refine hK2 _ (j+1,bi2,bl2,bh2,r2) hJ oD ?_
          exact df)
  have t5:(op==5)=false:=by simpa using h5
  by_cases hz: ¬(pl - a=0)
  · have tz:=nz0 hz;clear kr kA kR;refine wz ?_;refine hK' _ bi bl bh r (by rw[gI,if_neg (fun h=>hz h.1.1),if_neg (fun h=>h5 h.1),if_neg (fun h=>hz h.1.1),if_neg (fun h=>hz h.1.1)]) ?_;exact df
  have hz:pl - a=0:=Decidable.not_not.1 hz;have tz:=nz1 hz;by_cases h6:op=6
  · subst h6;have t6:((6:Int)==6)=true:=rfl;have tm:((6:Int)== -1)=false:=rfl;by_cases h2:r<2
    · have t2:decide (r<2)=true:=decide_eq_true h2;clear kA;refine wz ?_;refine hK' _ [] (dn t.n) (ap t.n v) 2 (by rw[gI,if_neg (fun h=>h5 h.1.2),if_neg (fun h=>h5 h.1),if_pos ⟨⟨hz,rfl⟩,h2⟩]) ?_;exact df
    · have t2:decide (r<2)=false:=decide_eq_false h2;clear kr kA kR;refine wz ?_;refine hK' _ bi bl bh r (by rw[gI,if_neg (fun h=>h5 h.1.2),if_neg (fun h=>h5 h.1),if_neg (fun h=>h2 h.2),if_neg (fun h=>absurd h.1.2 dD)]) ?_;exact df
  have t6:(op==6)=false:=by simpa using h6
  by_cases hm:op= -1
  · subst hm;have tm:((-1:Int)== -1)=true:=rfl;by_cases h2:r<2
    · have t2:decide (r<2)=true:=decide_eq_true h2;clear kr;refine wz ?_;refine hK' _ [] (ap t.n v++ [0]) (ei t.n).hi 2 (by rw[gI,if_neg (fun h=>h5 h.1.2),if_neg (fun h=>h5 h.1),if_neg (fun h=>h6 h.1.2),if_pos ⟨⟨hz,rfl⟩,h2⟩]) ?_;exact df
    · have t2:decide (r<2)=false:=decide_eq_false h2;clear kr kA kR;refine wz ?_;refine hK' _ bi bl bh r (by rw[gI,if_neg (fun h=>h5 h.1.2),if_neg (fun h=>h5 h.1),if_neg (fun h=>h6 h.1.2),if_neg (fun h=>h2 h.2)]) ?_;exact df
  have tm:(op== -1)=false:=by simpa using hm
  clear kr kA kR;refine wz ?_;refine hK' _ bi bl bh r (by rw[gI,if_neg (fun h=>h5 h.1.2),if_neg (fun h=>h5 h.1),if_neg (fun h=>h6 h.1.2),if_neg (fun h=>hm h.1.2)]) ?_;exact df
end Go.Proofs.Y
