/- Lemmas towards the law. Conditions: each one says its own. -/
import Derived.Test.YtnhmohbhgocbjaaGreatDoorZU7
set_option linter.all false
set_option maxHeartbeats 64000000
set_option maxRecDepth 100000
namespace Go.Abs
def L.endsIAI{P:Program}{c:C7}{st:St}{fn:Func}{T:AV}{rs:List ResultVar}{y u:IV}{cs:List AV}(ad:fn.results=rs.toArray)(hv:(st.ress P rs).map AV.pub.pubs=some [.iv y,.agg cs,.iv u])(hi:c.ins= [])(he:AV.tup [.iv y,.agg cs,.iv u] =T):L c st (bodyPost P fn (lj c [] [] T) .ret):=L.endsP (bx':= []) ad hv hi he
end Go.Abs
namespace Go.Proofs.Y
open Go.Abs Go.Proofs.Tryz
attribute [local irreducible] L Code.wp bodyPost Exit.then Exit.inBlock
def cQ:Ex->List Ex
 | .mk op v s name n [a,b] =>if op=7 then cQ a++cQ b else [.mk op v s name n [a,b]]
 | .mk op v s name n l=> [.mk op v s name n l]
def pj(v:A3)(s name:Str)(n:Int)(a b:Ex):cQ (.mk 7 v s name n [a,b])=cQ a++cQ b:=by rw[cQ,if_pos U]
def gW{op:Int}(v:A3)(s name:Str)(n:Int){l:List Ex}(h: ¬(op=7/\l.length=2)):cQ (.mk op v s name n l)= [.mk op v s name n l]:=by
 unfold cQ;split
 · rename_i a b T;cases T;rw[if_neg (fun e=>h ⟨e,rfl⟩)]
 · rename_i T;cases T;rfl
def rK: ∀(e:Ex) (hl:(cQ e).length*104<=140737488355328),CallA prog 171 [.agg (e.cs.map .iv)] [] [] [(2,⟨78,8⟩)] (.row 2 ((cQ e).map Ex.c))
 | .mk op v s name n l,hl=>by
   by_cases h:op=7/\l.length=2
   · obtain⟨rfl,h2⟩:=h
     match l,h2 with
     | [a,b],_=>
     rw[pj] at hl|-;rw[gV] at hl;have ka:=(rK a C).sws [(2,16)] (args2:= [.agg (a.cs.map .iv)]) (bx2:= []) (bx2':= []) (tk2':= [(16,⟨78,8⟩)]) (res2:= .row 16 ((cQ a).map Ex.c)) U U U U U;have kb:=(rK b C).pubRow;have g0:([a,b].map Ex.c)[(0:Int).toNat]?=some a.cs:=congrArg some (aN a);have g1:([a,b].map Ex.c)[(1:Int).toNat]?=some b.cs:=congrArg some (aN b);refine iA func171 ntmps171 (fun w0 E0=> ?_);(repeat' first|intro hb hp|(refine DR.is ?_;first|refine rh U U U U (qj _) (qj _) (by rw[lM,lM,fJ];omega) (by rw[lM,lM];omega) U U ?_)|refine am ?_|refine al ?_ ?_|fail)
     all_goals(refine L.only [2] ?_)
     all_goals(refine L.retok 2 22 2 U U U U ?_)
     all_goals exact L.ends U U (Sub.of_eq (congrArg (AV.row 2) (pA ..).symm)) (Wk.mk' (by intro id h;simp[keys] at h) .nil .nil (.cons U .nil))
   · rw[gW v s name n h];refine iA func171 ntmps171 (fun w0 E0=> ?_);by_cases T:op=7
     · have q1:(op==7)=true:=by simpa using T
       have q2:(((l.map Ex.c).length:Int)==2)=false:=by
        have:l.length≠2:=fun e=>h ⟨T,e⟩
        rw[lM];simp;omega
       refine wz ?_;all_goals(refine L.only [2] ?_)
       all_goals(refine L.retok 2 24 2 U U U U ?_)
       all_goals exact L.ends U U (Sub.of_eq (congrArg (AV.row 2) (by rw[List.map_cons,List.map_nil,aN];rfl))) (Wk.mk' (by intro id h;simp[keys] at h) .nil .nil (.cons U .nil))
     · have q1:(op==7)=false:=by simpa using T
       refine wz ?_;all_goals(refine L.only [2] ?_)
       all_goals(refine L.retok 2 24 2 U U U U ?_)
       all_goals exact L.ends U U (Sub.of_eq (congrArg (AV.row 2) (by rw[List.map_cons,List.map_nil,aN];rfl))) (Wk.mk' (by intro id h;simp[keys] at h) .nil .nil (.cons U .nil))
def Ex.op_mk(op:Int)(v:A3)(s name:Str)(n:Int)(l:List Ex):(Ex.mk op v s name n l).op=op:=rfl
def Ex.l_mk(op:Int)(v:A3)(s name:Str)(n:Int)(l:List Ex):(Ex.mk op v s name n l).l=l:=rfl
def bk(e:Ex):Int×A3×Int:=
 if(e.op≠5/\e.op≠6)\/e.l.length≠2 then(-1,af,0)
 else if(e.l.getD 0 nilE).op=2/\(e.l.getD 1 nilE).op=1/\au (e.l.getD 1 nilE).v=true then((e.l.getD 0 nilE).n,(e.l.getD 1 nilE).v,e.op)
 else if(e.l.getD 0 nilE).op=1/\(e.l.getD 1 nilE).op=2/\au (e.l.getD 0 nilE).v=true then((e.l.getD 1 nilE).n,(e.l.getD 0 nilE).v,if e.op=5 then e.op else -1)
 else(-1,af,0)
def FP(e:Ex):CallA prog 172 [.agg (e.cs.map .iv)] [] [] [] (.tup [.iv (I (bk e).1),.agg ((bk e).2.1.c.map .iv),.iv (I (bk e).2.2)]):=by
 obtain⟨op,v,s,name,n,l⟩:=e;refine iA func172 ntmps172 (fun w0 E0=> ?_);by_cases h2:l.length=2
 · match l,h2 with
   | [a,b],_=>
   have g0:([a,b].map Ex.c)[(0:Int).toNat]?=some a.cs:=congrArg some (aN a);have g1:([a,b].map Ex.c)[(1:Int).toNat]?=some b.cs:=congrArg some (aN b);have ka:=aY a.v;have kb:=aY b.v;have eo:(Ex.mk op v s name n [a,b]).op=op:=rfl;have el:(Ex.mk op v s name n [a,b]).l= [a,b]:=rfl;have e0:([a,b]:List Ex).getD 0 nilE=a:=rfl;have e1:([a,b]:List Ex).getD 1 nilE=b:=rfl;have a0:([a,b]:List Ex).length=2:=rfl;have bm:bk (.mk op v s name n [a,b])=if op≠5/\op≠6 then(-1,af,0) else if a.op=2/\b.op=1/\au b.v=true then(a.n,b.v,op) else if a.op=1/\b.op=2/\au a.v=true then(b.n,a.v,if op=5 then op else -1) else(-1,af,0):=by
    rw[bk,eo,el,e0,e1,a0];simp only[ne_eq,not_true_eq_false,or_false]
   rw[bm];by_cases h5:op=5
   · rw[if_neg C];have q5:((Ex.mk op v s name n [a,b]).op !=5)=false:=by rw[eo];simp[*]
     have q6:((Ex.mk op v s name n [a,b]).op !=6)=true:=by rw[eo];simp[*]
     have p5:((Ex.mk op v s name n [a,b]).op==5)=true:=by rw[eo];simp[*]
     by_cases a2:a.op=2
     · have ad:(a.op==2)=true:=by simp[*]
       have T:(a.op==1)=false:=by simp[*]
       rw[if_neg (c:=a.op=1/\_) (fun h=>by have:=h.1;omega)];by_cases b1:b.op=1
       · have ar:(b.op==1)=true:=by simp[*]
         cases hg:au b.v with
         |true=>rw[if_pos ⟨a2,b1,rfl⟩]
                refine wz ?_;all_goals exact L.endsIAI U U U U
         |false=>rw[if_neg (fun h=>by have:=h.2.2;cases this)]
                 refine wz ?_;all_goals exact L.endsIAI U U U U
       · have ar:(b.op==1)=false:=by simp[*]
         rw[if_neg (fun h=>b1 h.2.1)];refine wz ?_;all_goals exact L.endsIAI U U U U
     have ad:(a.op==2)=false:=by simp[*]
     rw[if_neg (c:=a.op=2/\_) (fun h=>a2 h.1)];by_cases a1:a.op=1
     · have T:(a.op==1)=true:=by simp[*]
       by_cases b2:b.op=2
       · have aR:(b.op==2)=true:=by simp[*]
         cases hg:au a.v with
         |true=>rw[if_pos ⟨a1,b2,rfl⟩,if_pos h5]
                refine wz ?_;all_goals exact L.endsIAI U U U U
         |false=>rw[if_neg (fun h=>by have:=h.2.2;cases this)]
                 refine wz ?_;all_goals exact L.endsIAI U U U U
       · have aR:(b.op==2)=false:=by simp[*]
         rw[if_neg (fun h=>b2 h.2.1)];refine wz ?_;all_goals exact L.endsIAI U U U U
     have T:(a.op==1)=false:=by simp[*]
     rw[if_neg (fun h=>a1 h.1)];refine wz ?_;all_goals exact L.endsIAI U U U U
   by_cases h6:op=6
   · rw[if_neg C];have q5:((Ex.mk op v s name n [a,b]).op !=5)=true:=by rw[eo];simp[*]
     have q6:((Ex.mk op v s name n [a,b]).op !=6)=false:=by rw[eo];simp[*]
     have p5:((Ex.mk op v s name n [a,b]).op==5)=false:=by rw[eo];simp[*]
     by_cases a2:a.op=2
     · have ad:(a.op==2)=true:=by simp[*]
       have T:(a.op==1)=false:=by simp[*]
       rw[if_neg (c:=a.op=1/\_) (fun h=>by have:=h.1;omega)];by_cases b1:b.op=1
       · have ar:(b.op==1)=true:=by simp[*]
         cases hg:au b.v with
         |true=>rw[if_pos ⟨a2,b1,rfl⟩]
                refine wz ?_;all_goals exact L.endsIAI U U U U
         |false=>rw[if_neg (fun h=>by have:=h.2.2;cases this)]
                 refine wz ?_;all_goals exact L.endsIAI U U U U
       · have ar:(b.op==1)=false:=by simp[*]
         rw[if_neg (fun h=>b1 h.2.1)];refine wz ?_;all_goals exact L.endsIAI U U U U
     have ad:(a.op==2)=false:=by simp[*]
     rw[if_neg (c:=a.op=2/\_) (fun h=>a2 h.1)];by_cases a1:a.op=1
     · have T:(a.op==1)=true:=by simp[*]
       by_cases b2:b.op=2
       · have aR:(b.op==2)=true:=by simp[*]
         cases hg:au a.v with
         |true=>rw[if_pos ⟨a1,b2,rfl⟩,if_neg h5]
                refine wz ?_;all_goals exact L.endsIAI U U U U
         |false=>rw[if_neg (fun h=>by have:=h.2.2;cases this)]
                 refine wz ?_;all_goals exact L.endsIAI U U U U
       · have aR:(b.op==2)=false:=by simp[*]
         rw[if_neg (fun h=>b2 h.2.1)];refine wz ?_;all_goals exact L.endsIAI U U U U
     have T:(a.op==1)=false:=by simp[*]
     rw[if_neg (fun h=>a1 h.1)];refine wz ?_;all_goals exact L.endsIAI U U U U
   rw[if_pos ⟨h5,h6⟩];have q5:((Ex.mk op v s name n [a,b]).op !=5)=true:=by rw[eo];simp[*]
   have q6:((Ex.mk op v s name n [a,b]).op !=6)=true:=by rw[eo];simp[*]
   have p5:((Ex.mk op v s name n [a,b]).op==5)=false:=by rw[eo];simp[*]
   refine wz ?_;all_goals exact L.endsIAI U U U U
 · have q2:(((l.map Ex.c).length:Int) !=2)=true:=by rw[lM];simp;omega
   have e:bk (.mk op v s name n l)=(-1,af,0):=by rw[bk,if_pos (.inr h2)]
   rw[e];(repeat' first|intro hb hp|refine am ?_|refine al ?_ ?_|fail)
   all_goals exact L.endsIAI U U U U
def tj(t:A4)(k:Int):Str:=(t.cols.getD k.toNat ⟨[],0,false⟩).n
def oi(x:A7)(v:A3):Way:=⟨x.n,aO x.n++de [v],(aO x.n++de [v])++ [255]⟩
def zb(t:A4)(k:Int)(v:A3):List A7->Way->Int->Way×Int
 | [],b,r=>(b,r)
 |x::l,b,r=>if(x.tb==t.n && (x.co==tj t k && decide (r<3)))=true then zb t k v l (oi x v) 3 else zb t k v l b r
def gI(c:B0)(t:A4)(k:Int)(v:A3)(op:Int)(b:Way)(r:Int):Way×Int:=
 if(k=0/\op=5)/\r<4 then(⟨[],ap t.n v,ap t.n v++ [0]⟩,4)
 else if op=5/\r<3 then zb t k v c.is b r
 else if(k=0/\op=6)/\r<2 then(⟨[],dm t.n,ap t.n v⟩,2)
 else if(k=0/\op= -1)/\r<2 then(⟨[],ap t.n v++ [0],(eh t.n).hi⟩,2)
 else(b,r)
def zy(c:B0)(t:A4)(a:Int):List Ex->Way->Int->Way
 | [],b,_=>b
 |e::l,b,r=>
  if(bk e).2.2=0\/(bk e).1 - a<0\/(t.cols.length:Int)<=(bk e).1 - a then zy c t a l b r
  else if(bk e).2.1.k=0 then⟨[],dm t.n,dm t.n⟩
  else zy c t a l (gI c t ((bk e).1 - a) (bk e).2.1 (bk e).2.2 b r).1 (gI c t ((bk e).1 - a) (bk e).2.1 (bk e).2.2 b r).2
def bO(c:B0)(t:A4)(a:Int)(e:Ex):Way:=zy c t a (cQ e) (eh t.n) 0
def CB(t:Str)(v:A3):(ap t v).length<=t.length+12:=by
 have:=kV [v];simp only[ap,dm,gV,lC,List.length_nil] at*;omega
def oL(c:B0)(t:A4)(a:Int)(e:Ex)(a2:(cQ e).length*104<=140737488355328)(b4:0<=a)(ha:a<=1000)(hn: ∀p∈cQ e,-4611686018427387904<=(bk p).1/\(bk p).1<=4611686018427387904)
 (a0:t.n.length<=140737488355328) (b5:t.cols.length<=1000) (b6:c.is.length<=1000) (a9: ∀x∈c.is,x.n.length<=140737488355328):
 CallA prog 121 [.agg (c.c.map .iv),.agg (t.c.map .iv),aI a,.agg (e.cs.map .iv)] [] [] [] (.agg ((bO c t a e).c.map .iv)):=by
 have kp:=(rK e a2).pubRow;have kA:=oR t.n a0;have kr:=uB t.n a0;unfold bO;generalize cQ e=ps at*
 generalize hW:zy c t a ps (eh t.n) 0=W;refine iA func121 ntmps121 (fun w0 E0=> ?_);refine wz ?_;refine ae (ι:=Nat×Str×Str×Str×Int) (fun i=>⟨[(27,aI (i.1:Int)),(26,aI ((ps.map Ex.c).length:Int)),(25,.iv (.sl (ps.map Ex.c))),(10,aI i.2.2.2.2),(9,.ptr 9 0),(8,.ptr 8 0),(5,.ptr 5 0),(4,.ptr 4 0),(2,aI a)],
  [(9,⟨60,.l [aS i.2.1,aS i.2.2.1,aS i.2.2.2.1]⟩),(8,⟨60,.l [aS [],aS [],aS []]⟩),(5,⟨57,.l [aS t.n,.iv (.sl (t.cols.map B8.c))]⟩),(4,⟨47,.l [.iv (.sl (c.ts.map A4.c)),.iv (.sl (c.is.map A7.c))]⟩)],[]⟩) (fun i=>ps.length - i.1) (fun i=>zy c t a (ps.drop i.1) ⟨i.2.1,i.2.2.1,i.2.2.2.1⟩ i.2.2.2.2=W) (i0:=(0,[],dm t.n,([114] ++t.n)++ [1],0)) ?_ (by exact hW) ?_
 · exact df
 rintro ⟨i,bi,bl,bh,r⟩ hI K hK;dsimp only at hI hK|-;cases hx:ps[i]? with
 |none=>
  have ba:=gc (l:=ps.map Ex.c) (bz hx);rw[dL (gO hx)] at hI;subst hI;refine wz ?_;all_goals refine aU ?_
  all_goals rfl
 |some x=>
  have ba:=fZ (l:=ps.map Ex.c) (cM (f:=Ex.c) hx);have b3:=fM hx;have g1:(ps.map Ex.c)[((i:Nat):Int).toNat]?=some [I x.op,I x.v.k,I x.v.n,S x.v.s,S x.s,S x.name,I x.n,.sl (x.l.map Ex.c)]:=by rw[iN,gP,hx];exact congrArg some (aN x)
  have kb:=FP x;obtain⟨bm,bp⟩:=hn x (gE hx);rw[fu hx] at hI;unfold zy at hI;generalize bk x=bd at*
  obtain⟨pl,v,op⟩:=bd;dsimp only at hI kb bm bp;have kR:=ja t.n v a0;have bP:=CB t.n v;have b7:(de [v]).length<=10:=kV [v];have kK:=oe [v] sP;by_cases hs:op=0\/pl - a<0\/(t.cols.length:Int)<=pl - a
  · rw[if_pos hs] at hI;by_cases h1:op=0
    · have q1:(op==0)=true:=by simpa using h1
      refine wz ?_;refine hK _ (i+1,bi,bl,bh,r) hI oD ?_;exact df
    have q1:(op==0)=false:=by simpa using h1
    by_cases h2:pl - a<0
    · have q2:decide (pl - a<0)=true:=decide_eq_true h2;refine wz ?_;refine hK _ (i+1,bi,bl,bh,r) hI oD ?_;exact df
    · have q2:decide (pl - a<0)=false:=decide_eq_false h2;have q3:decide (((t.cols.map B8.c).length:Int)<=pl - a)=true:=decide_eq_true (by rw[lM];omega);refine wz ?_;refine hK _ (i+1,bi,bl,bh,r) hI oD ?_;exact df
  rw[if_neg hs] at hI;have q1:(op==0)=false:=by simp;omega
  have q2:decide (pl - a<0)=false:=decide_eq_false C;have q3:decide (((t.cols.map B8.c).length:Int)<=pl - a)=false:=decide_eq_false (by rw[lM];omega);by_cases hv:v.k=0
  · rw[if_pos hv] at hI;subst hI;have q4:(v.k==0)=true:=by simpa using hv
    refine wz ?_;all_goals refine aU ?_
    all_goals rfl
  rw[if_neg hv] at hI;have q4:(v.k==0)=false:=by simpa using hv
  have T: ∀st' ad ar aR r',gI c t (pl - a) v op ⟨bi,bl,bh⟩ r=(⟨ad,ar,aR⟩,r')->Wk _ st' ⟨[(27,aI ((i+1:Nat):Int)),(26,aI ((ps.map Ex.c).length:Int)),(25,.iv (.sl (ps.map Ex.c))),(10,aI r'),(9,.ptr 9 0),(8,.ptr 8 0),(5,.ptr 5 0),(4,.ptr 4 0),(2,aI a)],
   [(9,⟨60,.l [aS ad,aS ar,aS aR]⟩),(8,⟨60,.l [aS [],aS [],aS []]⟩),(5,⟨57,.l [aS t.n,.iv (.sl (t.cols.map B8.c))]⟩),(4,⟨47,.l [.iv (.sl (c.ts.map A4.c)),.iv (.sl (c.is.map A7.c))]⟩)],[]⟩->L _ st' K:=fun st' ad ar aR r' hq hw=>hK st' (i+1,ad,ar,aR,r') (by rw[hq] at hI;exact hI) oD hw
  clear hK hI;obtain⟨cc,a3⟩: ∃cc,t.cols[(pl - a).toNat]?=some cc:=⟨_,gG C⟩
  have gk:(t.cols.map B8.c)[(pl - a).toNat]?=some [S cc.n,I cc.t,.im (.bool cc.m)]:=by rw[gP,a3];rfl
  have a4:tj t (pl - a)=cc.n:=by rw[tj,List.getD_eq_getElem?_getD,a3];rfl
  have a5:pl - a=0->(pl - a==0)=true:=fun h=>by rw[h];rfl
  have a6: ¬(pl - a=0)->(pl - a==0)=false:=fun h=>by simpa using h
  by_cases h5:op=5
  · subst h5;have t5:((5:Int)==5)=true:=rfl;have t6:((5:Int)==6)=false:=rfl;have tm:((5:Int)== -1)=false:=rfl;by_cases hz:pl - a=0
    · have tz:=a5 hz;by_cases h4:r<4
      · have t4:decide (r<4)=true:=decide_eq_true h4;clear kr kA;refine wz ?_;refine T _ [] (ap t.n v) (ap t.n v++ [0]) 4 (by rw[gI,if_pos ⟨⟨hz,rfl⟩,h4⟩]) ?_;exact df
      · have t4:decide (r<4)=false:=decide_eq_false h4;have t3:decide (r<3)=false:=decide_eq_false C;clear kr kA kR;refine wz ?_;refine T _ bi bl bh r (by rw[gI,if_neg (fun h=>h4 h.2),if_neg (fun h=>absurd h.2 C),if_neg (fun h=>absurd h.1.2 dD),if_neg (fun h=>absurd h.1.2 dD)]) ?_;exact df
    have tz:=a6 hz;by_cases h3: ¬(r<3)
    · have t3:decide (r<3)=false:=decide_eq_false h3;clear kr kA kR;refine wz ?_;refine T _ bi bl bh r (by rw[gI,if_neg (fun h=>hz h.1.1),if_neg (fun h=>h3 h.2),if_neg (fun h=>absurd h.1.2 dD),if_neg (fun h=>absurd h.1.2 dD)]) ?_;exact df
    have h3:r<3:=C;have t3:decide (r<3)=true:=decide_eq_true h3;clear kr kA kR;refine wz ?_;have a7:gI c t (pl - a) v 5 ⟨bi,bl,bh⟩ r=zb t (pl - a) v c.is ⟨bi,bl,bh⟩ r:=by rw[gI,if_neg (fun h=>hz h.1.1),if_pos ⟨rfl,h3⟩]
    rw[a7] at T;have b8:i<1353245619657:=C;clear a7 a2 hn bP kp kb g1;generalize hZ:zb t (pl - a) v c.is ⟨bi,bl,bh⟩ r=Z at T;refine ae (ι:=Nat×Str×Str×Str×Int) (fun j=>⟨[(92,aI (j.1:Int)),(91,aI ((c.is.map A7.c).length:Int)),(90,.iv (.sl (c.is.map A7.c))),(16,aI (pl - a)),(14,.ptr 14 0),(27,aI (i:Int)),(26,aI ((ps.map Ex.c).length:Int)),(25,.iv (.sl (ps.map Ex.c))),(10,aI j.2.2.2.2),(9,.ptr 9 0),(8,.ptr 8 0),(5,.ptr 5 0),(4,.ptr 4 0),(2,aI a)],
     [(14,⟨41,.l [aI v.k,aI v.n,aS v.s]⟩),(9,⟨60,.l [aS j.2.1,aS j.2.2.1,aS j.2.2.2.1]⟩),(8,⟨60,.l [aS [],aS [],aS []]⟩),(5,⟨57,.l [aS t.n,.iv (.sl (t.cols.map B8.c))]⟩),(4,⟨47,.l [.iv (.sl (c.ts.map A4.c)),.iv (.sl (c.is.map A7.c))]⟩)],[]⟩) (fun j=>c.is.length - j.1) (fun j=>zb t (pl - a) v (c.is.drop j.1) ⟨j.2.1,j.2.2.1,j.2.2.2.1⟩ j.2.2.2.2=Z) (i0:=(0,bi,bl,bh,r)) ?_ (by exact hZ) ?_
    · exact df
    clear hZ;rintro ⟨j,bR,bS,bW,r2⟩ hJ K2 a1;dsimp only at hJ a1|-;cases hy:c.is[j]? with
    |none=>
     have a8:=gc (l:=c.is.map A7.c) (bz hy);rw[dL (gO hy)] at hJ;refine wz ?_;refine T _ _ _ _ _ hJ.symm (Wk.mk' (by intro id h;cases h) (wF (wF F7)) B4 .nil)
    |some y=>
     have a8:=fZ (l:=c.is.map A7.c) (cM (f:=A7.c) hy);have b1:=fM hy;have g2:(c.is.map A7.c)[((j:Nat):Int).toNat]?=some [S y.n,S y.tb,S y.co]:=by rw[iN,gP,hy];rfl
     have b2:=a9 y (gE hy);have kE:=lN y.n b2;have b9:(aO y.n++de [v]).length<=y.n.length+12:=by simp only[aO,gV,lC,List.length_nil];omega
     have cb:(aO y.n).length<=y.n.length+2:=by simp only[aO,gV,lC,List.length_nil];omega
     rw[fu hy] at hJ;unfold zb at hJ;by_cases hc:(y.tb==t.n && (y.co==tj t (pl - a) && decide (r2<3)))=true
     · rw[if_pos hc] at hJ;rw[a4] at hc;simp only[aE] at hc;obtain⟨c1,c2,c3⟩:=hc;refine wz ?_;refine a1 _ (j+1,y.n,aO y.n++de [v],(aO y.n++de [v])++ [255],3) hJ oD ?_;exact df
     · rw[if_neg hc] at hJ;rw[a4] at hc;(repeat' first|intro hb hp|refine am ?_|refine al ?_ ?_|fail)
       all_goals first
        |(exfalso;apply hc;simp_all;done)
        |(refine a1 _ (j+1,bR,bS,bW,r2) hJ oD ?_
          exact df)
  have t5:(op==5)=false:=by simpa using h5
  by_cases hz: ¬(pl - a=0)
  · have tz:=a6 hz;clear kr kA kR;refine wz ?_;refine T _ bi bl bh r (by rw[gI,if_neg (fun h=>hz h.1.1),if_neg (fun h=>h5 h.1),if_neg (fun h=>hz h.1.1),if_neg (fun h=>hz h.1.1)]) ?_;exact df
  have hz:pl - a=0:=Decidable.not_not.1 hz;have tz:=a5 hz;by_cases h6:op=6
  · subst h6;have t6:((6:Int)==6)=true:=rfl;have tm:((6:Int)== -1)=false:=rfl;by_cases h2:r<2
    · have t2:decide (r<2)=true:=decide_eq_true h2;clear kA;refine wz ?_;refine T _ [] (dm t.n) (ap t.n v) 2 (by rw[gI,if_neg (fun h=>h5 h.1.2),if_neg (fun h=>h5 h.1),if_pos ⟨⟨hz,rfl⟩,h2⟩]) ?_;exact df
    · have t2:decide (r<2)=false:=decide_eq_false h2;clear kr kA kR;refine wz ?_;refine T _ bi bl bh r (by rw[gI,if_neg (fun h=>h5 h.1.2),if_neg (fun h=>h5 h.1),if_neg (fun h=>h2 h.2),if_neg (fun h=>absurd h.1.2 dD)]) ?_;exact df
  have t6:(op==6)=false:=by simpa using h6
  by_cases hm:op= -1
  · subst hm;have tm:((-1:Int)== -1)=true:=rfl;by_cases h2:r<2
    · have t2:decide (r<2)=true:=decide_eq_true h2;clear kr;refine wz ?_;refine T _ [] (ap t.n v++ [0]) (eh t.n).hi 2 (by rw[gI,if_neg (fun h=>h5 h.1.2),if_neg (fun h=>h5 h.1),if_neg (fun h=>h6 h.1.2),if_pos ⟨⟨hz,rfl⟩,h2⟩]) ?_;exact df
    · have t2:decide (r<2)=false:=decide_eq_false h2;clear kr kA kR;refine wz ?_;refine T _ bi bl bh r (by rw[gI,if_neg (fun h=>h5 h.1.2),if_neg (fun h=>h5 h.1),if_neg (fun h=>h6 h.1.2),if_neg (fun h=>h2 h.2)]) ?_;exact df
  have tm:(op== -1)=false:=by simpa using hm
  clear kr kA kR;refine wz ?_;refine T _ bi bl bh r (by rw[gI,if_neg (fun h=>h5 h.1.2),if_neg (fun h=>h5 h.1),if_neg (fun h=>h6 h.1.2),if_neg (fun h=>hm h.1.2)]) ?_;exact df
end Go.Proofs.Y
