/- Lemmas towards the law. Conditions: each one says its own. -/
import Derived.Test.YtnhmohbhgocbjaaGreatDoorZT19
set_option linter.all false
set_option maxHeartbeats 64000000
set_option maxRecDepth 100000
namespace Go.Proofs.Y
open Go.Abs Go.Proofs.Tryz
attribute [local irreducible] L Code.wp bodyPost Exit.then Exit.inBlock
def b6(es:List (List IV))(hk: ∀e∈es,e.length=3)(hl:es.length<=1000000):
 CallA prog 49 [.iv (.sl es)] [] [] [] (.iv (.sl es)):=by
 by_cases J:es= []
 · subst J;refine iA func49 ntmps49 (fun w0 E0=> ?_);(repeat' first|intro T hp|apply jW;rfl;rfl;rfl;rintro (_|_)|(refine LW.is ?_;first|apply dA;rfl;rfl;rfl;rfl;rfl|apply ag;rfl;apply qF;rfl;exact Sub.bslE _ _;rfl)|refine am ?_|refine ak ?_ ?_|fail)
   all_goals(apply L.ends;rfl;rfl;(first|exact Sub.nils|exact Sub.emp);exact wL)
 · have hm:es.length<=maxLen:=by rw[fC];omega
   have T:es.length*48<=140737488355328:=C;refine iA func49 ntmps49 (fun w0 E0=> ?_);(repeat' first|intro T hp|(refine LW.is ?_;first|apply ag;rfl;apply ju;rfl;rfl;exact J|apply dA;rfl;rfl;rfl;rfl;rfl|apply jv 1000;rfl;rfl;rfl;exact hk;exact J;exact hm;exact T;rfl)|refine am ?_|refine ak ?_ ?_|fail)
   all_goals(refine L.pubS 1000 2 (es:=es) (k:=3) U U hk dD J U U .here ?_)
   all_goals(apply L.ends;rfl;rfl;exact fR;exact wL)
def b7{gs:au}(c:Cat)(ps:List Pg)(n:Int)(a0:c.ts.length<=1000)(a1:c.is.length<=1000)(ad: ∀t∈c.ts,t.cols.length<=1000):
 CallG gs prog 23 [.ptr 1010 0] [(1010,bQ c ps n)] [(1010,bQ c ps n)] [] (.agg (c.c.map .iv)):=by
 have kx:=b6 (c.is.map Idx.c) (fun e he=>by obtain⟨y,_,rfl⟩:=mM he;rfl) (by rw[lM];omega);refine iG func23 ntmps23 (fun w0 E0 hG=> ?_);refine wz ?_;refine L.adoptB 3 108 57 2 U sP U U (.cons .here (.cons .same .nil)) ?_;refine ae (ι:=Nat) (fun i=>⟨[(22,aI (i:Int)),(21,aI ((c.ts.map Tab.c).length:Int)),(20,.iv (.sl (c.ts.map Tab.c))),(2,.ptr 2 0),(3,.ptr 3 0)],
  [(1010,bQ c ps n),(2,⟨47,.l [.nils,.nils]⟩),(3,⟨47,.l [.row 108 ((c.ts.take i).map Tab.c),.iv (.sl (c.is.map Idx.c))]⟩)],[(108,⟨57,2⟩)]⟩) (fun i=>c.ts.length - i) (fun i=>True) (i0:=0) ?_ trivial ?_
 · exact wL
 intro i _ K hK;cases T:c.ts[i]? with
 |none=>
  have ar:=fa (l:=c.ts.map Tab.c) (bf T);rw[bc T];clear hK;refine wz ?_;all_goals(apply L.ends;rfl;rfl;exact Sub.agg (.cons (Sub.row _ _) fS);exact wL)
 |some t=>
  have ar:=eZ (l:=c.ts.map Tab.c) (cq (f:=Tab.c) T);have aR:=eP T;have a2:=ad t (gE T);have g1:(c.ts.map Tab.c)[((i:Nat):Int).toNat]?=some [S t.n,.sl (t.cols.map Col.c)]:=by rw[iN,gP,T];rfl
  have n1:(c.ts.take (i+1)).map Tab.c=(c.ts.take i).map Tab.c++ [[S t.n,.sl (t.cols.map Col.c)]]:=by rw[dg T,pA];rfl
  have l1:((c.ts.take i).map Tab.c).length=i:=by simp;omega
  have k1: ∀e∈(c.ts.take i).map Tab.c,e.length=2:=fun e he=>by obtain⟨y,_,rfl⟩:=mM he;rfl
  have kc:=Cc (t.cols.map Col.c) (fun e he=>by obtain⟨y,_,rfl⟩:=mM he;rfl) (by rw[lM];omega);generalize (c.ts.take i).map Tab.c=es at*
  clear ad;(repeat' first|intro hb hp|(refine LW.is ?_;first|apply bC;rfl;rfl;rfl;rfl;exact k1;(first|exact J U|exact bz U bK);(simp[maxLen,ah,l1];omega);(simp[ah,l1];omega);rfl;rfl)|refine am ?_|refine ak ?_ ?_|fail)
  refine L.onlyS [22,21,20,2,3] [1010,2,3] U ?_;refine wN 3 34 108 U sP U U U (.cons .row (.cons .same .nil)) ?_;refine hK _ (i+1) trivial C (Wk.mk' kK F5 (wB (wB (.cons U U (Subs.cons (Sub.of_eq (congrArg (AV.row 108) n1.symm)) fS) .nil))) (.cons U .nil))
def j7(x:Pr):List Str:= [x.1,x.2]
def j5(ps:List Pg):List Str:=(ax ps).flatMap j7
def e8{ps:List Pg}{i:Nat}{p:Pg}(h:ps[i]?=some p):j5 (ps.take (i+1))=j5 (ps.take i)++p.prs.flatMap j7:=by
 rw[j5,j5,dg h,ax,ax,List.flatMap_append,List.flatMap_append];simp
def j2: ∀l:List Pr,(l.flatMap j7).length=2*l.length
 | [] =>rfl
 |x::l=>by rw[List.flatMap_cons,gV,j2 l,lC];simp[j7];omega
def e9(ps:List Pg)(i:Nat):(ax (ps.take i)).length<=(ax ps).length:=by
 conv=>rhs;rw[<-List.take_append_drop i ps,ax,List.flatMap_append,gV]
 exact Nat.le_add_right _ _
def g8(ps:List Pg)(a5:ps.length<=1000000)(ad: ∀p∈ps,Dm p)(a9:(ax ps).length<=1000000):
 CallA prog 63 [.agg [.iv (.sl (ps.map Pg.c))]] [] [] [] (.iv (.sl ((j5 ps).map Str.c))):=by
 refine iA func63 ntmps63 (fun w0 E0=> ?_);refine wz ?_;refine L.adopt 3 (s:=3) (t:=9) (k:=1) U U U ?_;refine ae (ι:=Nat) (fun i=>⟨[(11,aI (i:Int)),(10,aI ((ps.map Pg.c).length:Int)),(9,.iv (.sl (ps.map Pg.c))),(3,.row 3 ((j5 (ps.take i)).map Str.c))],[],[(3,⟨9,1⟩)]⟩) (fun i=>ps.length - i) (fun i=>True) (i0:=0) ?_ trivial ?_
 · exact wL
 intro i _ K hK;cases T:ps[i]? with
 |none=>
  have a0:=fa (l:=ps.map Pg.c) (bf T);rw[bc T];clear hK;refine wz ?_;all_goals refine bn ?_
  all_goals rfl
 |some p=>
  have a0:=eZ (l:=ps.map Pg.c) (cq (f:=Pg.c) T);have a4:=eP T;obtain⟨_,ba,bd⟩:=ad p (gE T);have g1:(ps.map Pg.c)[((i:Nat):Int).toNat]?=some [.sl (p.ks.map Str.c),.sl (p.vs.map Str.c)]:=by rw[iN,gP,T];rfl
  have hF:=e8 T;have a1:p.prs.length=p.ks.length:=by rw[Pg.prs,List.length_zip];omega
  have a2:(j5 (ps.take i)).length+2*p.prs.length<=2000000:=by
   have h1:=j2 (ax (ps.take (i+1)));have h2:=e9 ps (i+1);have h3:(j5 (ps.take (i+1))).length=(j5 (ps.take i)).length+2*p.prs.length:=by rw[hF,gV,j2]
   rw[j5] at h3;omega
  generalize j5 (ps.take i)=F at*
  clear ad;refine wz ?_;refine ae (ι:=Nat) (fun j=>⟨[(18,aI (j:Int)),(17,aI ((p.ks.map Str.c).length:Int)),(16,.iv (.sl (p.ks.map Str.c))),(5,.ptr 5 0),(11,aI (i:Int)),(10,aI ((ps.map Pg.c).length:Int)),(9,.iv (.sl (ps.map Pg.c))),(3,.row 3 ((F++(p.prs.take j).flatMap j7).map Str.c))],
   [(5,⟨93,.l [.iv (.sl (p.ks.map Str.c)),.iv (.sl (p.vs.map Str.c))]⟩)],[(3,⟨9,1⟩)]⟩) (fun j=>p.ks.length - j) (fun j=>True) (i0:=0) ?_ trivial ?_
  · rw[List.take_zero,List.flatMap_nil,List.append_nil];exact wL
  intro j _ K2 ar;cases hy:p.ks[j]? with
  |none=>
   have aR:=fa (l:=p.ks.map Str.c) (bf hy);have hj:p.prs.take j=p.prs:=tL (by rw[a1];exact gO hy);rw[hj,<-hF];clear ar;refine wz ?_;refine hK _ (i+1) trivial C ?_;exact wL
  |some k=>
   have aR:=eZ (l:=p.ks.map Str.c) (cq (f:=Str.c) hy);have a3:=eP hy;obtain⟨v,hv⟩: ∃v,p.vs[j]?=some v:=⟨_,gG C⟩
   have hz:p.prs[j]?=some (k,v):=by rw[Pg.prs,List.getElem?_zip_eq_some];exact⟨hy,hv⟩
   have g2:(p.ks.map Str.c)[((j:Nat):Int).toNat]?=some [S k]:=by rw[iN,gP,hy];rfl
   have g3:(p.vs.map Str.c)[((j:Nat):Int).toNat]?=some [S v]:=by rw[iN,gP,hv];rfl
   have qv:decide ((j:Int)<((p.vs.map Str.c).length:Int))=true:=decide_eq_true (by rw[lM];omega);have n2:(F++(p.prs.take (j+1)).flatMap j7).map Str.c=((F++(p.prs.take j).flatMap j7).map Str.c++ [[S k]])++ [[S v]]:=by
    rw[dg hz,List.flatMap_append,<-List.append_assoc,pA (l₁:=F++(p.prs.take j).flatMap j7),List.append_assoc];rfl
   have l2:((F++(p.prs.take j).flatMap j7).map Str.c).length<=2000000:=by
    rw[lM,gV,j2,lT];omega
   have k2: ∀e∈(F++(p.prs.take j).flatMap j7).map Str.c,e.length=1:=fun e he=>by obtain⟨y,_,rfl⟩:=mM he;rfl
   generalize (F++(p.prs.take j).flatMap j7).map Str.c=es at*
   have k3: ∀e∈es++ [[S k]],e.length=1:=fun e he=>by
    rcases mA he with he|he
    · exact k2 e he
    · rw[List.mem_singleton.1 he];rfl
   clear hK hF a2;(repeat' first|intro hb hp|(refine LW.is ?_;first|refine bC U U U U (by first|exact k2|exact k3) (by first|exact J U|exact bz U bK) (by simp[maxLen,ah];omega) (by simp[ah];omega) U U ?_)|refine am ?_|refine ak ?_ ?_|fail)
   refine L.onlyS [18,17,16,5,11,10,9,3] [5] U ?_;refine L.retok 3 39 3 U U U U ?_;refine ar _ (j+1) trivial C (Wk.mk' kK (wF (wF (wF (wF (wF (wF (wF (.cons U (Sub.of_eq (congrArg (AV.row 3) n2.symm)) .nil)))))))) B1 (.cons U .nil))
def a6(l:List Str)(hl:l.length<=100000000):CallA prog 62 [.iv (.sl (l.map Str.c)),.iv (.sl (l.map Str.c))] [] [] [] (aB true):=by
 have q0:((((l.map Str.c).length:Nat):Int) !=(((l.map Str.c).length:Nat):Int))=false:=by simp
 refine iA func62 ntmps62 (fun w0 E0=> ?_);refine wz ?_;refine ae (ι:=Nat) (fun i=>⟨[(13,aI (i:Int)),(12,aI ((l.map Str.c).length:Int)),(0,.iv (.sl (l.map Str.c))),(1,.iv (.sl (l.map Str.c)))],[],[]⟩) (fun i=>l.length - i) (fun i=>True) (i0:=0) ?_ trivial ?_
 · exact wL
 intro i _ K hK;cases J:l[i]? with
 |none=>
  have T:=fa (l:=l.map Str.c) (bf J);clear hK;refine wz ?_;all_goals refine bn ?_
  all_goals rfl
 |some x=>
  have T:=eZ (l:=l.map Str.c) (cq (f:=Str.c) J);have ad:=eP J;have g1:(l.map Str.c)[((i:Nat):Int).toNat]?=some [S x]:=by rw[iN,gP,J];rfl
  have q1:(!(x==x))=false:=by simp
  refine wz ?_;refine hK _ (i+1) trivial C ?_;exact wL
def a8(R:List (List Val))(hl:R.length<=100000000)(hr: ∀r∈R,r.length<=100000000):CallA prog 22 [.iv (.sl (R.map ai)),.iv (.sl (R.map ai))] [] [] [] (aB true):=by
 have q0:((((R.map ai).length:Nat):Int) !=(((R.map ai).length:Nat):Int))=false:=by simp
 refine iA func22 ntmps22 (fun w0 E0=> ?_);refine wz ?_;refine ae (ι:=Nat) (fun i=>⟨[(14,aI (i:Int)),(13,aI ((R.map ai).length:Int)),(0,.iv (.sl (R.map ai))),(1,.iv (.sl (R.map ai)))],[],[]⟩) (fun i=>R.length - i) (fun i=>True) (i0:=0) ?_ trivial ?_
 · exact wL
 intro i _ K hK;cases J:R[i]? with
 |none=>
  have ar:=fa (l:=R.map ai) (bf J);clear hK;refine wz ?_;all_goals refine bn ?_
  all_goals rfl
 |some x=>
  have ar:=eZ (l:=R.map ai) (cq (f:=ai) J);have a0:=eP J;have a1:=hr x (gE J);have g1:(R.map ai)[((i:Nat):Int).toNat]?=some [.sl (x.map Val.c)]:=by rw[iN,gP,J];rfl
  have q1:((((x.map Val.c).length:Nat):Int) !=(((x.map Val.c).length:Nat):Int))=false:=by simp
  clear hr q0;refine wz ?_;refine ae (ι:=Nat) (fun j=>⟨[(33,aI (j:Int)),(32,aI ((x.map Val.c).length:Int)),(5,aI (i:Int)),(14,aI (i:Int)),(13,aI ((R.map ai).length:Int)),(0,.iv (.sl (R.map ai))),(1,.iv (.sl (R.map ai)))],[],[]⟩) (fun j=>x.length - j) (fun j=>True) (i0:=0) ?_ trivial ?_
  · exact wL
  intro j _ K2 T;cases hy:x[j]? with
  |none=>
   have ad:=fa (l:=x.map Val.c) (bf hy);clear T;refine wz ?_;refine hK _ (i+1) trivial C ?_;exact wL
  |some v=>
   have ad:=eZ (l:=x.map Val.c) (cq (f:=Val.c) hy);have aR:=eP hy;have g2:(x.map Val.c)[((j:Nat):Int).toNat]?=some [I v.k,I v.n,S v.s]:=by rw[iN,gP,hy];rfl
   have q2:(!((v.k==v.k) && ((v.n==v.n) && ((v.s==v.s) && true))))=false:=by simp
   clear hK;refine wz ?_;refine T _ (j+1) trivial C ?_;exact wL
def a7(r:Rep)(hl:r.rows.length<=100000000)(hr: ∀x∈r.rows,x.length<=100000000):CallA prog 31 [r.av,r.av] [] [] [] (aB true):=by
 have k:=a8 r.rows hl hr;have J:(r.code==r.code)=true:=by simp
 have T:(r.n==r.n)=true:=by simp
 refine iA func31 ntmps31 (fun w0 E0=> ?_);refine wz ?_;all_goals refine bn ?_
 all_goals rfl
def b9(c:Cat)(a3:c.ts.length<=1000)(a4:c.is.length<=1000)(ad: ∀t∈c.ts,t.cols.length<=1000):
 CallA prog 61 [.agg (c.c.map .iv),.agg (c.c.map .iv)] [] [] [] (aB true):=by
 have q0:((((c.ts.map Tab.c).length:Nat):Int) !=(((c.ts.map Tab.c).length:Nat):Int))=false:=by simp
 have a1:((((c.is.map Idx.c).length:Nat):Int) !=(((c.is.map Idx.c).length:Nat):Int))=false:=by simp
 refine iA func61 ntmps61 (fun w0 E0=> ?_);refine wz ?_;refine ae (ι:=Nat) (fun i=>⟨[(28,aI (i:Int)),(27,aI ((c.ts.map Tab.c).length:Int)),(26,.iv (.sl (c.ts.map Tab.c))),(2,.ptr 2 0),(3,.ptr 3 0)],[(2,⟨47,.l (c.c.map .iv)⟩),(3,⟨47,.l (c.c.map .iv)⟩)],[]⟩) (fun i=>c.ts.length - i) (fun i=>True) (i0:=0) ?_ trivial ?_
 · exact wL
 intro i _ K hK;cases J:c.ts[i]? with
 |none=>
  have T:=fa (l:=c.ts.map Tab.c) (bf J);clear hK;refine wz ?_;refine ae (ι:=Nat) (fun i=>⟨[(81,aI (i:Int)),(80,aI ((c.is.map Idx.c).length:Int)),(2,.ptr 2 0),(3,.ptr 3 0)],[(2,⟨47,.l (c.c.map .iv)⟩),(3,⟨47,.l (c.c.map .iv)⟩)],[]⟩) (fun i=>c.is.length - i) (fun i=>True) (i0:=0) ?_ trivial ?_
  · exact wL
  intro i _ K hK;cases J:c.is[i]? with
  |none=>
   have T:=fa (l:=c.is.map Idx.c) (bf J);clear hK;refine wz ?_;all_goals refine bn ?_
   all_goals rfl
  |some x=>
   have T:=eZ (l:=c.is.map Idx.c) (cq (f:=Idx.c) J);have ar:=eP J;have g1:(c.is.map Idx.c)[((i:Nat):Int).toNat]?=some [S x.n,S x.tb,S x.co]:=by rw[iN,gP,J];rfl
   have q1:(!((x.n==x.n) && ((x.tb==x.tb) && ((x.co==x.co) && true))))=false:=by simp
   refine wz ?_;refine hK _ (i+1) trivial C ?_;exact wL
 |some t=>
  have T:=eZ (l:=c.ts.map Tab.c) (cq (f:=Tab.c) J);have ar:=eP J;have a5:=ad t (gE J);have g1:(c.ts.map Tab.c)[((i:Nat):Int).toNat]?=some [S t.n,.sl (t.cols.map Col.c)]:=by rw[iN,gP,J];rfl
  have q1:(!(t.n==t.n))=false:=by simp
  have q2:((((t.cols.map Col.c).length:Nat):Int) !=(((t.cols.map Col.c).length:Nat):Int))=false:=by simp
  clear ad q0 a1;refine wz ?_;refine ae (ι:=Nat) (fun j=>⟨[(58,aI (j:Int)),(57,aI ((t.cols.map Col.c).length:Int)),(5,aI (i:Int)),(6,.ptr 6 0),(28,aI (i:Int)),(27,aI ((c.ts.map Tab.c).length:Int)),(26,.iv (.sl (c.ts.map Tab.c))),(2,.ptr 2 0),(3,.ptr 3 0)],[(6,⟨57,.l (t.c.map .iv)⟩),(2,⟨47,.l (c.c.map .iv)⟩),(3,⟨47,.l (c.c.map .iv)⟩)],[]⟩) (fun j=>t.cols.length - j) (fun j=>True) (i0:=0) ?_ trivial ?_
  · exact wL
  intro j _ K2 aR;cases hy:t.cols[j]? with
  |none=>
   have a0:=fa (l:=t.cols.map Col.c) (bf hy);clear aR;refine wz ?_;refine hK _ (i+1) trivial C ?_;exact wL
  |some x=>
   have a0:=eZ (l:=t.cols.map Col.c) (cq (f:=Col.c) hy);have a2:=eP hy;have g2:(t.cols.map Col.c)[((j:Nat):Int).toNat]?=some [S x.n,I x.t,.im (.bool x.m)]:=by rw[iN,gP,hy];rfl
   have q3:(!((x.n==x.n) && ((x.t==x.t) && ((x.m==x.m) && true))))=false:=by simp
   clear hK;refine wz ?_;refine aR _ (j+1) trivial C ?_;exact wL
variable [Errs]
def g9{g:Eng}(h:EngOk g):g.cat.ts.length<=1000/\g.cat.is.length<=1000/\ ∀t∈g.cat.ts,t.cols.length<=1000:=by
 obtain⟨_,D,J⟩:=h;have h1:=J.db.cat.tl;have h2:=J.db.cat.il;exact⟨by omega,by omega,fun t ht=>by have:=J.db.cat.wide ht;omega⟩
def e7(g:Eng)(h:EngOk g):CallG cA prog 23 [.ptr 1010 0] [(1010,g.b)] [(1010,g.b)] [] (.agg (g.cat.c.map .iv)):=by
 obtain⟨h1,h2,J⟩:=g9 h;exact b7 g.cat g.ps g.n h1 h2 J
def j0(g h:Eng)(J:EngOk g)(hh:EngOk h)(hc:h.cat=g.cat)(hp:h.ps=g.ps):
 CallG cA prog 34 [.ptr 1010 0,.ptr 1011 0] [(1010,g.b),(1011,h.b)] [(1010,g.b),(1011,h.b)] [] (aB true):=by
 obtain⟨c1,c2,c3⟩:=g9 J;obtain⟨p1,p2,p3⟩:=vg J;have kc:=e7 g J;have kd:=(e7 h hh).sws [(1010,1011)] (args2:= [.ptr 1011 0]) (bx2:= [(1011,h.b)]) (bx2':= [(1011,h.b)]) (tk2':= []) (res2:= .agg (h.cat.c.map .iv)) U U U U U;have kt:=qI g J;have ku:=(qI h hh).sws [(1010,1011)] (args2:= [.ptr 1011 0]) (bx2:= [(1011,h.b)]) (bx2':= [(1011,h.b)]) (tk2':= []) (res2:= .agg [.iv (.sl (h.ps.map Pg.c))]) U U U U U;rw[hc] at kd;rw[hp] at ku;have ks:=b9 g.cat c1 c2 c3;have kf:=g8 g.ps C p2 C;have kx:=a6 (j5 g.ps) (by rw[j5,j2];omega);refine iG func34 ntmps34 (fun w0 E0 T=> ?_);(repeat' first|intro hb hp|refine ac [] rfl T kc fS B1 rfl rfl rfl rfl ?_|refine ac [] rfl T kd fS B1 rfl rfl rfl rfl ?_|refine ac [] rfl T kt fS B1 rfl rfl rfl rfl ?_|refine ac [] rfl T ku fS B1 rfl rfl rfl rfl ?_|refine am ?_|refine ak ?_ ?_|fail)
 all_goals exact L.ends U U sE wK
def gQ{gs:au}(x:Str)(r:Rep):CallG gs prog 16 ([.ptr 1010 0,.agg [aS x],r.av] ++ []) [] [] [] (aB true):=by
 refine iG func16 ntmps16 (fun w0 E0 J=> ?_);refine wz ?_;all_goals exact L.ends U U sE wK
def j4(g:Eng)(l:List Str):Eng:=l.foldl (fun g x=>(fy g x).1) g
def j6(l:List Str):Eng:=j4 eng0 (l.take 40)
def g7: ∀(l:List Str) {g:Eng},EngOk g->EngOk (j4 g l)
 | [],_,h=>h
 |x::l,g,h=>g7 l (iF h x)
def j3(l:List Str):EngOk (j6 l):=g7 _ pG
def j1(l:List Str)(hl:l.length<=140737488355328):
 CallG cA prog 15 [.iv (.sl (l.map Str.c)),.fn 16 []] [] [(1010,(j6 l).b)] [] (.tup [.ptr 1010 0,aB true]):=by
 have ka:=yJ;have kn:=zw (gs:=cA);generalize hZ:j6 l=Z;refine iG func15 ntmps15 (fun w0 E0 hG=> ?_);(repeat' first|intro hb hp|refine ac [1010] rfl hG kn .nil .nil rfl rfl rfl rfl ?_|refine am ?_|refine ak ?_ ?_|fail)
 refine ae (ι:=Nat×Eng) (fun i=>⟨[(7,aI (i.1:Int)),(0,.iv (.sl (l.map Str.c))),(1,.fn 16 []),(6,.ptr 1010 0)],[(1010,i.2.b)],[]⟩) (fun i=>l.length - i.1) (fun i=>EngOk i.2/\i.1<=40/\j4 i.2 ((l.take 40).drop i.1)=Z) (i0:=(0,eng0)) ?_ ⟨pG,by decide,hZ⟩ ?_
 · exact wL
 rintro ⟨i,g⟩ ⟨hg,hi,J⟩ K hK;dsimp only at hg hi J hK;by_cases ar:i<40
 case neg=>
  have q2:decide ((i:Int)<40)=false:=decide_eq_false C;rw[dL (by rw[lT];omega)] at J;have J:g=Z:=J;subst J;clear hK;by_cases a2:i<l.length
  · have q1:decide ((i:Int)<((l.map Str.c).length:Int))=true:=decide_eq_true (by rw[lM];omega);refine wz ?_;all_goals exact L.ends U U fR wK
  · have q1:decide ((i:Int)<((l.map Str.c).length:Int))=false:=decide_eq_false (by rw[lM];omega);refine wz ?_;all_goals exact L.ends U U fR wK
 have q2:decide ((i:Int)<40)=true:=decide_eq_true C;cases T:l[i]? with
 |none=>
  have q1:=fa (l:=l.map Str.c) (bf T);rw[dL (by rw[lT];have:=gO T;omega)] at J;have J:g=Z:=J;subst J;clear hK;refine wz ?_;all_goals exact L.ends U U fR wK
 |some x=>
  have q1:=eZ (l:=l.map Str.c) (cq (f:=Str.c) T);have a1:=eP T;have g1:(l.map Str.c)[((i:Nat):Int).toNat]?=some [S x]:=by rw[iN,gP,T];rfl
  have ad:(l.take 40)[i]?=some x:=by rw[List.getElem?_take,if_pos ar];exact T
  have aR:(l.take 40).drop i=x::(l.take 40).drop (i+1):=eS ad;rw[aR] at J;have kd:=nE g hg x;have a0:=iF hg x;have kq:=gQ (gs:=cA) x (fy g x).2;(repeat' first|intro hb hp|refine ac [] rfl hG kd fS B1 rfl rfl rfl rfl ?_|refine DR.is (eH (f:=16) U hG U kq U .nil U U U ?_)|refine am ?_|refine ak ?_ ?_|fail)
  exact hK _ (i+1,(fy g x).1) ⟨a0,by omega,J⟩ oD wL
def Nl(g:Eng)(x:Str):(fy g x).1.n<=g.n+1/\g.n<=(fy g x).1.n:=by
 unfold fy;(repeat' split)<;>exact⟨by dsimp only;omega,by dsimp only;omega⟩
def Bd: ∀(l:List Str) (g:Eng),(j4 g l).n<=g.n+l.length
 | [],g=>by show g.n<=_;omega
 |x::l,g=>by
  have h1:=Bd l (fy g x).1;have h2:=(Nl g x).1;have e:j4 g (x::l)=j4 (fy g x).1 l:=rfl;rw[e,lC];omega
def Mc(l:List Str):(j6 l).n<=40:=by
 have:=Bd (l.take 40) eng0;have e:eng0.n=0:=rfl;rw[lT] at this;rw[j6];omega
def AD(c:Cat)(ps:List Pg)(x:Str):Cat×List Pg×Rep:=
 if(cj x).2≠0 then(c,ps,⟨(cj x).2,0,[]⟩)
 else match ib c ps lr 0 (cj x).1 with
  | .error e=>(c,ps,⟨e.1,e.2,[]⟩)
  | .ok r=>r
def zU{c:Cat}{ps:List Pg}{n:Int}{x:Str}(h:n<150):fy ⟨c,ps,n⟩ x=(⟨(AD c ps x).1,(AD c ps x).2.1,n+1⟩,(AD c ps x).2.2):=by
 have h1: ¬150<=n:=C;unfold fy AD;dsimp only;rw[if_neg h1];by_cases h2:(cj x).2≠0
 · rw[if_pos h2,if_pos h2]
 · rw[if_neg h2,if_neg h2];cases ib c ps lr 0 (cj x).1<;>rfl
def IR{g h:Eng}{x:Str}(hc:h.cat=g.cat)(J:h.ps=g.ps)(h1:g.n<150)(h2:h.n<150):(fy h x).2=(fy g x).2/\(fy h x).1.cat=(fy g x).1.cat/\(fy h x).1.ps=(fy g x).1.ps:=by
 obtain⟨c,ps,n⟩:=g;obtain⟨c',T,m⟩:=h;dsimp only at hc J h1 h2;subst hc;subst J;rw[zU h1,zU h2];exact⟨rfl,rfl,rfl⟩
def FM{c:Cat}{ps:List Pg}{s:Stm}(hk:s.kind=7)(T:(aJ c s).2=0):(cL c ps (aJ c s).1).cat=c/\(cL c ps (aJ c s).1).ps=ps:=by
 have J:aJ c s=((aJ c s).1,0):=Prod.ext U T;have h1:=(eD (eh J).2.2).1;rw[cL,if_neg C,if_neg C,if_neg C,if_neg C,if_neg C,if_pos C];exact⟨rfl,rfl⟩
def we: ∀(l:List Stm) {c:Cat} {ps:List Pg} {r:Rep} {i:Int} {x:Cat×List Pg×Rep},(∀s∈l,s.kind=7)->ib c ps r i l= .ok x->x.1=c/\x.2.1=ps
 | [],c,ps,r,i,x,_,J=>by
   rw[ib] at J;cases J;exact⟨rfl,rfl⟩
 |s::l,c,ps,r,i,x,h,J=>by
  rw[ib] at J;split at J
  · cases J
  split at J
  · cases J
  rename_i h1 _;obtain⟨e1,e2⟩:=FM (ps:=ps) (h s (List.mem_cons_self ..)) (Decidable.not_not.1 h1);have:=we l (fun s' T=>h s' (List.mem_cons_of_mem _ T)) J;rw[e1,e2] at this;exact this
def IS(g:Eng){x:Str}(h: ∀s∈(cj x).1,s.kind=7):(fy g x).1.cat=g.cat/\(fy g x).1.ps=g.ps:=by
 unfold fy;repeat' split
 any_goals exact⟨rfl,rfl⟩
 rename_i hr;exact we _ h hr
def MF{g:Eng}{x:Str}(hn:g.n<150)(he:(cj x).2≠0):(fy g x).2.code=(cj x).2:=by
 unfold fy;rw[if_neg C,if_pos he]
def FG(s:Stm)(w:Nat)(J:List (List Val)):(AI s w J).length<=J.length/\ ∀r∈AI s w J,r.length=s.out.length:=by
 refine⟨?_,fun r hr=> ?_⟩
 · rw[AI,lM];refine Nat.le_trans (m:=((J.filter (bM s.wh)).mergeSort (cM (dc s w))).length) ?_ (by rw[List.length_mergeSort];exact List.length_filter_le ..);unfold re;split
   · rw[lT];omega
   · exact Nat.le_refl _
 · obtain⟨x,_,rfl⟩:=mM hr;rw[zq,lM]
def yK(r:Rep):Prop:=r.rows.length<=1000000/\ ∀x∈r.rows,x.length<=1000000
def mE(a b:Int):yK ⟨a,b,[]⟩:=⟨by simp,by simp⟩
def FL{c:Cat}{ps:List Pg}{D:Str->List (List Val)}(h:EI c ps D){s b:Stm}(hs:StmK s)(hb:aJ c s=(b,0)):yK (cL c ps b).rep:=by
 obtain⟨hg,a3,hp⟩:=eh hb;have a4:=(eD hp).1;by_cases h7:b.kind=7
 · have J:=HD C hp;rw[cL,if_neg C,if_neg C,if_neg C,if_neg C,if_neg C,if_pos h7];have a2:=J.len;have a0: ∀m∈s.frm,(ab c m).2=true:=fun m hm=>by
    obtain⟨i,hi⟩:=List.getElem?_of_mem hm;exact J.tab i m hi
   have a5:lY (s.frm.map fun n=>(ab c n).1)<=8:=Nat.le_trans (wH h.db.cat a0) C;have a9:=J.outL;have ba:=hs.out;obtain⟨n0,T⟩: ∃n0,s.frm[0]?=some n0:=⟨_,gG C⟩
   have hm:=(bX (J.tab 0 n0 T)).1;have ad:b.frm.getD 0 [] =n0:=by rw[J.frm,List.getD_eq_getElem?_getD,T];rfl
   obtain⟨f1,f2,f3,_⟩:=kj h.db hm b.wh;have bd:=h.few _ hm;have bh:b.frm.length=s.frm.length:=by rw[J.frm]
   obtain⟨s1,s2⟩:=FG b (ab c n0).1.cols.length (ow c ps b (ci ps (ab c n0).1 (bU c (ab c n0).1 0 b.wh)));refine⟨?_,fun x hx=> ?_⟩
   · show(jO c ps b).length<=1000000;rw[jO,ad];refine Nat.le_trans s1 ?_;unfold ow;split
     · rename_i h2;obtain⟨n1,ar⟩: ∃n1,s.frm[1]?=some n1:=⟨_,gG C⟩
       have aR:=(bX (J.tab 1 n1 ar)).1;have a1:b.frm.getD 1 [] =n1:=by rw[J.frm,List.getD_eq_getElem?_getD,ar];rfl
       have bi:=h.few _ aR;rw[a1];refine Nat.le_trans (ld (k:=30) (fun x hx=> ?_)) C;rw[lM];have:=(rJ h.db aR x (br x b.wh)).2.2.1;omega
     · omega
   · have hx:x∈jO c ps b:=hx;rw[jO,ad] at hx;have:=s2 x hx;omega
 · unfold cL;repeat' split
   all_goals first|exact mE _ _|exact absurd (by assumption) h7
def wd: ∀(l:List Stm) {c:Cat} {ps:List Pg} {r:Rep} {i:Int} {x:Cat×List Pg×Rep},(∃D,EI c ps D)->(∀s∈l,StmK s)->yK r->ib c ps r i l= .ok x->yK x.2.2
 | [],c,ps,r,i,x,_,_,h,J=>by
   rw[ib] at J;cases J;exact h
 |s::l,c,ps,r,i,x,⟨D,hd⟩,hs,h,J=>by
  rw[ib] at J;split at J
  · cases J
  split at J
  · cases J
  rename_i h1 _;have hb:aJ c s=((aJ c s).1,0):=Prod.ext U (Decidable.not_not.1 h1);exact wd l (si hd hb) (fun s' T=>hs s' (List.mem_cons_of_mem _ T)) (FL hd (hs s (List.mem_cons_self ..)) hb) J
def BP{g:Eng}(h:EngOk g)(x:Str):yK (fy g x).2:=by
 unfold fy;repeat' split
 any_goals exact mE _ _
 rename_i hr;exact wd _ h.db (uL x) (mE _ _) hr
def yV(l:List Str)(hl:l.length<=140737488355328)(x:Str):CallG cA prog 9 [.iv (.sl (l.map Str.c)),aS x] [] [] [] (aB true):=by
 have hg:=j3 l;have hn:=Mc l;have k1:=j1 l hl;have k2:=(j1 l hl).sws [(1010,1011)] (args2:= [.iv (.sl (l.map Str.c)),.fn 16 []]) (bx2:= []) (bx2':= [(1011,(j6 l).b)]) (tk2':= []) (res2:= .tup [.ptr 1011 0,aB true]) U U U U U;have kp:=uM x;have aR:=uK x;generalize j6 l=g at*
 have kd:=nE g hg x;have ad:=iF hg x;have hr:=IS g (x:=x);have hb:=MF (g:=g) (x:=x) C;have a3:=(Nl g x).1;have ar:=BP hg x;have hrep:=fun(h1:(fy g x).1.cat=g.cat) (h2:(fy g x).1.ps=g.ps)=>IR (g:=g) (h:=(fy g x).1) (x:=x) h1 h2 C C
 have ke:=nE (fy g x).1 ad x;have a0:=iF ad x;have ks:=fun(h1:g.cat=(fy (fy g x).1 x).1.cat) (h2:g.ps=(fy (fy g x).1 x).1.ps)=>j0 (fy (fy g x).1 x).1 g a0 hg h1 h2
 refine iG func9 ntmps9 (fun w0 E0 T=> ?_);generalize cj x=S at*
 obtain⟨ls,e⟩:=S;dsimp only at kp aR hr hb;(repeat' first|intro hb hp|refine ac [1010] rfl T k1 fS .nil rfl rfl rfl rfl ?_|refine ac [1011] rfl T k2 fS .nil rfl rfl rfl rfl ?_|refine dM (ha:=rfl) U T kp U ?_|refine am ?_|refine ak ?_ ?_|fail)
 refine ae (ι:=Nat) (fun i=>⟨[(38,aI (i:Int)),(37,aI ((ls.map Stm.cs).length:Int)),(36,.iv (.sl (ls.map Stm.cs))),(1,aS x),(5,.ptr 1010 0),(7,.ptr 1011 0),(10,aI e)],[(1010,g.b),(1011,g.b)],[]⟩) (fun i=>ls.length - i) (fun i=> ∀s∈ls.take i,s.kind=7) (i0:=0) ?_ sP ?_
 · exact wL
 intro i hi K hK;cases hx:ls[i]? with
 |some s=>
  have a1:=eZ (l:=ls.map Stm.cs) (cq (f:=Stm.cs) hx);have a2:=eP hx;have g1:(ls.map Stm.cs)[((i:Nat):Int).toNat]?=some s.cs:=by rw[iN,gP,hx];rfl
  clear kd ke ks hrep;by_cases h7:s.kind=7
  · have q:(s.kind !=7)=false:=by rw[h7];rfl
    refine wz ?_;exact hK _ (i+1) (fun y J=>by
     rw[dg hx] at J;rcases mA J with J|J
     · exact hi y J
     · rw[List.mem_singleton.1 J];exact h7) C wK
  · have q:(s.kind !=7)=true:=by simpa using h7
    clear hK;refine wz ?_;all_goals exact L.ends U U sE wK
 |none=>
  have a1:=fa (l:=ls.map Stm.cs) (bf hx);rw[bc hx] at hi;obtain⟨r1,r2⟩:=hr hi;obtain⟨p1,p2,p3⟩:=hrep r1 r2;have k3:=ks (by rw[p2,r1]) (by rw[p3,r2]);rw[p1] at ke;have kr:=a7 (fy g x).2 (by have:=ar.1;omega) (fun y J=>by have:=ar.2 y J;omega);clear hK ks hrep hr;generalize fy (fy g x).1 x=Z2 at*
  by_cases he:e=0
  case' pos=>have q:(e==0)=true:=by simpa using he
  case' neg=>have q:(e==0)=false:=(by simpa using he);have q2:((fy g x).2.code==e)=true:=by rw[hb he];simp
  all_goals(repeat' first|intro hb hp|refine ac [] rfl T kd fS B1 rfl rfl rfl rfl ?_|refine ac [] rfl T ke fS B1 rfl rfl rfl rfl ?_|refine ac [] rfl T k3 fS B2 rfl rfl rfl rfl ?_|refine am ?_|refine ak ?_ ?_|fail)
  all_goals exact L.ends U U sE wK
end Go.Proofs.Y
