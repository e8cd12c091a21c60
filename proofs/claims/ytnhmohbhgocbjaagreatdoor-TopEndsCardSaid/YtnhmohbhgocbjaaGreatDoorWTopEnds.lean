/- Lemmas towards the law. Conditions: each one says its own. -/
import Derived.Test.YtnhmohbhgocbjaaGreatDoorZT19
set_option linter.all false
set_option maxHeartbeats 64000000
set_option maxRecDepth 100000
namespace Go.Proofs.Y
open Go.Abs Go.Proofs.Tryz
attribute [local irreducible] L Code.wp bodyPost Exit.then Exit.inBlock
def copyIdx_any(es:List (List IV))(hk: ∀e∈es,e.length=3)(hl:es.length≤1000000):
 CallA prog 49 [.iv (.sl es)] [] [] [] (.iv (.sl es)):=by
 by_cases hne:es= []
 · subst hne;refine iA func49 ntmps49 (fun w0 E0=> ?_);(repeat' first|intro hb hp|apply jW;rfl;rfl;rfl;rintro (_|_)|(refine LW.is ?_;first|apply dA;rfl;rfl;rfl;rfl;rfl|apply ag;rfl;apply qF;rfl;exact Sub.bslE _ _;rfl)|refine am ?_|refine ak ?_ ?_|fail)
   all_goals(apply L.ends;rfl;rfl;(first|exact Sub.nils|exact Sub.emp);exact wL)
 · have hm:es.length≤maxLen:=by rw[fC];omega
   have hb:es.length*48≤140737488355328:=C;refine iA func49 ntmps49 (fun w0 E0=> ?_);(repeat' first|intro hb hp|(refine LW.is ?_;first|apply ag;rfl;apply ju;rfl;rfl;exact hne|apply dA;rfl;rfl;rfl;rfl;rfl|apply jv 1000;rfl;rfl;rfl;exact hk;exact hne;exact hm;exact hb;rfl)|refine am ?_|refine ak ?_ ?_|fail)
   all_goals(refine L.pubS 1000 2 (es:=es) (k:=3) U U hk dD hne U U .here ?_)
   all_goals(apply L.ends;rfl;rfl;exact fR;exact wL)
def catalog_any{gs:au}(c:Cat)(ps:List Pg)(n:Int)(hts:c.ts.length≤1000)(his:c.is.length≤1000)(hcl: ∀t∈c.ts,t.cols.length≤1000):
 CallG gs prog 23 [.ptr 1010 0] [(1010,bQ c ps n)] [(1010,bQ c ps n)] [] (.agg (c.c.map .iv)):=by
 have kx:=copyIdx_any (c.is.map Idx.c) (fun e he=>by obtain⟨y,_,rfl⟩:=mM he;rfl) (by rw[lM];omega);refine iG func23 ntmps23 (fun w0 E0 hG=> ?_);refine wz ?_;refine L.adoptB 3 108 57 2 U sP U U (.cons .here (.cons .same .nil)) ?_;refine ae (ι:=Nat) (fun i=>⟨[(22,aI (i:Int)),(21,aI ((c.ts.map Tab.c).length:Int)),(20,.iv (.sl (c.ts.map Tab.c))),(2,.ptr 2 0),(3,.ptr 3 0)],
  [(1010,bQ c ps n),(2,⟨47,.l [.nils,.nils]⟩),(3,⟨47,.l [.row 108 ((c.ts.take i).map Tab.c),.iv (.sl (c.is.map Idx.c))]⟩)],[(108,⟨57,2⟩)]⟩) (fun i=>c.ts.length - i) (fun i=>True) (i0:=0) ?_ trivial ?_
 · exact wL
 intro i _ K hK;cases hx:c.ts[i]? with
 |none=>
  have hlt:=fa (l:=c.ts.map Tab.c) (bf hx);rw[bc hx];clear hK;refine wz ?_;all_goals(apply L.ends;rfl;rfl;exact Sub.agg (.cons (Sub.row _ _) fS);exact wL)
 |some t=>
  have hlt:=eZ (l:=c.ts.map Tab.c) (cq (f:=Tab.c) hx);have hlt':=eP hx;have htl:=hcl t (gE hx);have g1:(c.ts.map Tab.c)[((i:Nat):Int).toNat]?=some [S t.n,.sl (t.cols.map Col.c)]:=by rw[iN,gP,hx];rfl
  have n1:(c.ts.take (i+1)).map Tab.c=(c.ts.take i).map Tab.c++ [[S t.n,.sl (t.cols.map Col.c)]]:=by rw[dg hx,pA];rfl
  have l1:((c.ts.take i).map Tab.c).length=i:=by simp;omega
  have k1: ∀e∈(c.ts.take i).map Tab.c,e.length=2:=fun e he=>by obtain⟨y,_,rfl⟩:=mM he;rfl
  have kc:=Cc (t.cols.map Col.c) (fun e he=>by obtain⟨y,_,rfl⟩:=mM he;rfl) (by rw[lM];omega);generalize (c.ts.take i).map Tab.c=es at*
  clear hcl;(repeat' first|intro hb hp|(refine LW.is ?_;first|apply bC;rfl;rfl;rfl;rfl;exact k1;(first|exact len_chunks U|exact bz U bK);(simp[maxLen,ah,l1];omega);(simp[ah,l1];omega);rfl;rfl)|refine am ?_|refine ak ?_ ?_|fail)
  refine L.onlyS [22,21,20,2,3] [1010,2,3] U ?_;refine wN 3 34 108 U sP U U U (.cons .row (.cons .same .nil)) ?_;refine hK _ (i+1) trivial C (Wk.mk' kK F5 (wB (wB (.cons U U (Subs.cons (Sub.of_eq (congrArg (AV.row 108) n1.symm)) fS) .nil))) (.cons U .nil))
def twoS(x:Pr):List Str:= [x.1,x.2]
def flatM(ps:List Pg):List Str:=(ax ps).flatMap twoS
def flatM_take{ps:List Pg}{i:Nat}{p:Pg}(h:ps[i]?=some p):flatM (ps.take (i+1))=flatM (ps.take i)++p.prs.flatMap twoS:=by
 rw[flatM,flatM,dg h,ax,ax,List.flatMap_append,List.flatMap_append];simp
def two_len: ∀l:List Pr,(l.flatMap twoS).length=2*l.length
 | [] =>rfl
 |x::l=>by rw[List.flatMap_cons,gV,two_len l,lC];simp[twoS];omega
def flatP_take(ps:List Pg)(i:Nat):(ax (ps.take i)).length≤(ax ps).length:=by
 conv=>rhs;rw[←List.take_append_drop i ps,ax,List.flatMap_append,gV]
 exact Nat.le_add_right _ _
def flat_any(ps:List Pg)(hps:ps.length≤1000000)(hok: ∀p∈ps,Dm p)(hfl:(ax ps).length≤1000000):
 CallA prog 63 [.agg [.iv (.sl (ps.map Pg.c))]] [] [] [] (.iv (.sl ((flatM ps).map Str.c))):=by
 refine iA func63 ntmps63 (fun w0 E0=> ?_);refine wz ?_;refine L.adopt 3 (s:=3) (t:=9) (k:=1) U U U ?_;refine ae (ι:=Nat) (fun i=>⟨[(11,aI (i:Int)),(10,aI ((ps.map Pg.c).length:Int)),(9,.iv (.sl (ps.map Pg.c))),(3,.row 3 ((flatM (ps.take i)).map Str.c))],[],[(3,⟨9,1⟩)]⟩) (fun i=>ps.length - i) (fun i=>True) (i0:=0) ?_ trivial ?_
 · exact wL
 intro i _ K hK;cases hx:ps[i]? with
 |none=>
  have hlt:=fa (l:=ps.map Pg.c) (bf hx);rw[bc hx];clear hK;refine wz ?_;all_goals refine bn ?_
  all_goals rfl
 |some p=>
  have hlt:=eZ (l:=ps.map Pg.c) (cq (f:=Pg.c) hx);have hlt':=eP hx;obtain⟨_,hp1,hp2⟩:=hok p (gE hx);have g1:(ps.map Pg.c)[((i:Nat):Int).toNat]?=some [.sl (p.ks.map Str.c),.sl (p.vs.map Str.c)]:=by rw[iN,gP,hx];rfl
  have hF:=flatM_take hx;have hpl:p.prs.length=p.ks.length:=by rw[Pg.prs,List.length_zip];omega
  have hL0:(flatM (ps.take i)).length+2*p.prs.length≤2000000:=by
   have h1:=two_len (ax (ps.take (i+1)));have h2:=flatP_take ps (i+1);have h3:(flatM (ps.take (i+1))).length=(flatM (ps.take i)).length+2*p.prs.length:=by rw[hF,gV,two_len]
   rw[flatM] at h3;omega
  generalize flatM (ps.take i)=F at*
  clear hok;refine wz ?_;refine ae (ι:=Nat) (fun j=>⟨[(18,aI (j:Int)),(17,aI ((p.ks.map Str.c).length:Int)),(16,.iv (.sl (p.ks.map Str.c))),(5,.ptr 5 0),(11,aI (i:Int)),(10,aI ((ps.map Pg.c).length:Int)),(9,.iv (.sl (ps.map Pg.c))),(3,.row 3 ((F++(p.prs.take j).flatMap twoS).map Str.c))],
   [(5,⟨93,.l [.iv (.sl (p.ks.map Str.c)),.iv (.sl (p.vs.map Str.c))]⟩)],[(3,⟨9,1⟩)]⟩) (fun j=>p.ks.length - j) (fun j=>True) (i0:=0) ?_ trivial ?_
  · rw[List.take_zero,List.flatMap_nil,List.append_nil];exact wL
  intro j _ K2 hK2;cases hy:p.ks[j]? with
  |none=>
   have hlt2:=fa (l:=p.ks.map Str.c) (bf hy);have hj:p.prs.take j=p.prs:=tL (by rw[hpl];exact gO hy);rw[hj,←hF];clear hK2;refine wz ?_;refine hK _ (i+1) trivial C ?_;exact wL
  |some k=>
   have hlt2:=eZ (l:=p.ks.map Str.c) (cq (f:=Str.c) hy);have hlt2':=eP hy;obtain⟨v,hv⟩: ∃v,p.vs[j]?=some v:=⟨_,gG C⟩
   have hz:p.prs[j]?=some (k,v):=by rw[Pg.prs,List.getElem?_zip_eq_some];exact⟨hy,hv⟩
   have g2:(p.ks.map Str.c)[((j:Nat):Int).toNat]?=some [S k]:=by rw[iN,gP,hy];rfl
   have g3:(p.vs.map Str.c)[((j:Nat):Int).toNat]?=some [S v]:=by rw[iN,gP,hv];rfl
   have qv:decide ((j:Int)<((p.vs.map Str.c).length:Int))=true:=decide_eq_true (by rw[lM];omega);have n2:(F++(p.prs.take (j+1)).flatMap twoS).map Str.c=((F++(p.prs.take j).flatMap twoS).map Str.c++ [[S k]])++ [[S v]]:=by
    rw[dg hz,List.flatMap_append,←List.append_assoc,pA (l₁:=F++(p.prs.take j).flatMap twoS),List.append_assoc];rfl
   have l2:((F++(p.prs.take j).flatMap twoS).map Str.c).length≤2000000:=by
    rw[lM,gV,two_len,lT];omega
   have k2: ∀e∈(F++(p.prs.take j).flatMap twoS).map Str.c,e.length=1:=fun e he=>by obtain⟨y,_,rfl⟩:=mM he;rfl
   generalize (F++(p.prs.take j).flatMap twoS).map Str.c=es at*
   have k3: ∀e∈es++ [[S k]],e.length=1:=fun e he=>by
    rcases mA he with he|he
    · exact k2 e he
    · rw[List.mem_singleton.1 he];rfl
   clear hK hF hL0;(repeat' first|intro hb hp|(refine LW.is ?_;first|refine bC U U U U (by first|exact k2|exact k3) (by first|exact len_chunks U|exact bz U bK) (by simp[maxLen,ah];omega) (by simp[ah];omega) U U ?_)|refine am ?_|refine ak ?_ ?_|fail)
   refine L.onlyS [18,17,16,5,11,10,9,3] [5] U ?_;refine L.retok 3 39 3 U U U U ?_;refine hK2 _ (j+1) trivial C (Wk.mk' kK (wF (wF (wF (wF (wF (wF (wF (.cons U (Sub.of_eq (congrArg (AV.row 3) n2.symm)) .nil)))))))) B1 (.cons U .nil))
def sameTexts_any(l:List Str)(hl:l.length≤100000000):CallA prog 62 [.iv (.sl (l.map Str.c)),.iv (.sl (l.map Str.c))] [] [] [] (aB true):=by
 have q0:((((l.map Str.c).length:Nat):Int) !=(((l.map Str.c).length:Nat):Int))=false:=by simp
 refine iA func62 ntmps62 (fun w0 E0=> ?_);refine wz ?_;refine ae (ι:=Nat) (fun i=>⟨[(13,aI (i:Int)),(12,aI ((l.map Str.c).length:Int)),(0,.iv (.sl (l.map Str.c))),(1,.iv (.sl (l.map Str.c)))],[],[]⟩) (fun i=>l.length - i) (fun i=>True) (i0:=0) ?_ trivial ?_
 · exact wL
 intro i _ K hK;cases hx:l[i]? with
 |none=>
  have hlt:=fa (l:=l.map Str.c) (bf hx);clear hK;refine wz ?_;all_goals refine bn ?_
  all_goals rfl
 |some x=>
  have hlt:=eZ (l:=l.map Str.c) (cq (f:=Str.c) hx);have hlt':=eP hx;have g1:(l.map Str.c)[((i:Nat):Int).toNat]?=some [S x]:=by rw[iN,gP,hx];rfl
  have q1:(!(x==x))=false:=by simp
  refine wz ?_;refine hK _ (i+1) trivial C ?_;exact wL
def sameRows_any(R:List (List Val))(hl:R.length≤100000000)(hr: ∀r∈R,r.length≤100000000):CallA prog 22 [.iv (.sl (R.map ai)),.iv (.sl (R.map ai))] [] [] [] (aB true):=by
 have q0:((((R.map ai).length:Nat):Int) !=(((R.map ai).length:Nat):Int))=false:=by simp
 refine iA func22 ntmps22 (fun w0 E0=> ?_);refine wz ?_;refine ae (ι:=Nat) (fun i=>⟨[(14,aI (i:Int)),(13,aI ((R.map ai).length:Int)),(0,.iv (.sl (R.map ai))),(1,.iv (.sl (R.map ai)))],[],[]⟩) (fun i=>R.length - i) (fun i=>True) (i0:=0) ?_ trivial ?_
 · exact wL
 intro i _ K hK;cases hx:R[i]? with
 |none=>
  have hlt:=fa (l:=R.map ai) (bf hx);clear hK;refine wz ?_;all_goals refine bn ?_
  all_goals rfl
 |some x=>
  have hlt:=eZ (l:=R.map ai) (cq (f:=ai) hx);have hlt':=eP hx;have hxl:=hr x (gE hx);have g1:(R.map ai)[((i:Nat):Int).toNat]?=some [.sl (x.map Val.c)]:=by rw[iN,gP,hx];rfl
  have q1:((((x.map Val.c).length:Nat):Int) !=(((x.map Val.c).length:Nat):Int))=false:=by simp
  clear hr q0;refine wz ?_;refine ae (ι:=Nat) (fun j=>⟨[(33,aI (j:Int)),(32,aI ((x.map Val.c).length:Int)),(5,aI (i:Int)),(14,aI (i:Int)),(13,aI ((R.map ai).length:Int)),(0,.iv (.sl (R.map ai))),(1,.iv (.sl (R.map ai)))],[],[]⟩) (fun j=>x.length - j) (fun j=>True) (i0:=0) ?_ trivial ?_
  · exact wL
  intro j _ K2 hK2;cases hy:x[j]? with
  |none=>
   have hlt2:=fa (l:=x.map Val.c) (bf hy);clear hK2;refine wz ?_;refine hK _ (i+1) trivial C ?_;exact wL
  |some v=>
   have hlt2:=eZ (l:=x.map Val.c) (cq (f:=Val.c) hy);have hlt2':=eP hy;have g2:(x.map Val.c)[((j:Nat):Int).toNat]?=some [I v.k,I v.n,S v.s]:=by rw[iN,gP,hy];rfl
   have q2:(!((v.k==v.k) && ((v.n==v.n) && ((v.s==v.s) && true))))=false:=by simp
   clear hK;refine wz ?_;refine hK2 _ (j+1) trivial C ?_;exact wL
def sameReply_any(r:Rep)(hl:r.rows.length≤100000000)(hr: ∀x∈r.rows,x.length≤100000000):CallA prog 31 [r.av,r.av] [] [] [] (aB true):=by
 have k:=sameRows_any r.rows hl hr;have q1:(r.code==r.code)=true:=by simp
 have q2:(r.n==r.n)=true:=by simp
 refine iA func31 ntmps31 (fun w0 E0=> ?_);refine wz ?_;all_goals refine bn ?_
 all_goals rfl
def sameCat_any(c:Cat)(hts:c.ts.length≤1000)(his:c.is.length≤1000)(hcl: ∀t∈c.ts,t.cols.length≤1000):
 CallA prog 61 [.agg (c.c.map .iv),.agg (c.c.map .iv)] [] [] [] (aB true):=by
 have q0:((((c.ts.map Tab.c).length:Nat):Int) !=(((c.ts.map Tab.c).length:Nat):Int))=false:=by simp
 have q00:((((c.is.map Idx.c).length:Nat):Int) !=(((c.is.map Idx.c).length:Nat):Int))=false:=by simp
 refine iA func61 ntmps61 (fun w0 E0=> ?_);refine wz ?_;refine ae (ι:=Nat) (fun i=>⟨[(28,aI (i:Int)),(27,aI ((c.ts.map Tab.c).length:Int)),(26,.iv (.sl (c.ts.map Tab.c))),(2,.ptr 2 0),(3,.ptr 3 0)],[(2,⟨47,.l (c.c.map .iv)⟩),(3,⟨47,.l (c.c.map .iv)⟩)],[]⟩) (fun i=>c.ts.length - i) (fun i=>True) (i0:=0) ?_ trivial ?_
 · exact wL
 intro i _ K hK;cases hx:c.ts[i]? with
 |none=>
  have hlt:=fa (l:=c.ts.map Tab.c) (bf hx);clear hK;refine wz ?_;refine ae (ι:=Nat) (fun i=>⟨[(81,aI (i:Int)),(80,aI ((c.is.map Idx.c).length:Int)),(2,.ptr 2 0),(3,.ptr 3 0)],[(2,⟨47,.l (c.c.map .iv)⟩),(3,⟨47,.l (c.c.map .iv)⟩)],[]⟩) (fun i=>c.is.length - i) (fun i=>True) (i0:=0) ?_ trivial ?_
  · exact wL
  intro i _ K hK;cases hx:c.is[i]? with
  |none=>
   have hlt:=fa (l:=c.is.map Idx.c) (bf hx);clear hK;refine wz ?_;all_goals refine bn ?_
   all_goals rfl
  |some x=>
   have hlt:=eZ (l:=c.is.map Idx.c) (cq (f:=Idx.c) hx);have hlt':=eP hx;have g1:(c.is.map Idx.c)[((i:Nat):Int).toNat]?=some [S x.n,S x.tb,S x.co]:=by rw[iN,gP,hx];rfl
   have q1:(!((x.n==x.n) && ((x.tb==x.tb) && ((x.co==x.co) && true))))=false:=by simp
   refine wz ?_;refine hK _ (i+1) trivial C ?_;exact wL
 |some t=>
  have hlt:=eZ (l:=c.ts.map Tab.c) (cq (f:=Tab.c) hx);have hlt':=eP hx;have htl:=hcl t (gE hx);have g1:(c.ts.map Tab.c)[((i:Nat):Int).toNat]?=some [S t.n,.sl (t.cols.map Col.c)]:=by rw[iN,gP,hx];rfl
  have q1:(!(t.n==t.n))=false:=by simp
  have q2:((((t.cols.map Col.c).length:Nat):Int) !=(((t.cols.map Col.c).length:Nat):Int))=false:=by simp
  clear hcl q0 q00;refine wz ?_;refine ae (ι:=Nat) (fun j=>⟨[(58,aI (j:Int)),(57,aI ((t.cols.map Col.c).length:Int)),(5,aI (i:Int)),(6,.ptr 6 0),(28,aI (i:Int)),(27,aI ((c.ts.map Tab.c).length:Int)),(26,.iv (.sl (c.ts.map Tab.c))),(2,.ptr 2 0),(3,.ptr 3 0)],[(6,⟨57,.l (t.c.map .iv)⟩),(2,⟨47,.l (c.c.map .iv)⟩),(3,⟨47,.l (c.c.map .iv)⟩)],[]⟩) (fun j=>t.cols.length - j) (fun j=>True) (i0:=0) ?_ trivial ?_
  · exact wL
  intro j _ K2 hK2;cases hy:t.cols[j]? with
  |none=>
   have hlt2:=fa (l:=t.cols.map Col.c) (bf hy);clear hK2;refine wz ?_;refine hK _ (i+1) trivial C ?_;exact wL
  |some x=>
   have hlt2:=eZ (l:=t.cols.map Col.c) (cq (f:=Col.c) hy);have hlt2':=eP hy;have g2:(t.cols.map Col.c)[((j:Nat):Int).toNat]?=some [S x.n,I x.t,.im (.bool x.m)]:=by rw[iN,gP,hy];rfl
   have q3:(!((x.n==x.n) && ((x.t==x.t) && ((x.m==x.m) && true))))=false:=by simp
   clear hK;refine wz ?_;refine hK2 _ (j+1) trivial C ?_;exact wL
end Go.Proofs.Y
namespace Go.Proofs.Y
open Go.Abs Go.Proofs.Tryz
attribute [local irreducible] L Code.wp bodyPost Exit.then Exit.inBlock
variable [Errs]
def cat_wide{g:Eng}(h:EngOk g):g.cat.ts.length≤1000∧g.cat.is.length≤1000∧ ∀t∈g.cat.ts,t.cols.length≤1000:=by
 obtain⟨_,D,hd⟩:=h;have h1:=hd.db.cat.tl;have h2:=hd.db.cat.il;exact⟨by omega,by omega,fun t ht=>by have:=hd.db.cat.wide ht;omega⟩
def catalog_all(g:Eng)(h:EngOk g):CallG cA prog 23 [.ptr 1010 0] [(1010,g.b)] [(1010,g.b)] [] (.agg (g.cat.c.map .iv)):=by
 obtain⟨h1,h2,h3⟩:=cat_wide h;exact catalog_any g.cat g.ps g.n h1 h2 h3
def same_any(g h:Eng)(hg:EngOk g)(hh:EngOk h)(hc:h.cat=g.cat)(hp:h.ps=g.ps):
 CallG cA prog 34 [.ptr 1010 0,.ptr 1011 0] [(1010,g.b),(1011,h.b)] [(1010,g.b),(1011,h.b)] [] (aB true):=by
 obtain⟨c1,c2,c3⟩:=cat_wide hg;obtain⟨p1,p2,p3⟩:=vg hg;have kc:=catalog_all g hg;have kd:=(catalog_all h hh).sws [(1010,1011)] (args2:= [.ptr 1011 0]) (bx2:= [(1011,h.b)]) (bx2':= [(1011,h.b)]) (tk2':= []) (res2:= .agg (h.cat.c.map .iv)) U U U U U;have kt:=qI g hg;have ku:=(qI h hh).sws [(1010,1011)] (args2:= [.ptr 1011 0]) (bx2:= [(1011,h.b)]) (bx2':= [(1011,h.b)]) (tk2':= []) (res2:= .agg [.iv (.sl (h.ps.map Pg.c))]) U U U U U;rw[hc] at kd;rw[hp] at ku;have ks:=sameCat_any g.cat c1 c2 c3;have kf:=flat_any g.ps C p2 C;have kx:=sameTexts_any (flatM g.ps) (by rw[flatM,two_len];omega);refine iG func34 ntmps34 (fun w0 E0 hG=> ?_);(repeat' first|intro hb hp|refine ac [] rfl hG kc fS B1 rfl rfl rfl rfl ?_|refine ac [] rfl hG kd fS B1 rfl rfl rfl rfl ?_|refine ac [] rfl hG kt fS B1 rfl rfl rfl rfl ?_|refine ac [] rfl hG ku fS B1 rfl rfl rfl rfl ?_|refine am ?_|refine ak ?_ ?_|fail)
 all_goals exact L.ends U U sE wK
def quiet_any{gs:au}(x:Str)(r:Rep):CallG gs prog 16 ([.ptr 1010 0,.agg [aS x],r.av] ++ []) [] [] [] (aB true):=by
 refine iG func16 ntmps16 (fun w0 E0 hG=> ?_);refine wz ?_;all_goals exact L.ends U U sE wK
def playGo(g:Eng)(l:List Str):Eng:=l.foldl (fun g x=>(fy g x).1) g
def playM(l:List Str):Eng:=playGo eng0 (l.take 40)
def playGo_ok: ∀(l:List Str) {g:Eng},EngOk g→EngOk (playGo g l)
 | [],_,h=>h
 |x::l,g,h=>playGo_ok l (iF h x)
def play_ok(l:List Str):EngOk (playM l):=playGo_ok _ pG
def play_any(l:List Str)(hl:l.length≤140737488355328):
 CallG cA prog 15 [.iv (.sl (l.map Str.c)),.fn 16 []] [] [(1010,(playM l).b)] [] (.tup [.ptr 1010 0,aB true]):=by
 have ka:=yJ;have kn:=zw (gs:=cA);generalize hZ:playM l=Z;refine iG func15 ntmps15 (fun w0 E0 hG=> ?_);(repeat' first|intro hb hp|refine ac [1010] rfl hG kn .nil .nil rfl rfl rfl rfl ?_|refine am ?_|refine ak ?_ ?_|fail)
 refine ae (ι:=Nat×Eng) (fun i=>⟨[(7,aI (i.1:Int)),(0,.iv (.sl (l.map Str.c))),(1,.fn 16 []),(6,.ptr 1010 0)],[(1010,i.2.b)],[]⟩) (fun i=>l.length - i.1) (fun i=>EngOk i.2∧i.1≤40∧playGo i.2 ((l.take 40).drop i.1)=Z) (i0:=(0,eng0)) ?_ ⟨pG,by decide,hZ⟩ ?_
 · exact wL
 rintro ⟨i,g⟩ ⟨hg,hi,hJ⟩ K hK;dsimp only at hg hi hJ hK;by_cases h40:i<40
 case neg=>
  have q2:decide ((i:Int)<40)=false:=decide_eq_false C;rw[dL (by rw[lT];omega)] at hJ;have hJ:g=Z:=hJ;subst hJ;clear hK;by_cases hil:i<l.length
  · have q1:decide ((i:Int)<((l.map Str.c).length:Int))=true:=decide_eq_true (by rw[lM];omega);refine wz ?_;all_goals exact L.ends U U fR wK
  · have q1:decide ((i:Int)<((l.map Str.c).length:Int))=false:=decide_eq_false (by rw[lM];omega);refine wz ?_;all_goals exact L.ends U U fR wK
 have q2:decide ((i:Int)<40)=true:=decide_eq_true C;cases hx:l[i]? with
 |none=>
  have q1:=fa (l:=l.map Str.c) (bf hx);rw[dL (by rw[lT];have:=gO hx;omega)] at hJ;have hJ:g=Z:=hJ;subst hJ;clear hK;refine wz ?_;all_goals exact L.ends U U fR wK
 |some x=>
  have q1:=eZ (l:=l.map Str.c) (cq (f:=Str.c) hx);have hlt':=eP hx;have g1:(l.map Str.c)[((i:Nat):Int).toNat]?=some [S x]:=by rw[iN,gP,hx];rfl
  have hx40:(l.take 40)[i]?=some x:=by rw[List.getElem?_take,if_pos h40];exact hx
  have hdr:(l.take 40).drop i=x::(l.take 40).drop (i+1):=eS hx40;rw[hdr] at hJ;have kd:=nE g hg x;have hg':=iF hg x;have kq:=quiet_any (gs:=cA) x (fy g x).2;(repeat' first|intro hb hp|refine ac [] rfl hG kd fS B1 rfl rfl rfl rfl ?_|refine DR.is (eH (f:=16) U hG U kq U .nil U U U ?_)|refine am ?_|refine ak ?_ ?_|fail)
  exact hK _ (i+1,(fy g x).1) ⟨hg',by omega,hJ⟩ oD wL
end Go.Proofs.Y
namespace Go.Proofs.Y
open Go.Abs
attribute [local irreducible] L Code.wp bodyPost Exit.then Exit.inBlock
def AD(c:Cat)(ps:List Pg)(x:Str):Cat×List Pg×Rep:=
 if(cj x).2≠0 then(c,ps,⟨(cj x).2,0,[]⟩)
 else match ib c ps lr 0 (cj x).1 with
  | .error e=>(c,ps,⟨e.1,e.2,[]⟩)
  | .ok r=>r
def zU{c:Cat}{ps:List Pg}{n:Int}{x:Str}(h:n<150):fy ⟨c,ps,n⟩ x=(⟨(AD c ps x).1,(AD c ps x).2.1,n+1⟩,(AD c ps x).2.2):=by
 have h1: ¬150≤n:=C;unfold fy AD;dsimp only;rw[if_neg h1];by_cases h2:(cj x).2≠0
 · rw[if_pos h2,if_pos h2]
 · rw[if_neg h2,if_neg h2];cases ib c ps lr 0 (cj x).1<;>rfl
variable [Errs]
end Go.Proofs.Y
namespace Go.Proofs.Y
open Go.Abs Go.Proofs.Tryz
attribute [local irreducible] L Code.wp bodyPost Exit.then Exit.inBlock
def xO: ∀(l:List Str) (g:Eng),g.n+(l.length:Int)≤150→(playGo g l).n=g.n+l.length
 | [],g,_=>by show g.n=_;simp
 |x::l,g,h=>by
  rw[lC] at h;have e1:(fy g x).1.n=g.n+1:=by
   obtain⟨c,ps,n⟩:=g;dsimp only at h;rw[zU C]
  have h1:=xO l (fy g x).1 C;have e:playGo g (x::l)=playGo (fy g x).1 l:=rfl;rw[e,h1,e1,lC];omega
def Ke(l:List Str):(playM l).n=((min l.length 40:Nat):Int):=by
 have h0:eng0.n=0:=rfl;have h:=xO (l.take 40) eng0 (by rw[h0,lT];omega);rw[playM,h,h0,lT];omega
def Md:cj [63] =([],1):=by kernel_rfl
def doQ{c:Cat}{ps:List Pg}{n:Int}(h:n<150):fy ⟨c,ps,n⟩ [63] =(⟨c,ps,n+1⟩,⟨1,0,[]⟩):=by
 rw[zU h,AD,Md,if_pos dD]
def KR{c:Cat}{ps:List Pg}{x:Str}:fy ⟨c,ps,150⟩ x=(⟨c,ps,150⟩,⟨8,0,[]⟩):=by
 rw[fy,if_pos (show(150:Int)≤150 by decide)]
variable [Errs]
def Ax(l:List Str)(hl:l.length≤140737488355328)(x:Str):CallG cA prog 13 [.iv (.sl (l.map Str.c)),.agg [aS x]] [] [] [] (aB true):=by
 have hg:=play_ok l;have hn:=Ke l;have k1:=play_any l hl;have k2:=(play_any l hl).sws [(1010,1011)] (args2:= [.iv (.sl (l.map Str.c)),.fn 16 []]) (bx2:= []) (bx2':= [(1011,(playM l).b)]) (tk2':= []) (res2:= .tup [.ptr 1011 0,aB true]) U U U U U;generalize playM l=g at*
 obtain⟨c,ps,n⟩:=g;dsimp only at hn;subst hn;have hok: ∀m:Nat,EngOk ⟨c,ps,(m:Int)⟩:=fun m=>⟨by dsimp only;omega,hg.db⟩
 have kf:=nE ⟨c,ps,150⟩ (hok 150) x;rw[KR] at kf;have kr:=sameReply_any ⟨8,0,[]⟩ sP sP;have ks:=same_any ⟨c,ps,150⟩ ⟨c,ps,150⟩ (hok 150) (hok 150) U U;have hmin:(if 40<((l.map Str.c).length:Int) then 40 else((l.map Str.c).length:Int))=((min l.length 40:Nat):Int):=by rw[lM];split<;>omega
 have hm40:min l.length 40≤40:=Nat.min_le_right _ _;refine iG func13 ntmps13 (fun w0 E0 hG=> ?_);(repeat' first|intro hb hp|refine ac [1010] rfl hG k1 fS .nil rfl rfl rfl rfl ?_|refine ac [1011] rfl hG k2 fS .nil rfl rfl rfl rfl ?_|refine am ?_|refine ak ?_ ?_|fail)
 refine ae (ι:=Nat) (fun i=>⟨[(9,aI (i:Int)),(3,.ptr 3 0),(5,.ptr 1010 0),(7,.ptr 1011 0)],[(3,⟨72,.l [aS x]⟩),(1010,bQ c ps (i:Int)),(1011,bQ c ps (i:Int))],[]⟩) (fun i=>150 - i) (fun i=>i≤150) (i0:=min l.length 40) ?_ C ?_
 · exact Wk.mk' kK (.cons U (Sub.of_eq (congrArg (fun k:Int=>AV.iv (I k)) hmin)) F3) B3 .nil
 intro i hi K hK;by_cases h:i<150
 · have q:decide ((i:Int)<150)=true:=decide_eq_true C;have ka:=nE ⟨c,ps,(i:Int)⟩ (hok i) [63];rw[doQ C] at ka;have kb:=ka.sws [(1010,1011)] (args2:= [.ptr 1011 0,.agg [aS [63]]]) (bx2:= [(1011,bQ c ps (i:Int))]) (bx2':= [(1011,bQ c ps ((i:Int)+1))]) (tk2':= []) (res2:=(⟨1,0,[]⟩:Rep).av) U U U U U;have e1:(i:Int)+1=((i+1:Nat):Int):=C;rw[e1] at ka kb;clear k1 k2 kf kr ks;(repeat' first|intro hb hp|refine ac [] rfl hG ka fS B1 rfl rfl rfl rfl ?_|refine ac [] rfl hG kb fS B1 rfl rfl rfl rfl ?_|refine am ?_|refine ak ?_ ?_|fail)
   exact hK _ (i+1) C C wL
 · have hi:i=150:=C;subst hi;have q:decide (((150:Nat):Int)<150)=false:=rfl;clear hK k1 k2;(repeat' first|intro hb hp|refine ac [] rfl hG kf fS B1 rfl rfl rfl rfl ?_|refine ac [] rfl hG ks fS B2 rfl rfl rfl rfl ?_|refine am ?_|refine ak ?_ ?_|fail)
   all_goals exact L.ends U U sE wK
end Go.Proofs.Y
