/- Lemmas towards the law. Conditions: each one says its own. -/
import Derived.Test.YtnhmohbhgocbjaaGreatDoorZT19
set_option linter.all false
set_option maxHeartbeats 64000000
set_option maxRecDepth 100000
namespace Go.Proofs.Y
open Go Go.Abs
instance:ZeroTy Tryz.prog 23 [.pointer none]:=⟨kR⟩
instance:CallTy Tryz.prog 33:=⟨kR⟩
end Go.Proofs.Y
namespace Go.Proofs.Y
open Go.Abs Go.Proofs.Tryz
attribute [local irreducible] L Code.wp bodyPost Exit.then Exit.inBlock
def copyIdx_any(es:List (List IV))(hk: ∀e∈es,e.length=3)(hl:es.length≤1000000):
 CallA prog 49 [.iv (.sl es)] [] [] [] (.iv (.sl es)):=by
 by_cases hne:es= []
 · subst hne;refine iA func49 ntmps49 (fun w0 E0=> ?_);(repeat' first|intro hb hp|apply jW;rfl;rfl;rfl;rintro (_|_)|(refine LW.is ?_;first|apply dA;rfl;rfl;rfl;rfl;rfl|apply ag;rfl;apply qF;rfl;exact Sub.bslE _ _;rfl)|refine am ?_|refine ak ?_ ?_|fail)
   all_goals(apply L.ends;rfl;rfl;(first|exact Sub.nils|exact Sub.emp);exact wL)
 · have hm:es.length≤maxLen:=by rw[fC];omega
   have hb:es.length*48≤140737488355328:=C;refine iA func49 ntmps49 (fun w0 E0=> ?_);(repeat' first|intro hb hp|(refine LW.is ?_;first|apply ag;rfl;apply ju;rfl;rfl;exact hne|apply dA;rfl;rfl;rfl;rfl;rfl|apply jv 1000;rfl;rfl;rfl;exact hk;exact hne;exact hm;exact hb;rfl)|refine am ?_|refine ak ?_ ?_|fail)
   all_goals(refine L.pubS 1000 2 (es:=es) (k:=3) U U hk dD hne U U .here ?_)
   all_goals(apply L.ends;rfl;rfl;exact fR;exact wL)
def catalog_any{gs:au}(c:Cat)(ps:List Pg)(n:Int)(hts:c.ts.length≤1000)(his:c.is.length≤1000)(hcl: ∀t∈c.ts,t.cols.length≤1000):
 CallG gs prog 23 [.ptr 1010 0] [(1010,bQ c ps n)] [(1010,bQ c ps n)] [] (.agg (c.c.map .iv)):=by
 have kx:=copyIdx_any (c.is.map Idx.c) (fun e he=>by obtain⟨y,_,rfl⟩:=mM he;rfl) (by rw[lM];omega);refine iG func23 ntmps23 (fun w0 E0 hG=> ?_);refine wz ?_;refine L.adoptB 3 108 57 2 U sP U U (.cons .here (.cons .same .nil)) ?_;refine ae (ι:=Nat) (fun i=>⟨[(22,aI (i:Int)),(21,aI ((c.ts.map Tab.c).length:Int)),(20,.iv (.sl (c.ts.map Tab.c))),(2,.ptr 2 0),(3,.ptr 3 0)],
  [(1010,bQ c ps n),(2,⟨47,.l [.nils,.nils]⟩),(3,⟨47,.l [.row 108 ((c.ts.take i).map Tab.c),.iv (.sl (c.is.map Idx.c))]⟩)],[(108,⟨57,2⟩)]⟩) (fun i=>c.ts.length - i) (fun i=>True) (i0:=0) ?_ trivial ?_
 · exact wL
 intro i _ K hK;cases hx:c.ts[i]? with
 |none=>
  have hlt:=fa (l:=c.ts.map Tab.c) (bf hx);rw[bc hx];clear hK;refine wz ?_;all_goals(apply L.ends;rfl;rfl;exact Sub.agg (.cons (Sub.row _ _) fS);exact wL)
 |some t=>
  have hlt:=eZ (l:=c.ts.map Tab.c) (cq (f:=Tab.c) hx);have hlt':=eP hx;have htl:=hcl t (gE hx);have g1:(c.ts.map Tab.c)[((i:Nat):Int).toNat]?=some [S t.n,.sl (t.cols.map Col.c)]:=by rw[iN,gP,hx];rfl
  have n1:(c.ts.take (i+1)).map Tab.c=(c.ts.take i).map Tab.c++ [[S t.n,.sl (t.cols.map Col.c)]]:=by rw[dg hx,pA];rfl
  have l1:((c.ts.take i).map Tab.c).length=i:=by simp;omega
  have k1: ∀e∈(c.ts.take i).map Tab.c,e.length=2:=fun e he=>by obtain⟨y,_,rfl⟩:=mM he;rfl
  have kc:=Cc (t.cols.map Col.c) (fun e he=>by obtain⟨y,_,rfl⟩:=mM he;rfl) (by rw[lM];omega);generalize (c.ts.take i).map Tab.c=es at*
  clear hcl;(repeat' first|intro hb hp|(refine LW.is ?_;first|apply bC;rfl;rfl;rfl;rfl;exact k1;(first|exact len_chunks U|exact bz U bK);(simp[maxLen,ah,l1];omega);(simp[ah,l1];omega);rfl;rfl)|refine am ?_|refine ak ?_ ?_|fail)
  refine L.onlyS [22,21,20,2,3] [1010,2,3] U ?_;refine wN 3 34 108 U sP U U U (.cons .row (.cons .same .nil)) ?_;refine hK _ (i+1) trivial C (Wk.mk' kK F5 (wB (wB (.cons U U (Subs.cons (Sub.of_eq (congrArg (AV.row 108) n1.symm)) fS) .nil))) (.cons U .nil))
def twoS(x:Pr):List Str:= [x.1,x.2]
def flatM(ps:List Pg):List Str:=(ax ps).flatMap twoS
def flatM_take{ps:List Pg}{i:Nat}{p:Pg}(h:ps[i]?=some p):flatM (ps.take (i+1))=flatM (ps.take i)++p.prs.flatMap twoS:=by
 rw[flatM,flatM,dg h,ax,ax,List.flatMap_append,List.flatMap_append];simp
def two_len: ∀l:List Pr,(l.flatMap twoS).length=2*l.length
 | [] =>rfl
 |x::l=>by rw[List.flatMap_cons,gV,two_len l,lC];simp[twoS];omega
def flatP_take(ps:List Pg)(i:Nat):(ax (ps.take i)).length≤(ax ps).length:=by
 conv=>rhs;rw[←List.take_append_drop i ps,ax,List.flatMap_append,gV]
 exact Nat.le_add_right _ _
def flat_any(ps:List Pg)(hps:ps.length≤1000000)(hok: ∀p∈ps,Dm p)(hfl:(ax ps).length≤1000000):
 CallA prog 63 [.agg [.iv (.sl (ps.map Pg.c))]] [] [] [] (.iv (.sl ((flatM ps).map Str.c))):=by
 refine iA func63 ntmps63 (fun w0 E0=> ?_);refine wz ?_;refine L.adopt 3 (s:=3) (t:=9) (k:=1) U U U ?_;refine ae (ι:=Nat) (fun i=>⟨[(11,aI (i:Int)),(10,aI ((ps.map Pg.c).length:Int)),(9,.iv (.sl (ps.map Pg.c))),(3,.row 3 ((flatM (ps.take i)).map Str.c))],[],[(3,⟨9,1⟩)]⟩) (fun i=>ps.length - i) (fun i=>True) (i0:=0) ?_ trivial ?_
 · exact wL
 intro i _ K hK;cases hx:ps[i]? with
 |none=>
  have hlt:=fa (l:=ps.map Pg.c) (bf hx);rw[bc hx];clear hK;refine wz ?_;all_goals refine bn ?_
  all_goals rfl
 |some p=>
  have hlt:=eZ (l:=ps.map Pg.c) (cq (f:=Pg.c) hx);have hlt':=eP hx;obtain⟨_,hp1,hp2⟩:=hok p (gE hx);have g1:(ps.map Pg.c)[((i:Nat):Int).toNat]?=some [.sl (p.ks.map Str.c),.sl (p.vs.map Str.c)]:=by rw[iN,gP,hx];rfl
  have hF:=flatM_take hx;have hpl:p.prs.length=p.ks.length:=by rw[Pg.prs,List.length_zip];omega
  have hL0:(flatM (ps.take i)).length+2*p.prs.length≤2000000:=by
   have h1:=two_len (ax (ps.take (i+1)));have h2:=flatP_take ps (i+1);have h3:(flatM (ps.take (i+1))).length=(flatM (ps.take i)).length+2*p.prs.length:=by rw[hF,gV,two_len]
   rw[flatM] at h3;omega
  generalize flatM (ps.take i)=F at*
  clear hok;refine wz ?_;refine ae (ι:=Nat) (fun j=>⟨[(18,aI (j:Int)),(17,aI ((p.ks.map Str.c).length:Int)),(16,.iv (.sl (p.ks.map Str.c))),(5,.ptr 5 0),(11,aI (i:Int)),(10,aI ((ps.map Pg.c).length:Int)),(9,.iv (.sl (ps.map Pg.c))),(3,.row 3 ((F++(p.prs.take j).flatMap twoS).map Str.c))],
   [(5,⟨93,.l [.iv (.sl (p.ks.map Str.c)),.iv (.sl (p.vs.map Str.c))]⟩)],[(3,⟨9,1⟩)]⟩) (fun j=>p.ks.length - j) (fun j=>True) (i0:=0) ?_ trivial ?_
  · rw[List.take_zero,List.flatMap_nil,List.append_nil];exact wL
  intro j _ K2 hK2;cases hy:p.ks[j]? with
  |none=>
   have hlt2:=fa (l:=p.ks.map Str.c) (bf hy);have hj:p.prs.take j=p.prs:=tL (by rw[hpl];exact gO hy);rw[hj,←hF];clear hK2;refine wz ?_;refine hK _ (i+1) trivial C ?_;exact wL
  |some k=>
   have hlt2:=eZ (l:=p.ks.map Str.c) (cq (f:=Str.c) hy);have hlt2':=eP hy;obtain⟨v,hv⟩: ∃v,p.vs[j]?=some v:=⟨_,gG C⟩
   have hz:p.prs[j]?=some (k,v):=by rw[Pg.prs,List.getElem?_zip_eq_some];exact⟨hy,hv⟩
   have g2:(p.ks.map Str.c)[((j:Nat):Int).toNat]?=some [S k]:=by rw[iN,gP,hy];rfl
   have g3:(p.vs.map Str.c)[((j:Nat):Int).toNat]?=some [S v]:=by rw[iN,gP,hv];rfl
   have qv:decide ((j:Int)<((p.vs.map Str.c).length:Int))=true:=decide_eq_true (by rw[lM];omega);have n2:(F++(p.prs.take (j+1)).flatMap twoS).map Str.c=((F++(p.prs.take j).flatMap twoS).map Str.c++ [[S k]])++ [[S v]]:=by
    rw[dg hz,List.flatMap_append,←List.append_assoc,pA (l₁:=F++(p.prs.take j).flatMap twoS),List.append_assoc];rfl
   have l2:((F++(p.prs.take j).flatMap twoS).map Str.c).length≤2000000:=by
    rw[lM,gV,two_len,lT];omega
   have k2: ∀e∈(F++(p.prs.take j).flatMap twoS).map Str.c,e.length=1:=fun e he=>by obtain⟨y,_,rfl⟩:=mM he;rfl
   generalize (F++(p.prs.take j).flatMap twoS).map Str.c=es at*
   have k3: ∀e∈es++ [[S k]],e.length=1:=fun e he=>by
    rcases mA he with he|he
    · exact k2 e he
    · rw[List.mem_singleton.1 he];rfl
   clear hK hF hL0;(repeat' first|intro hb hp|(refine LW.is ?_;first|refine bC U U U U (by first|exact k2|exact k3) (by first|exact len_chunks U|exact bz U bK) (by simp[maxLen,ah];omega) (by simp[ah];omega) U U ?_)|refine am ?_|refine ak ?_ ?_|fail)
   refine L.onlyS [18,17,16,5,11,10,9,3] [5] U ?_;refine L.retok 3 39 3 U U U U ?_;refine hK2 _ (j+1) trivial C (Wk.mk' kK (wF (wF (wF (wF (wF (wF (wF (.cons U (Sub.of_eq (congrArg (AV.row 3) n2.symm)) .nil)))))))) B1 (.cons U .nil))
def sameTexts_any(l:List Str)(hl:l.length≤100000000):CallA prog 62 [.iv (.sl (l.map Str.c)),.iv (.sl (l.map Str.c))] [] [] [] (aB true):=by
 have q0:((((l.map Str.c).length:Nat):Int) !=(((l.map Str.c).length:Nat):Int))=false:=by simp
 refine iA func62 ntmps62 (fun w0 E0=> ?_);refine wz ?_;refine ae (ι:=Nat) (fun i=>⟨[(13,aI (i:Int)),(12,aI ((l.map Str.c).length:Int)),(0,.iv (.sl (l.map Str.c))),(1,.iv (.sl (l.map Str.c)))],[],[]⟩) (fun i=>l.length - i) (fun i=>True) (i0:=0) ?_ trivial ?_
 · exact wL
 intro i _ K hK;cases hx:l[i]? with
 |none=>
  have hlt:=fa (l:=l.map Str.c) (bf hx);clear hK;refine wz ?_;all_goals refine bn ?_
  all_goals rfl
 |some x=>
  have hlt:=eZ (l:=l.map Str.c) (cq (f:=Str.c) hx);have hlt':=eP hx;have g1:(l.map Str.c)[((i:Nat):Int).toNat]?=some [S x]:=by rw[iN,gP,hx];rfl
  have q1:(!(x==x))=false:=by simp
  refine wz ?_;refine hK _ (i+1) trivial C ?_;exact wL
def sameCat_any(c:Cat)(hts:c.ts.length≤1000)(his:c.is.length≤1000)(hcl: ∀t∈c.ts,t.cols.length≤1000):
 CallA prog 61 [.agg (c.c.map .iv),.agg (c.c.map .iv)] [] [] [] (aB true):=by
 have q0:((((c.ts.map Tab.c).length:Nat):Int) !=(((c.ts.map Tab.c).length:Nat):Int))=false:=by simp
 have q00:((((c.is.map Idx.c).length:Nat):Int) !=(((c.is.map Idx.c).length:Nat):Int))=false:=by simp
 refine iA func61 ntmps61 (fun w0 E0=> ?_);refine wz ?_;refine ae (ι:=Nat) (fun i=>⟨[(28,aI (i:Int)),(27,aI ((c.ts.map Tab.c).length:Int)),(26,.iv (.sl (c.ts.map Tab.c))),(2,.ptr 2 0),(3,.ptr 3 0)],[(2,⟨47,.l (c.c.map .iv)⟩),(3,⟨47,.l (c.c.map .iv)⟩)],[]⟩) (fun i=>c.ts.length - i) (fun i=>True) (i0:=0) ?_ trivial ?_
 · exact wL
 intro i _ K hK;cases hx:c.ts[i]? with
 |none=>
  have hlt:=fa (l:=c.ts.map Tab.c) (bf hx);clear hK;refine wz ?_;refine ae (ι:=Nat) (fun i=>⟨[(81,aI (i:Int)),(80,aI ((c.is.map Idx.c).length:Int)),(2,.ptr 2 0),(3,.ptr 3 0)],[(2,⟨47,.l (c.c.map .iv)⟩),(3,⟨47,.l (c.c.map .iv)⟩)],[]⟩) (fun i=>c.is.length - i) (fun i=>True) (i0:=0) ?_ trivial ?_
  · exact wL
  intro i _ K hK;cases hx:c.is[i]? with
  |none=>
   have hlt:=fa (l:=c.is.map Idx.c) (bf hx);clear hK;refine wz ?_;all_goals refine bn ?_
   all_goals rfl
  |some x=>
   have hlt:=eZ (l:=c.is.map Idx.c) (cq (f:=Idx.c) hx);have hlt':=eP hx;have g1:(c.is.map Idx.c)[((i:Nat):Int).toNat]?=some [S x.n,S x.tb,S x.co]:=by rw[iN,gP,hx];rfl
   have q1:(!((x.n==x.n) && ((x.tb==x.tb) && ((x.co==x.co) && true))))=false:=by simp
   refine wz ?_;refine hK _ (i+1) trivial C ?_;exact wL
 |some t=>
  have hlt:=eZ (l:=c.ts.map Tab.c) (cq (f:=Tab.c) hx);have hlt':=eP hx;have htl:=hcl t (gE hx);have g1:(c.ts.map Tab.c)[((i:Nat):Int).toNat]?=some [S t.n,.sl (t.cols.map Col.c)]:=by rw[iN,gP,hx];rfl
  have q1:(!(t.n==t.n))=false:=by simp
  have q2:((((t.cols.map Col.c).length:Nat):Int) !=(((t.cols.map Col.c).length:Nat):Int))=false:=by simp
  clear hcl q0 q00;refine wz ?_;refine ae (ι:=Nat) (fun j=>⟨[(58,aI (j:Int)),(57,aI ((t.cols.map Col.c).length:Int)),(5,aI (i:Int)),(6,.ptr 6 0),(28,aI (i:Int)),(27,aI ((c.ts.map Tab.c).length:Int)),(26,.iv (.sl (c.ts.map Tab.c))),(2,.ptr 2 0),(3,.ptr 3 0)],[(6,⟨57,.l (t.c.map .iv)⟩),(2,⟨47,.l (c.c.map .iv)⟩),(3,⟨47,.l (c.c.map .iv)⟩)],[]⟩) (fun j=>t.cols.length - j) (fun j=>True) (i0:=0) ?_ trivial ?_
  · exact wL
  intro j _ K2 hK2;cases hy:t.cols[j]? with
  |none=>
   have hlt2:=fa (l:=t.cols.map Col.c) (bf hy);clear hK2;refine wz ?_;refine hK _ (i+1) trivial C ?_;exact wL
  |some x=>
   have hlt2:=eZ (l:=t.cols.map Col.c) (cq (f:=Col.c) hy);have hlt2':=eP hy;have g2:(t.cols.map Col.c)[((j:Nat):Int).toNat]?=some [S x.n,I x.t,.im (.bool x.m)]:=by rw[iN,gP,hy];rfl
   have q3:(!((x.n==x.n) && ((x.t==x.t) && ((x.m==x.m) && true))))=false:=by simp
   clear hK;refine wz ?_;refine hK2 _ (j+1) trivial C ?_;exact wL
end Go.Proofs.Y
namespace Go.Proofs.Y
open Go.Abs Go.Proofs.Tryz
attribute [local irreducible] L Code.wp bodyPost Exit.then Exit.inBlock
variable [Errs]
def cat_wide{g:Eng}(h:EngOk g):g.cat.ts.length≤1000∧g.cat.is.length≤1000∧ ∀t∈g.cat.ts,t.cols.length≤1000:=by
 obtain⟨_,D,hd⟩:=h;have h1:=hd.db.cat.tl;have h2:=hd.db.cat.il;exact⟨by omega,by omega,fun t ht=>by have:=hd.db.cat.wide ht;omega⟩
def catalog_all(g:Eng)(h:EngOk g):CallG cA prog 23 [.ptr 1010 0] [(1010,g.b)] [(1010,g.b)] [] (.agg (g.cat.c.map .iv)):=by
 obtain⟨h1,h2,h3⟩:=cat_wide h;exact catalog_any g.cat g.ps g.n h1 h2 h3
def same_any(g h:Eng)(hg:EngOk g)(hh:EngOk h)(hc:h.cat=g.cat)(hp:h.ps=g.ps):
 CallG cA prog 34 [.ptr 1010 0,.ptr 1011 0] [(1010,g.b),(1011,h.b)] [(1010,g.b),(1011,h.b)] [] (aB true):=by
 obtain⟨c1,c2,c3⟩:=cat_wide hg;obtain⟨p1,p2,p3⟩:=vg hg;have kc:=catalog_all g hg;have kd:=(catalog_all h hh).sws [(1010,1011)] (args2:= [.ptr 1011 0]) (bx2:= [(1011,h.b)]) (bx2':= [(1011,h.b)]) (tk2':= []) (res2:= .agg (h.cat.c.map .iv)) U U U U U;have kt:=qI g hg;have kuz9:=(qI h hh).sws [(1010,1011)] (args2:= [.ptr 1011 0]) (bx2:= [(1011,h.b)]) (bx2':= [(1011,h.b)]) (tk2':= []) (res2:= .agg [.iv (.sl (h.ps.map Pg.c))]) U U U U U;rw[hc] at kd;rw[hp] at kuz9;have ks:=sameCat_any g.cat c1 c2 c3;have kf:=flat_any g.ps C p2 C;have kx:=sameTexts_any (flatM g.ps) (by rw[flatM,two_len];omega);refine iG func34 ntmps34 (fun w0 E0 hG=> ?_);(repeat' first|intro hb hp|refine ac [] rfl hG kc fS B1 rfl rfl rfl rfl ?_|refine ac [] rfl hG kd fS B1 rfl rfl rfl rfl ?_|refine ac [] rfl hG kt fS B1 rfl rfl rfl rfl ?_|refine ac [] rfl hG kuz9 fS B1 rfl rfl rfl rfl ?_|refine am ?_|refine ak ?_ ?_|fail)
 all_goals exact L.ends U U sE wK
end Go.Proofs.Y
namespace Go.Proofs.Y
open Go.Abs
attribute [local irreducible] L Code.wp bodyPost Exit.then Exit.inBlock
def HX(c:Cat)(ps:List Pg)(s:Stm):(cL c ps s).rep.code=0:=by
 unfold cL;repeat' split
 all_goals rfl
def yA: ∀(l:List Stm) {c:Cat} {ps:List Pg} {r:Rep} {i:Int} {x:Cat×List Pg×Rep},r.code=0→ib c ps r i l= .ok x→x.2.2.code=0
 | [],c,ps,r,i,x,h,hx=>by
   rw[ib] at hx;cases hx;exact h
 |s::l,c,ps,r,i,x,h,hx=>by
  rw[ib] at hx;split at hx
  · cases hx
  split at hx
  · cases hx
  exact yA l (HX _ _ _) hx
def JW{g:Eng}{x:Str}(h:(fy g x).2.code≠0):(fy g x).2.rows= [] ∧(fy g x).1.cat=g.cat∧(fy g x).1.ps=g.ps:=by
 unfold fy at h⊢;split
 · exact⟨rfl,rfl,rfl⟩
 rename_i h1;rw[if_neg h1] at h;split
 · exact⟨rfl,rfl,rfl⟩
 rename_i h2;rw[if_neg h2] at h;split
 · exact⟨rfl,rfl,rfl⟩
 · rename_i r hr;rw[hr] at h;exact absurd (yA _ U hr) h
variable [Errs]
end Go.Proofs.Y
namespace Go.Proofs.Y
open Go.Abs
attribute [local irreducible] L Code.wp bodyPost Exit.then Exit.inBlock
def Nl(g:Eng)(x:Str):(fy g x).1.n≤g.n+1∧g.n≤(fy g x).1.n:=by
 unfold fy;split
 · exact⟨by dsimp only;omega,by dsimp only;omega⟩
 split
 · exact⟨by dsimp only;omega,by dsimp only;omega⟩
 split
 · exact⟨by dsimp only;omega,by dsimp only;omega⟩
 · exact⟨by dsimp only;omega,by dsimp only;omega⟩
def AD(c:Cat)(ps:List Pg)(x:Str):Cat×List Pg×Rep:=
 if(cj x).2≠0 then(c,ps,⟨(cj x).2,0,[]⟩)
 else match ib c ps lr 0 (cj x).1 with
  | .error e=>(c,ps,⟨e.1,e.2,[]⟩)
  | .ok r=>r
def zU{c:Cat}{ps:List Pg}{n:Int}{x:Str}(h:n<150):fy ⟨c,ps,n⟩ x=(⟨(AD c ps x).1,(AD c ps x).2.1,n+1⟩,(AD c ps x).2.2):=by
 have h1: ¬150≤n:=C;unfold fy AD;dsimp only;rw[if_neg h1];by_cases h2:(cj x).2≠0
 · rw[if_pos h2,if_pos h2]
 · rw[if_neg h2,if_neg h2];cases ib c ps lr 0 (cj x).1<;>rfl
def IR{g h:Eng}{x:Str}(hc:h.cat=g.cat)(hp:h.ps=g.ps)(h1:g.n<150)(h2:h.n<150):(fy h x).2=(fy g x).2∧(fy h x).1.cat=(fy g x).1.cat∧(fy h x).1.ps=(fy g x).1.ps:=by
 obtain⟨c,ps,n⟩:=g;obtain⟨c',ps',m⟩:=h;dsimp only at hc hp h1 h2;subst hc;subst hp;rw[zU h1,zU h2];exact⟨rfl,rfl,rfl⟩
variable [Errs]
end Go.Proofs.Y
namespace Go.Abs
section
variable {P:Program}{c:Ctx}{ops:Array Oper}{Q:Exit→Act→World→Prop}{rest:List Oper}
 {fr:List (Nat×AV)} {bx:List (Nat×Box)} {tk:List (Nat×Tok)} {d:Nat} {ty:TypeId} {pos:String} {aft:Array Edge}
def s_callFnV{gs:au}{f:FuncId}{x:Operand}{args:Array Operand}{ats:Array TypeId}{avs caps:List AV}{bxi bxo:List (Nat×Box)}{res:AV}(hlt:Nat.ble (d+1) c.nt=true)(hG:Glob gs c.E0 c.w0)(hx:St.ev ⟨fr,bx,tk⟩ x= .fn f caps)[hok:CallTy P f]
 (hc:CallG gs P f (avs++caps) bxi bxo [] res) (ha:AV.pub.pubs (args.toList.map (St.ev ⟨fr,bx,tk⟩))=avs) (hbi:WkE bx bxi) (hbo:dW [] bxi bxo=true) (hmb:bxo.all (fun p=>AV.mentsIn ([] ++keys bxi) p.2.cs)=true) (hmr:AV.mentIn ([] ++keys bxi) res=true)
 (h:LW P c ⟨(d,res)::fr,bxo++bx,tk⟩ ops Q rest):
 LW P c ⟨fr,bx,tk⟩ ops Q (⟨some d,.call {callee:= .value x,args:=args,argTypes:=ats},ty,pos,aft,none⟩::rest):=
 pi [] hlt hG hx hc (.of_pub ha) hbi.b U hbo hmb hmr h
def d_callFnV{st0:St}{done:List Eff}{gs:au}{f:FuncId}{x:Operand}{args:Array Operand}{ats:Array TypeId}{avs caps:List AV}{bxi bxo:List (Nat×Box)}{res:AV}(hlt:Nat.ble (d+1) c.nt=true)(hG:Glob gs c.E0 c.w0)(hx:St.ev ⟨fr,bx,tk⟩ x= .fn f caps)[hok:CallTy P f]
 (hc:CallG gs P f (avs++caps) bxi bxo [] res) (ha:AV.pub.pubs (args.toList.map (St.ev ⟨fr,bx,tk⟩))=avs) (hbi:WkE bx bxi) (hbo:dW [] bxi bxo=true) (hmb:bxo.all (fun p=>AV.mentsIn ([] ++keys bxi) p.2.cs)=true) (hmr:AV.mentIn ([] ++keys bxi) res=true)
 (h:DR P c ops Q st0 (⟨some (d,res),bxo,[],[],keys bxi,[],[]⟩::done) ⟨(d,res)::fr,bxo++bx,tk⟩ rest):DR P c ops Q st0 done ⟨fr,bx,tk⟩ (⟨some d,.call {callee:= .value x,args:=args,argTypes:=ats},ty,pos,aft,none⟩::rest):=
 DR.cons (e:=⟨some (d,res),bxo,[],[],keys bxi,[],[]⟩) (fun st' hag Q' hL=>LW.out (s_callFnV (fr:=st'.fr) (bx:=st'.bx) (tk:=st'.tk) hlt hG ((hag.ev x oO).trans hx) hc ((by rw[Jx hag.ev (fun x hx=>by simp[Op.operands,Call.operands,hx])];exact ha)) (hbi.of (fun id hid=>hag.bx id hid)) hbo hmb hmr (EF hL))) h
end
end Go.Abs
namespace Go.Proofs.Y
open Go.Abs Go.Proofs.Tryz
attribute [local irreducible] L Code.wp bodyPost Exit.then Exit.inBlock
abbrev heB:Box:=⟨23,.l [.ptr 1011 0]⟩
def twinM(k:Eng)(x:Str)(r:Rep):Eng:=if r.code=0 then(fy k x).1 else k
structure Twin (g k:Eng) (i:Int):Prop where
 gk:EngOk g
 kk:EngOk k
 ct:k.cat=g.cat
 pt:k.ps=g.ps
 gn:g.n≤i
 kn:k.n≤i
def Twin.step{g k:Eng}{i:Int}(h:Twin g k i)(hi:i<150)(x:Str):Twin (fy g x).1 (twinM k x (fy g x).2) (i+1):=by
 have h1:=(Nl g x).1;have h2:=(Nl k x).1;have g1:=h.gn;have g2:=h.kn;unfold twinM;by_cases hc:(fy g x).2.code=0
 · rw[if_pos hc];obtain⟨_,e1,e2⟩:=IR (x:=x) h.ct h.pt C C;exact⟨iF h.gk x,iF h.kk x,e1,e2,by omega,by omega⟩
 · rw[if_neg hc];obtain⟨_,e1,e2⟩:=JW hc;exact⟨iF h.gk x,h.kk,h.ct.trans e1.symm,h.pt.trans e2.symm,by omega,by omega⟩
def twinGo:Eng→Eng→List Str→Eng×Eng
 |g,k,[] =>(g,k)
 |g,k,x::l=>twinGo (fy g x).1 (twinM k x (fy g x).2) l
variable [Errs]
def whole1_any(g k:Eng)(x:Str)(r:Rep)(hg:EngOk g)(hk:EngOk k)(hk':EngOk (twinM k x r))(hr:r.code≠0→r.rows= [])(hc:(twinM k x r).cat=g.cat)(hp:(twinM k x r).ps=g.ps):
 CallG cA prog 33 ([.ptr 1010 0,.agg [aS x],r.av] ++ [.ptr 1012 0]) [(1010,g.b),(1012,heB),(1011,k.b)] [(1010,g.b),(1012,heB),(1011,(twinM k x r).b)] [] (aB true):=by
 have kd:=(nE k hk x).sws [(1010,1011)] (args2:= [.ptr 1011 0,.agg [aS x]]) (bx2:= [(1011,k.b)]) (bx2':= [(1011,(fy k x).1.b)]) (tk2':= []) (res2:=(fy k x).2.av) U U U U U;have ks:=same_any g (twinM k x r) hg hk' hc hp;refine iG func33 ntmps33 (fun w0 E0 hG=> ?_);unfold twinM at ks⊢;by_cases h0:r.code=0
 · rw[if_pos h0] at ks⊢;have q:(r.code==0)=true:=by rw[h0];rfl
   clear hr hk' hc hp;generalize fy k x=Z at*
   (repeat' first|intro hb hp|refine ac [] rfl hG kd fS B1 rfl rfl rfl rfl ?_|refine ac [] rfl hG ks fS B2 rfl rfl rfl rfl ?_|refine am ?_|refine ak ?_ ?_|fail)
   all_goals exact L.ends U U sE wK
 · rw[if_neg h0] at ks⊢;have q:(r.code==0)=false:=by simpa using h0
   have q2:(((r.rows.map ai).length:Int)==0)=true:=by rw[hr h0];rfl
   clear hr hk' hc hp kd;(repeat' first|intro hb hp|refine ac [] rfl hG ks fS B2 rfl rfl rfl rfl ?_|refine am ?_|refine ak ?_ ?_|fail)
   all_goals exact L.ends U U (Sub.of_eq (congrArg (fun b=>aB b) q2)) wK
def playW_any(l:List Str)(hl:l.length≤140737488355328):
 CallG cA prog 15 [.iv (.sl (l.map Str.c)),.fn 33 [.ptr 1012 0]] [(1012,heB),(1011,eng0.b)] [(1010,(twinGo eng0 eng0 (l.take 40)).1.b),(1012,heB),(1011,(twinGo eng0 eng0 (l.take 40)).2.b)] [] (.tup [.ptr 1010 0,aB true]):=by
 have ka:=yJ;have kn:=zw (gs:=cA);generalize hZ:twinGo eng0 eng0 (l.take 40)=Z;refine iG func15 ntmps15 (fun w0 E0 hG=> ?_);(repeat' first|intro hb hp|refine ac [1010] rfl hG kn .nil .nil rfl rfl rfl rfl ?_|refine am ?_|refine ak ?_ ?_|fail)
 refine ae (ι:=Nat×Eng×Eng) (fun i=>⟨[(7,aI (i.1:Int)),(0,.iv (.sl (l.map Str.c))),(1,.fn 33 [.ptr 1012 0]),(6,.ptr 1010 0)],[(1010,i.2.1.b),(1012,heB),(1011,i.2.2.b)],[]⟩) (fun i=>l.length - i.1) (fun i=>Twin i.2.1 i.2.2 (i.1:Int)∧i.1≤40∧twinGo i.2.1 i.2.2 ((l.take 40).drop i.1)=Z) (i0:=(0,eng0,eng0)) ?_ ⟨⟨pG,pG,rfl,rfl,Int.le_refl _,Int.le_refl _⟩,by decide,hZ⟩ ?_
 · exact wL
 rintro ⟨i,g,k⟩ ⟨hg,hi,hJ⟩ K hK;dsimp only at hg hi hJ hK;by_cases h40:i<40
 case neg=>
  have q2:decide ((i:Int)<40)=false:=decide_eq_false C;rw[dL (by rw[lT];omega)] at hJ;have hJ:(g,k)=Z:=hJ;subst hJ;clear hK;by_cases hil:i<l.length
  · have q1:decide ((i:Int)<((l.map Str.c).length:Int))=true:=decide_eq_true (by rw[lM];omega);refine wz ?_;all_goals exact L.ends U U fR wK
  · have q1:decide ((i:Int)<((l.map Str.c).length:Int))=false:=decide_eq_false (by rw[lM];omega);refine wz ?_;all_goals exact L.ends U U fR wK
 have q2:decide ((i:Int)<40)=true:=decide_eq_true C;cases hx:l[i]? with
 |none=>
  have q1:=fa (l:=l.map Str.c) (bf hx);rw[dL (by rw[lT];have:=gO hx;omega)] at hJ;have hJ:(g,k)=Z:=hJ;subst hJ;clear hK;refine wz ?_;all_goals exact L.ends U U fR wK
 |some x=>
  have q1:=eZ (l:=l.map Str.c) (cq (f:=Str.c) hx);have hlt':=eP hx;have g1:(l.map Str.c)[((i:Nat):Int).toNat]?=some [S x]:=by rw[iN,gP,hx];rfl
  have hx40:(l.take 40)[i]?=some x:=by rw[List.getElem?_take,if_pos h40];exact hx
  have hdr:(l.take 40).drop i=x::(l.take 40).drop (i+1):=eS hx40;rw[hdr] at hJ;have kd:=nE g hg.gk x;have hs:=hg.step C x;have kq:=whole1_any (fy g x).1 k x (fy g x).2 hs.gk hg.kk hs.kk (fun h=>(JW h).1) hs.ct hs.pt;have hJ:twinGo (fy g x).1 (twinM k x (fy g x).2) ((l.take 40).drop (i+1))=Z:=hJ;generalize twinM k x (fy g x).2=k' at*
  have hs':Twin (fy g x).1 k' ((i+1:Nat):Int):=by
   rw[show((i+1:Nat):Int)=(i:Int)+1 by omega];exact hs
  (repeat' first|intro hb hp|refine ac [] rfl hG kd fS B1 rfl rfl rfl rfl ?_|refine DR.is (d_callFnV (f:=33) U hG U kq U (.cons U (.cons U (.cons U .nil))) U U U ?_)|refine am ?_|refine ak ?_ ?_|fail)
  exact hK _ (i+1,(fy g x).1,k') ⟨hs',by omega,hJ⟩ oD wL
def topWhole_any(l:List Str)(hl:l.length≤140737488355328):CallG cA prog 7 [.iv (.sl (l.map Str.c))] [] [] [] (aB true):=by
 have kn:=(zw (gs:=cA)).sws [(1010,1011)] (args2:= []) (bx2:= []) (bx2':= [(1011,eng0.b)]) (tk2':= []) (res2:= .ptr 1011 0) U U U U U;have kp:=(playW_any l hl).sws [(1012,3)] (args2:= [.iv (.sl (l.map Str.c)),.fn 33 [.ptr 3 0]]) (bx2:= [(3,heB),(1011,eng0.b)]) (bx2':= [(1010,(twinGo eng0 eng0 (l.take 40)).1.b),(3,heB),(1011,(twinGo eng0 eng0 (l.take 40)).2.b)]) (tk2':= []) (res2:= .tup [.ptr 1010 0,aB true]) U U U U U;generalize twinGo eng0 eng0 (l.take 40)=Z at*
 refine iG func7 ntmps7 (fun w0 E0 hG=> ?_);(repeat' first|intro hb hp|refine ac [1011] rfl hG kn .nil .nil rfl rfl rfl rfl ?_|refine ag rfl (aA U) ?_|refine ac [1010] U hG kp fS B2 U U U U ?_|refine am ?_|refine ak ?_ ?_|fail)
 all_goals exact L.ends U U sE wK
end Go.Proofs.Y
