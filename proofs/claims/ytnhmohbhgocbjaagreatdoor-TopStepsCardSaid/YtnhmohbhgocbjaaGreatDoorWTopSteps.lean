/- Lemmas towards the law. Conditions: each one says its own. -/
import Derived.Test.YtnhmohbhgocbjaaGreatDoorZU16
set_option linter.all false
set_option maxHeartbeats 64000000
set_option maxRecDepth 100000
namespace Go.Abs
section
variable {P:Program}{c:C7}{st:St}{fn:Func}{res:AV}{rs:List ResultVar}{y z u:IV}{cs:List AV}
variable {bx':List (Nat×A5)}
end
end Go.Abs
namespace Go.Proofs.Y
open Go.Abs
attribute [local irreducible] L Code.wp bodyPost Exit.then Exit.inBlock
def eqSl_iff: ∀{l m:List Str},wt l m=true↔l=m
 | [],[] =>by simp[wt]
 | [],_::_=>by simp[wt]
 |_::_,[] =>by simp[wt]
 |a::l,b::m=>by simp[wt,eqSl_iff]
end Go.Proofs.Y
namespace Go.Proofs.Y
open Go.Abs Go.Proofs.Tryz
attribute [local irreducible] L Code.wp bodyPost Exit.then Exit.inBlock
def copyIdx_any(es:List (List IV))(hk: ∀e∈es,e.length=3)(hl:es.length<=1000000):
 CallA prog 49 [.iv (.sl es)] [] [] [] (.iv (.sl es)):=by
 by_cases T:es= []
 · subst T;refine iA func49 ntmps49 (fun w0 E0=> ?_);(repeat' first|intro hb hp|apply mu;rfl;rfl;rfl;rintro (_|_)|(refine LW.is ?_;first|apply eA;rfl;rfl;rfl;rfl;rfl|apply ag;rfl;apply tH;rfl;exact Sub.bslE _ _;rfl)|refine am ?_|refine al ?_ ?_|fail)
   all_goals(apply L.ends;rfl;rfl;(first|exact Sub.nils|exact Sub.emp);exact wL)
 · have hm:es.length<=maxLen:=by rw[fJ];omega
   have hb:es.length*48<=140737488355328:=C;refine iA func49 ntmps49 (fun w0 E0=> ?_);(repeat' first|intro hb hp|(refine LW.is ?_;first|apply ag;rfl;apply jZ;rfl;rfl;exact T|apply eA;rfl;rfl;rfl;rfl;rfl|apply kC 1000;rfl;rfl;rfl;exact hk;exact T;exact hm;exact hb;rfl)|refine am ?_|refine al ?_ ?_|fail)
   all_goals(refine L.pubS 1000 2 (es:=es) (k:=3) U U hk dD T U U .here ?_)
   all_goals(apply L.ends;rfl;rfl;exact fR;exact wL)
def catalog_any{gs:aw}(c:B0)(ps:List Pg)(n:Int)(a0:c.ts.length<=1000)(a1:c.is.length<=1000)(ad: ∀t∈c.ts,t.cols.length<=1000):
 CallG gs prog 23 [.ptr 1010 0] [(1010,ca c ps n)] [(1010,ca c ps n)] [] (.agg (c.c.map .iv)):=by
 have kx:=copyIdx_any (c.is.map A7.c) (fun e he=>by obtain⟨y,_,rfl⟩:=mM he;rfl) (by rw[lM];omega);refine iG func23 ntmps23 (fun w0 E0 hG=> ?_);refine wz ?_;refine L.adoptB 3 108 57 2 U sP U U (.cons .here (.cons .same .nil)) ?_;refine ae (ι:=Nat) (fun i=>⟨[(22,aI (i:Int)),(21,aI ((c.ts.map A4.c).length:Int)),(20,.iv (.sl (c.ts.map A4.c))),(2,.ptr 2 0),(3,.ptr 3 0)],
  [(1010,ca c ps n),(2,⟨47,.l [.nils,.nils]⟩),(3,⟨47,.l [.row 108 ((c.ts.take i).map A4.c),.iv (.sl (c.is.map A7.c))]⟩)],[(108,⟨57,2⟩)]⟩) (fun i=>c.ts.length - i) (fun i=>True) (i0:=0) ?_ trivial ?_
 · exact wL
 intro i _ K hK;cases hx:c.ts[i]? with
 |none=>
  have ar:=gc (l:=c.ts.map A4.c) (bz hx);rw[br hx];clear hK;refine wz ?_;all_goals(apply L.ends;rfl;rfl;exact Sub.agg (.cons (Sub.row _ _) fS);exact wL)
 |some t=>
  have ar:=fZ (l:=c.ts.map A4.c) (cM (f:=A4.c) hx);have aR:=fM hx;have a2:=ad t (gE hx);have g1:(c.ts.map A4.c)[((i:Nat):Int).toNat]?=some [S t.n,.sl (t.cols.map B8.c)]:=by rw[iN,gP,hx];rfl
  have n1:(c.ts.take (i+1)).map A4.c=(c.ts.take i).map A4.c++ [[S t.n,.sl (t.cols.map B8.c)]]:=by rw[dv hx,pA];rfl
  have l1:((c.ts.take i).map A4.c).length=i:=by simp;omega
  have k1: ∀e∈(c.ts.take i).map A4.c,e.length=2:=fun e he=>by obtain⟨y,_,rfl⟩:=mM he;rfl
  have kc:=Lf (t.cols.map B8.c) (fun e he=>by obtain⟨y,_,rfl⟩:=mM he;rfl) (by rw[lM];omega);generalize (c.ts.take i).map A4.c=es at*
  clear ad;(repeat' first|intro hb hp|(refine LW.is ?_;first|apply bJ;rfl;rfl;rfl;rfl;exact k1;(first|exact T U|exact bB U bV);(simp[maxLen,ah,l1];omega);(simp[ah,l1];omega);rfl;rfl)|refine am ?_|refine al ?_ ?_|fail)
  refine L.onlyS [22,21,20,2,3] [1010,2,3] U ?_;refine Ca 3 34 108 U sP U U U (.cons .row (.cons .same .nil)) ?_;refine hK _ (i+1) trivial C (Wk.mk' kK F5 (wB (wB (.cons U U (Subs.cons (Sub.of_eq (congrArg (AV.row 108) n1.symm)) fS) .nil))) (.cons U .nil))
def twoS(x:Pr):List Str:= [x.1,x.2]
def flatM(ps:List Pg):List Str:=(az ps).flatMap twoS
def flatM_take{ps:List Pg}{i:Nat}{p:Pg}(h:ps[i]?=some p):flatM (ps.take (i+1))=flatM (ps.take i)++p.prs.flatMap twoS:=by
 rw[flatM,flatM,dv h,az,az,List.flatMap_append,List.flatMap_append];simp
def two_len: ∀l:List Pr,(l.flatMap twoS).length=2*l.length
 | [] =>rfl
 |x::l=>by rw[List.flatMap_cons,gV,two_len l,lC];simp[twoS];omega
def flatP_take(ps:List Pg)(i:Nat):(az (ps.take i)).length<=(az ps).length:=by
 conv=>rhs;rw[<-List.take_append_drop i ps,az,List.flatMap_append,gV]
 exact Nat.le_add_right _ _
def flat_any(ps:List Pg)(a6:ps.length<=1000000)(ad: ∀p∈ps,Eo p)(a7:(az ps).length<=1000000):
 CallA prog 63 [.agg [.iv (.sl (ps.map Pg.c))]] [] [] [] (.iv (.sl ((flatM ps).map Str.c))):=by
 refine iA func63 ntmps63 (fun w0 E0=> ?_);refine wz ?_;refine L.adopt 3 (s:=3) (t:=9) (k:=1) U U U ?_;refine ae (ι:=Nat) (fun i=>⟨[(11,aI (i:Int)),(10,aI ((ps.map Pg.c).length:Int)),(9,.iv (.sl (ps.map Pg.c))),(3,.row 3 ((flatM (ps.take i)).map Str.c))],[],[(3,⟨9,1⟩)]⟩) (fun i=>ps.length - i) (fun i=>True) (i0:=0) ?_ trivial ?_
 · exact wL
 intro i _ K hK;cases hx:ps[i]? with
 |none=>
  have a0:=gc (l:=ps.map Pg.c) (bz hx);rw[br hx];clear hK;refine wz ?_;all_goals refine aU ?_
  all_goals rfl
 |some p=>
  have a0:=fZ (l:=ps.map Pg.c) (cM (f:=Pg.c) hx);have a4:=fM hx;obtain⟨_,a8,a9⟩:=ad p (gE hx);have g1:(ps.map Pg.c)[((i:Nat):Int).toNat]?=some [.sl (p.ks.map Str.c),.sl (p.vs.map Str.c)]:=by rw[iN,gP,hx];rfl
  have hF:=flatM_take hx;have a1:p.prs.length=p.ks.length:=by rw[Pg.prs,List.length_zip];omega
  have a2:(flatM (ps.take i)).length+2*p.prs.length<=2000000:=by
   have h1:=two_len (az (ps.take (i+1)));have h2:=flatP_take ps (i+1);have h3:(flatM (ps.take (i+1))).length=(flatM (ps.take i)).length+2*p.prs.length:=by rw[hF,gV,two_len]
   rw[flatM] at h3;omega
  generalize flatM (ps.take i)=F at*
  clear ad;refine wz ?_;refine ae (ι:=Nat) (fun j=>⟨[(18,aI (j:Int)),(17,aI ((p.ks.map Str.c).length:Int)),(16,.iv (.sl (p.ks.map Str.c))),(5,.ptr 5 0),(11,aI (i:Int)),(10,aI ((ps.map Pg.c).length:Int)),(9,.iv (.sl (ps.map Pg.c))),(3,.row 3 ((F++(p.prs.take j).flatMap twoS).map Str.c))],
   [(5,⟨93,.l [.iv (.sl (p.ks.map Str.c)),.iv (.sl (p.vs.map Str.c))]⟩)],[(3,⟨9,1⟩)]⟩) (fun j=>p.ks.length - j) (fun j=>True) (i0:=0) ?_ trivial ?_
  · rw[List.take_zero,List.flatMap_nil,List.append_nil];exact wL
  intro j _ K2 ar;cases hy:p.ks[j]? with
  |none=>
   have aR:=gc (l:=p.ks.map Str.c) (bz hy);have hj:p.prs.take j=p.prs:=tL (by rw[a1];exact gO hy);rw[hj,<-hF];clear ar;refine wz ?_;refine hK _ (i+1) trivial C ?_;exact wL
  |some k=>
   have aR:=fZ (l:=p.ks.map Str.c) (cM (f:=Str.c) hy);have a3:=fM hy;obtain⟨v,hv⟩: ∃v,p.vs[j]?=some v:=⟨_,gG C⟩
   have hz:p.prs[j]?=some (k,v):=by rw[Pg.prs,List.getElem?_zip_eq_some];exact⟨hy,hv⟩
   have g2:(p.ks.map Str.c)[((j:Nat):Int).toNat]?=some [S k]:=by rw[iN,gP,hy];rfl
   have g3:(p.vs.map Str.c)[((j:Nat):Int).toNat]?=some [S v]:=by rw[iN,gP,hv];rfl
   have a5:decide ((j:Int)<((p.vs.map Str.c).length:Int))=true:=decide_eq_true (by rw[lM];omega);have n2:(F++(p.prs.take (j+1)).flatMap twoS).map Str.c=((F++(p.prs.take j).flatMap twoS).map Str.c++ [[S k]])++ [[S v]]:=by
    rw[dv hz,List.flatMap_append,<-List.append_assoc,pA (l₁:=F++(p.prs.take j).flatMap twoS),List.append_assoc];rfl
   have l2:((F++(p.prs.take j).flatMap twoS).map Str.c).length<=2000000:=by
    rw[lM,gV,two_len,lT];omega
   have k2: ∀e∈(F++(p.prs.take j).flatMap twoS).map Str.c,e.length=1:=fun e he=>by obtain⟨y,_,rfl⟩:=mM he;rfl
   generalize (F++(p.prs.take j).flatMap twoS).map Str.c=es at*
   have k3: ∀e∈es++ [[S k]],e.length=1:=fun e he=>by
    rcases mA he with he|he
    · exact k2 e he
    · rw[List.mem_singleton.1 he];rfl
   clear hK hF a2;(repeat' first|intro hb hp|(refine LW.is ?_;first|refine bJ U U U U (by first|exact k2|exact k3) (by first|exact T U|exact bB U bV) (by simp[maxLen,ah];omega) (by simp[ah];omega) U U ?_)|refine am ?_|refine al ?_ ?_|fail)
   refine L.onlyS [18,17,16,5,11,10,9,3] [5] U ?_;refine L.retok 3 39 3 U U U U ?_;refine ar _ (j+1) trivial C (Wk.mk' kK (wF (wF (wF (wF (wF (wF (wF (.cons U (Sub.of_eq (congrArg (AV.row 3) n2.symm)) .nil)))))))) B1 (.cons U .nil))
def sameTexts_any(l:List Str)(hl:l.length<=100000000):CallA prog 62 [.iv (.sl (l.map Str.c)),.iv (.sl (l.map Str.c))] [] [] [] (aB true):=by
 have q0:((((l.map Str.c).length:Nat):Int) !=(((l.map Str.c).length:Nat):Int))=false:=by simp
 refine iA func62 ntmps62 (fun w0 E0=> ?_);refine wz ?_;refine ae (ι:=Nat) (fun i=>⟨[(13,aI (i:Int)),(12,aI ((l.map Str.c).length:Int)),(0,.iv (.sl (l.map Str.c))),(1,.iv (.sl (l.map Str.c)))],[],[]⟩) (fun i=>l.length - i) (fun i=>True) (i0:=0) ?_ trivial ?_
 · exact wL
 intro i _ K hK;cases T:l[i]? with
 |none=>
  have ad:=gc (l:=l.map Str.c) (bz T);clear hK;refine wz ?_;all_goals refine aU ?_
  all_goals rfl
 |some x=>
  have ad:=fZ (l:=l.map Str.c) (cM (f:=Str.c) T);have ar:=fM T;have g1:(l.map Str.c)[((i:Nat):Int).toNat]?=some [S x]:=by rw[iN,gP,T];rfl
  have q1:(!(x==x))=false:=by simp
  refine wz ?_;refine hK _ (i+1) trivial C ?_;exact wL
def sameRows_any(R:List (List A3))(hl:R.length<=100000000)(hr: ∀r∈R,r.length<=100000000):CallA prog 22 [.iv (.sl (R.map ai)),.iv (.sl (R.map ai))] [] [] [] (aB true):=by
 have q0:((((R.map ai).length:Nat):Int) !=(((R.map ai).length:Nat):Int))=false:=by simp
 refine iA func22 ntmps22 (fun w0 E0=> ?_);refine wz ?_;refine ae (ι:=Nat) (fun i=>⟨[(14,aI (i:Int)),(13,aI ((R.map ai).length:Int)),(0,.iv (.sl (R.map ai))),(1,.iv (.sl (R.map ai)))],[],[]⟩) (fun i=>R.length - i) (fun i=>True) (i0:=0) ?_ trivial ?_
 · exact wL
 intro i _ K hK;cases T:R[i]? with
 |none=>
  have aR:=gc (l:=R.map ai) (bz T);clear hK;refine wz ?_;all_goals refine aU ?_
  all_goals rfl
 |some x=>
  have aR:=fZ (l:=R.map ai) (cM (f:=ai) T);have a1:=fM T;have a2:=hr x (gE T);have g1:(R.map ai)[((i:Nat):Int).toNat]?=some [.sl (x.map A3.c)]:=by rw[iN,gP,T];rfl
  have q1:((((x.map A3.c).length:Nat):Int) !=(((x.map A3.c).length:Nat):Int))=false:=by simp
  clear hr q0;refine wz ?_;refine ae (ι:=Nat) (fun j=>⟨[(33,aI (j:Int)),(32,aI ((x.map A3.c).length:Int)),(5,aI (i:Int)),(14,aI (i:Int)),(13,aI ((R.map ai).length:Int)),(0,.iv (.sl (R.map ai))),(1,.iv (.sl (R.map ai)))],[],[]⟩) (fun j=>x.length - j) (fun j=>True) (i0:=0) ?_ trivial ?_
  · exact wL
  intro j _ K2 ad;cases hy:x[j]? with
  |none=>
   have ar:=gc (l:=x.map A3.c) (bz hy);clear ad;refine wz ?_;refine hK _ (i+1) trivial C ?_;exact wL
  |some v=>
   have ar:=fZ (l:=x.map A3.c) (cM (f:=A3.c) hy);have a0:=fM hy;have g2:(x.map A3.c)[((j:Nat):Int).toNat]?=some [I v.k,I v.n,S v.s]:=by rw[iN,gP,hy];rfl
   have q2:(!((v.k==v.k) && ((v.n==v.n) && ((v.s==v.s) && true))))=false:=by simp
   clear hK;refine wz ?_;refine ad _ (j+1) trivial C ?_;exact wL
def sameReply_any(r:D3)(hl:r.rows.length<=100000000)(hr: ∀x∈r.rows,x.length<=100000000):CallA prog 31 [r.av,r.av] [] [] [] (aB true):=by
 have k:=sameRows_any r.rows hl hr;have T:(r.code==r.code)=true:=by simp
 have q2:(r.n==r.n)=true:=by simp
 refine iA func31 ntmps31 (fun w0 E0=> ?_);refine wz ?_;all_goals refine aU ?_
 all_goals rfl
def sameCat_any(c:B0)(a4:c.ts.length<=1000)(a5:c.is.length<=1000)(ar: ∀t∈c.ts,t.cols.length<=1000):
 CallA prog 61 [.agg (c.c.map .iv),.agg (c.c.map .iv)] [] [] [] (aB true):=by
 have q0:((((c.ts.map A4.c).length:Nat):Int) !=(((c.ts.map A4.c).length:Nat):Int))=false:=by simp
 have a2:((((c.is.map A7.c).length:Nat):Int) !=(((c.is.map A7.c).length:Nat):Int))=false:=by simp
 refine iA func61 ntmps61 (fun w0 E0=> ?_);refine wz ?_;refine ae (ι:=Nat) (fun i=>⟨[(28,aI (i:Int)),(27,aI ((c.ts.map A4.c).length:Int)),(26,.iv (.sl (c.ts.map A4.c))),(2,.ptr 2 0),(3,.ptr 3 0)],[(2,⟨47,.l (c.c.map .iv)⟩),(3,⟨47,.l (c.c.map .iv)⟩)],[]⟩) (fun i=>c.ts.length - i) (fun i=>True) (i0:=0) ?_ trivial ?_
 · exact wL
 intro i _ K hK;cases T:c.ts[i]? with
 |none=>
  have ad:=gc (l:=c.ts.map A4.c) (bz T);clear hK;refine wz ?_;refine ae (ι:=Nat) (fun i=>⟨[(81,aI (i:Int)),(80,aI ((c.is.map A7.c).length:Int)),(2,.ptr 2 0),(3,.ptr 3 0)],[(2,⟨47,.l (c.c.map .iv)⟩),(3,⟨47,.l (c.c.map .iv)⟩)],[]⟩) (fun i=>c.is.length - i) (fun i=>True) (i0:=0) ?_ trivial ?_
  · exact wL
  intro i _ K hK;cases T:c.is[i]? with
  |none=>
   have ad:=gc (l:=c.is.map A7.c) (bz T);clear hK;refine wz ?_;all_goals refine aU ?_
   all_goals rfl
  |some x=>
   have ad:=fZ (l:=c.is.map A7.c) (cM (f:=A7.c) T);have aR:=fM T;have g1:(c.is.map A7.c)[((i:Nat):Int).toNat]?=some [S x.n,S x.tb,S x.co]:=by rw[iN,gP,T];rfl
   have q1:(!((x.n==x.n) && ((x.tb==x.tb) && ((x.co==x.co) && true))))=false:=by simp
   refine wz ?_;refine hK _ (i+1) trivial C ?_;exact wL
 |some t=>
  have ad:=fZ (l:=c.ts.map A4.c) (cM (f:=A4.c) T);have aR:=fM T;have a6:=ar t (gE T);have g1:(c.ts.map A4.c)[((i:Nat):Int).toNat]?=some [S t.n,.sl (t.cols.map B8.c)]:=by rw[iN,gP,T];rfl
  have q1:(!(t.n==t.n))=false:=by simp
  have q2:((((t.cols.map B8.c).length:Nat):Int) !=(((t.cols.map B8.c).length:Nat):Int))=false:=by simp
  clear ar q0 a2;refine wz ?_;refine ae (ι:=Nat) (fun j=>⟨[(58,aI (j:Int)),(57,aI ((t.cols.map B8.c).length:Int)),(5,aI (i:Int)),(6,.ptr 6 0),(28,aI (i:Int)),(27,aI ((c.ts.map A4.c).length:Int)),(26,.iv (.sl (c.ts.map A4.c))),(2,.ptr 2 0),(3,.ptr 3 0)],[(6,⟨57,.l (t.c.map .iv)⟩),(2,⟨47,.l (c.c.map .iv)⟩),(3,⟨47,.l (c.c.map .iv)⟩)],[]⟩) (fun j=>t.cols.length - j) (fun j=>True) (i0:=0) ?_ trivial ?_
  · exact wL
  intro j _ K2 a0;cases hy:t.cols[j]? with
  |none=>
   have a1:=gc (l:=t.cols.map B8.c) (bz hy);clear a0;refine wz ?_;refine hK _ (i+1) trivial C ?_;exact wL
  |some x=>
   have a1:=fZ (l:=t.cols.map B8.c) (cM (f:=B8.c) hy);have a3:=fM hy;have g2:(t.cols.map B8.c)[((j:Nat):Int).toNat]?=some [S x.n,I x.t,.im (.bool x.m)]:=by rw[iN,gP,hy];rfl
   have q3:(!((x.n==x.n) && ((x.t==x.t) && ((x.m==x.m) && true))))=false:=by simp
   clear hK;refine wz ?_;refine a0 _ (j+1) trivial C ?_;exact wL
end Go.Proofs.Y
namespace Go.Proofs.Y
open Go.Abs Go.Proofs.Tryz
attribute [local irreducible] L Code.wp bodyPost Exit.then Exit.inBlock
variable [C3]
def cat_wide{g:C0}(h:B6 g):g.cat.ts.length<=1000/\g.cat.is.length<=1000/\ ∀t∈g.cat.ts,t.cols.length<=1000:=by
 obtain⟨_,D,T⟩:=h;have h1:=T.db.cat.tl;have h2:=T.db.cat.il;exact⟨by omega,by omega,fun t ht=>by have:=T.db.cat.wide ht;omega⟩
def catalog_all(g:C0)(h:B6 g):CallG cH prog 23 [.ptr 1010 0] [(1010,g.b)] [(1010,g.b)] [] (.agg (g.cat.c.map .iv)):=by
 obtain⟨h1,h2,h3⟩:=cat_wide h;exact catalog_any g.cat g.ps g.n h1 h2 h3
def same_any(g h:C0)(hg:B6 g)(hh:B6 h)(hc:h.cat=g.cat)(hp:h.ps=g.ps):
 CallG cH prog 34 [.ptr 1010 0,.ptr 1011 0] [(1010,g.b),(1011,h.b)] [(1010,g.b),(1011,h.b)] [] (aB true):=by
 obtain⟨c1,c2,c3⟩:=cat_wide hg;obtain⟨p1,p2,p3⟩:=AF hg;have kc:=catalog_all g hg;have kd:=(catalog_all h hh).sws [(1010,1011)] (args2:= [.ptr 1011 0]) (bx2:= [(1011,h.b)]) (bx2':= [(1011,h.b)]) (tk2':= []) (res2:= .agg (h.cat.c.map .iv)) U U U U U;have kt:=zW g hg;have T:=(zW h hh).sws [(1010,1011)] (args2:= [.ptr 1011 0]) (bx2:= [(1011,h.b)]) (bx2':= [(1011,h.b)]) (tk2':= []) (res2:= .agg [.iv (.sl (h.ps.map Pg.c))]) U U U U U;rw[hc] at kd;rw[hp] at T;have ks:=sameCat_any g.cat c1 c2 c3;have kf:=flat_any g.ps C p2 C;have kx:=sameTexts_any (flatM g.ps) (by rw[flatM,two_len];omega);refine iG func34 ntmps34 (fun w0 E0 hG=> ?_);(repeat' first|intro hb hp|refine ac [] rfl hG kc fS B1 rfl rfl rfl rfl ?_|refine ac [] rfl hG kd fS B1 rfl rfl rfl rfl ?_|refine ac [] rfl hG kt fS B1 rfl rfl rfl rfl ?_|refine ac [] rfl hG T fS B1 rfl rfl rfl rfl ?_|refine am ?_|refine al ?_ ?_|fail)
 all_goals exact L.ends U U sE wK
def quiet_any{gs:aw}(x:Str)(r:D3):CallG gs prog 16 ([.ptr 1010 0,.agg [aS x],r.av] ++ []) [] [] [] (aB true):=by
 refine iG func16 ntmps16 (fun w0 E0 T=> ?_);refine wz ?_;all_goals exact L.ends U U sE wK
def playGo(g:C0)(l:List Str):C0:=l.foldl (fun g x=>(fz g x).1) g
def playM(l:List Str):C0:=playGo eng0 (l.take 40)
def playGo_ok: ∀(l:List Str) {g:C0},B6 g->B6 (playGo g l)
 | [],_,h=>h
 |x::l,g,h=>playGo_ok l (la h x)
def play_ok(l:List Str):B6 (playM l):=playGo_ok _ tW
def play_any(l:List Str)(hl:l.length<=140737488355328):
 CallG cH prog 15 [.iv (.sl (l.map Str.c)),.fn 16 []] [] [(1010,(playM l).b)] [] (.tup [.ptr 1010 0,aB true]):=by
 have ka:=FU;have kn:=Er (gs:=cH);generalize hZ:playM l=Z;refine iG func15 ntmps15 (fun w0 E0 hG=> ?_);(repeat' first|intro hb hp|refine ac [1010] rfl hG kn .nil .nil rfl rfl rfl rfl ?_|refine am ?_|refine al ?_ ?_|fail)
 refine ae (ι:=Nat×C0) (fun i=>⟨[(7,aI (i.1:Int)),(0,.iv (.sl (l.map Str.c))),(1,.fn 16 []),(6,.ptr 1010 0)],[(1010,i.2.b)],[]⟩) (fun i=>l.length - i.1) (fun i=>B6 i.2/\i.1<=40/\playGo i.2 ((l.take 40).drop i.1)=Z) (i0:=(0,eng0)) ?_ ⟨tW,by decide,hZ⟩ ?_
 · exact wL
 rintro ⟨i,g⟩ ⟨hg,hi,T⟩ K hK;dsimp only at hg hi T hK;by_cases ar:i<40
 case neg=>
  have q2:decide ((i:Int)<40)=false:=decide_eq_false C;rw[dL (by rw[lT];omega)] at T;have T:g=Z:=T;subst T;clear hK;by_cases a2:i<l.length
  · have q1:decide ((i:Int)<((l.map Str.c).length:Int))=true:=decide_eq_true (by rw[lM];omega);refine wz ?_;all_goals exact L.ends U U fR wK
  · have q1:decide ((i:Int)<((l.map Str.c).length:Int))=false:=decide_eq_false (by rw[lM];omega);refine wz ?_;all_goals exact L.ends U U fR wK
 have q2:decide ((i:Int)<40)=true:=decide_eq_true C;cases hx:l[i]? with
 |none=>
  have q1:=gc (l:=l.map Str.c) (bz hx);rw[dL (by rw[lT];have:=gO hx;omega)] at T;have T:g=Z:=T;subst T;clear hK;refine wz ?_;all_goals exact L.ends U U fR wK
 |some x=>
  have q1:=fZ (l:=l.map Str.c) (cM (f:=Str.c) hx);have a1:=fM hx;have g1:(l.map Str.c)[((i:Nat):Int).toNat]?=some [S x]:=by rw[iN,gP,hx];rfl
  have ad:(l.take 40)[i]?=some x:=by rw[List.getElem?_take,if_pos ar];exact hx
  have aR:(l.take 40).drop i=x::(l.take 40).drop (i+1):=fu ad;rw[aR] at T;have kd:=oI g hg x;have a0:=la hg x;have kq:=quiet_any (gs:=cH) x (fz g x).2;(repeat' first|intro hb hp|refine ac [] rfl hG kd fS B1 rfl rfl rfl rfl ?_|refine DR.is (eY (f:=16) U hG U kq U .nil U U U ?_)|refine am ?_|refine al ?_ ?_|fail)
  exact hK _ (i+1,(fz g x).1) ⟨a0,by omega,T⟩ oD wL
end Go.Proofs.Y
namespace Go.Proofs.Y
open Go.Abs
attribute [local irreducible] L Code.wp bodyPost Exit.then Exit.inBlock
def Hz(c:B0)(ps:List Pg)(s:A9):(cK c ps s).rep.code=0:=by
 unfold cK;repeat' split
 all_goals rfl
def yc: ∀(l:List A9) {c:B0} {ps:List Pg} {r:D3} {i:Int} {x:B0×List Pg×D3},r.code=0->ib c ps r i l= .ok x->x.2.2.code=0
 | [],c,ps,r,i,x,h,T=>by
   rw[ib] at T;cases T;exact h
 |s::l,c,ps,r,i,x,h,T=>by
  rw[ib] at T;split at T
  · cases T
  split at T
  · cases T
  exact yc l (Hz _ _ _) T
variable [C3]
end Go.Proofs.Y
namespace Go.Proofs.Y
open Go.Abs
attribute [local irreducible] L Code.wp bodyPost Exit.then Exit.inBlock
def MI(g:C0)(x:Str):(fz g x).1.n<=g.n+1/\g.n<=(fz g x).1.n:=by
 unfold fz;split
 · exact⟨by dsimp only;omega,by dsimp only;omega⟩
 split
 · exact⟨by dsimp only;omega,by dsimp only;omega⟩
 split
 · exact⟨by dsimp only;omega,by dsimp only;omega⟩
 · exact⟨by dsimp only;omega,by dsimp only;omega⟩
def AE: ∀(l:List Str) (g:C0),(playGo g l).n<=g.n+l.length
 | [],g=>by show g.n<=_;omega
 |x::l,g=>by
  have h1:=AE l (fz g x).1;have h2:=(MI g x).1;have e:playGo g (x::l)=playGo (fz g x).1 l:=rfl;rw[e,lC];omega
def Lw(l:List Str):(playM l).n<=40:=by
 have:=AE (l.take 40) eng0;have e:eng0.n=0:=rfl;rw[lT] at this;rw[playM];omega
def Ag(c:B0)(ps:List Pg)(x:Str):B0×List Pg×D3:=
 if(cj x).2≠0 then(c,ps,⟨(cj x).2,0,[]⟩)
 else match ib c ps ln 0 (cj x).1 with
  | .error e=>(c,ps,⟨e.1,e.2,[]⟩)
  | .ok r=>r
def zr{c:B0}{ps:List Pg}{n:Int}{x:Str}(h:n<150):fz ⟨c,ps,n⟩ x=(⟨(Ag c ps x).1,(Ag c ps x).2.1,n+1⟩,(Ag c ps x).2.2):=by
 have h1: ¬150<=n:=C;unfold fz Ag;dsimp only;rw[if_neg h1];by_cases h2:(cj x).2≠0
 · rw[if_pos h2,if_pos h2]
 · rw[if_neg h2,if_neg h2];cases ib c ps ln 0 (cj x).1<;>rfl
def Fh(s:A9)(w:Nat)(J:List (List A3)):(Al s w J).length<=J.length/\ ∀r∈Al s w J,r.length=s.out.length:=by
 refine⟨?_,fun r hr=> ?_⟩
 · rw[Al,lM];refine Nat.le_trans (m:=((J.filter (bL s.wh)).mergeSort (cL (dc s w))).length) ?_ (by rw[List.length_mergeSort];exact List.length_filter_le ..);unfold qN;split
   · rw[lT];omega
   · exact Nat.le_refl _
 · obtain⟨x,_,rfl⟩:=mM hr;rw[yQ,lM]
def ym(r:D3):Prop:=r.rows.length<=1000000/\ ∀x∈r.rows,x.length<=1000000
def my(a b:Int):ym ⟨a,b,[]⟩:=⟨by simp,by simp⟩
def Fl{c:B0}{ps:List Pg}{D:Str->List (List A3)}(h:EI c ps D){s b:A9}(hs:D8 s)(hb:aJ c s=(b,0)):ym (cK c ps b).rep:=by
 obtain⟨hg,a4,hp⟩:=ee hb;have a5:=(eD hp).1;by_cases h7:b.kind=7
 · have T:=He C hp;rw[cK,if_neg C,if_neg C,if_neg C,if_neg C,if_neg C,if_pos h7];have a3:=T.len;have a1: ∀m∈s.frm,(ab c m).2=true:=fun m hm=>by
    obtain⟨i,hi⟩:=List.getElem?_of_mem hm;exact T.tab i m hi
   have a6:lU (s.frm.map fun n=>(ab c n).1)<=8:=Nat.le_trans (wc h.db.cat a1) C;have a7:=T.outL;have a8:=hs.out;obtain⟨n0,ad⟩: ∃n0,s.frm[0]?=some n0:=⟨_,gG C⟩
   have hm:=(bU (T.tab 0 n0 ad)).1;have ar:b.frm.getD 0 [] =n0:=by rw[T.frm,List.getD_eq_getElem?_getD,ad];rfl
   obtain⟨f1,f2,f3,_⟩:=jX h.db hm b.wh;have a9:=h.few _ hm;have ba:b.frm.length=s.frm.length:=by rw[T.frm]
   obtain⟨s1,s2⟩:=Fh b (ab c n0).1.cols.length (og c ps b (ci ps (ab c n0).1 (bO c (ab c n0).1 0 b.wh)));refine⟨?_,fun x hx=> ?_⟩
   · show(jM c ps b).length<=1000000;rw[jM,ar];refine Nat.le_trans s1 ?_;unfold og;split
     · rename_i h2;obtain⟨n1,aR⟩: ∃n1,s.frm[1]?=some n1:=⟨_,gG C⟩
       have a0:=(bU (T.tab 1 n1 aR)).1;have a2:b.frm.getD 1 [] =n1:=by rw[T.frm,List.getD_eq_getElem?_getD,aR];rfl
       have bh:=h.few _ a0;rw[a2];refine Nat.le_trans (kY (k:=30) (fun x hx=> ?_)) C;rw[lM];have:=(rq h.db a0 x (bo x b.wh)).2.2.1;omega
     · omega
   · have hx:x∈jM c ps b:=hx;rw[jM,ar] at hx;have:=s2 x hx;omega
 · unfold cK;repeat' split
   all_goals first|exact my _ _|exact absurd (by assumption) h7
def vH: ∀(l:List A9) {c:B0} {ps:List Pg} {r:D3} {i:Int} {x:B0×List Pg×D3},(∃D,EI c ps D)->(∀s∈l,D8 s)->ym r->ib c ps r i l= .ok x->ym x.2.2
 | [],c,ps,r,i,x,_,_,h,T=>by
   rw[ib] at T;cases T;exact h
 |s::l,c,ps,r,i,x,⟨D,hd⟩,hs,h,T=>by
  rw[ib] at T;split at T
  · cases T
  split at T
  · cases T
  rename_i h1 _;have hb:aJ c s=((aJ c s).1,0):=Prod.ext U (Decidable.not_not.1 h1);exact vH l (rN hd hb) (fun s' ad=>hs s' (List.mem_cons_of_mem _ ad)) (Fl hd (hs s (List.mem_cons_self ..)) hb) T
def Bs{g:C0}(h:B6 g)(x:Str):ym (fz g x).2:=by
 unfold fz;split
 · exact my _ _
 split
 · exact my _ _
 split
 · exact my _ _
 · rename_i r hr;exact vH _ h.db (ut x) (my _ _) hr
variable [C3]
end Go.Proofs.Y
namespace Go.Proofs.Y
open Go.Abs
def stp(w:Str):Prop:=w= [59] \/w= [41]
structure Loc {α:Type} (f:Rd->α×Rd):Prop where
 sf: ∀r,Sf r (f r).2
 bd: ∀r,(f r).2.bad=false->r.bad=false
 lc: ∀(c p:List Str) (w:Str) (x:List Str) (v:α),stp w->f ⟨c++w::x,false⟩=(v,⟨p++w::x,false⟩)-> ∀(w':Str) (y:List Str),stp w'->f ⟨c++w'::y,false⟩=(v,⟨p++w'::y,false⟩)
section
variable {a s t:Rd->Ex×Rd}{b:Bool}{c ws x:List Str}{op:Int}{r:Rd}{w:Str}{α:Type}
def Loc.bind{β:Type}{f:Rd->α×Rd}{g:α->Rd->β×Rd}(hf:Loc f)(T: ∀a,Loc (g a)):Loc (fun r=>g (f r).1 (f r).2) where
 sf r:=(hf.sf r).trans ((T _).sf _)
 bd r h:=hf.bd _ ((T _).bd _ h)
 lc c p w x v hw h w' y ad:=by
  try dsimp only at h|-
  generalize hq:f ⟨c++w::x,false⟩=q at h;obtain⟨a,l,b⟩:=q;try dsimp only at h
  have nb:b=false:=(T a).bd ⟨l,b⟩ (by rw[h]);subst nb;obtain⟨t,ht⟩:=((T a).sf ⟨l,false⟩).h;rw[h] at ht;dsimp only at ht;have e1:l=(t++p)++w::x:=by rw[<-ht,List.append_assoc]
  subst e1;rw[hf.lc c (t++p) w x a hw hq w' y ad];exact(T a).lc (t++p) p w x v hw h w' y ad
def Loc.pure(v:α):Loc (fun r=>(v,r)) where
 sf r:= .refl r
 bd r h:=h
 lc c p w x u hw h w' y T:=by
  injection h with h1 h2
  injection h2 with h3 h4
  rw[h1,List.append_cancel_right h3]
def Loc.marked(v:α):Loc (fun r=>(v,(⟨r.l,true⟩:Rd))) where
 sf r:= .mark r true
 bd r h:=by cases h
 lc c p w x u hw h w' y T:=by injection h with h1 h2;injection h2 with h3 h4;cases h4
def Loc.check(v:α)(b:Bool):Loc (fun r=>(v,(⟨r.l,r.bad||b⟩:Rd))) where
 sf r:= .mark r _
 bd r h:=by simp at h;exact h.1
 lc c p w x u hw h w' y T:=by
  injection h with h1 h2
  injection h2 with h3 h4
  rw[h1,List.append_cancel_right h3,h4]
def Loc.cond{c:Prop}[Decidable c]{f g:Rd->α×Rd}(T:Loc f)(hg:Loc g):Loc (fun r=>if c then f r else g r):=by
 by_cases h:c
 · simp only[if_pos h];exact T
 · simp only[if_neg h];exact hg
def Loc.ifb{v:α}{f:Rd->α×Rd}(T:Loc f):Loc (fun r=>if r.bad then(v,r) else f r) where
 sf r:=by
  show Sf r (if r.bad then(v,r) else f r).2;split
  · exact .refl r
  · exact T.sf r
 bd r h:=by
  try dsimp only at h
  split at h
  · exact h
  · exact T.bd r h
 lc c p w x u hw h w' y ad:=T.lc c p w x u hw h w' y ad
def Loc.ifbad{v:α}{f:Rd->α×Rd}(T:Loc f):Loc (fun r=>if r.bad then(v,(⟨r.l,true⟩:Rd)) else f r) where
 sf r:=by
  show Sf r (if r.bad then(v,(⟨r.l,true⟩:Rd)) else f r).2;split
  · exact .mark r true
  · exact T.sf r
 bd r h:=by
  try dsimp only at h
  split at h
  · cases h
  · exact T.bd r h
 lc c p w x u hw h w' y ad:=T.lc c p w x u hw h w' y ad
def at_bd(r:Rd)(ws:List Str):(ak r ws).2.bad=r.bad:=by
 unfold ak;split
 · rfl
 · split<;>rfl
def at_cut(hn: ∀u∈ws,¬stp u)(hw:stp w):ak ⟨c++w::x,b⟩ ws=if ws<+:c then(true,⟨c.drop ws.length++w::x,b⟩) else(false,⟨c++w::x,b⟩):=by
 unfold ak;dsimp only;by_cases T:ws<+:c
 · obtain⟨t,rfl⟩:=T;rw[if_neg sP,if_pos (by rw[eqSl_iff];simp),if_pos (List.prefix_append _ _)];simp
 · rw[if_neg T];split
   · rfl
   · rw[if_neg];intro h;rw[eqSl_iff] at h;by_cases hl:ws.length<=c.length
     · rw[tA hl] at h;exact T ⟨c.drop ws.length,by(conv=>lhs;rw[<-h]);rw[show(c.take ws.length).length=ws.length by rw[lT];omega,List.take_append_drop]⟩
     · refine hn w ?_ hw;rw[<-h,List.take_append];obtain⟨k,hk⟩: ∃k,ws.length - c.length=k+1:=⟨ws.length - c.length - 1,by omega⟩
       rw[hk];simp
def Loc.at(hn: ∀u∈ws,¬stp u):Loc (fun r=>ak r ws) where
 sf r:=aW r ws
 bd r h:=by rw[at_bd] at h;exact h
 lc c p w x v hw h w' y T:=by
  try dsimp only at h|-
  rw[at_cut hn hw] at h;rw[at_cut hn T];split at h
  · rename_i k;rw[if_pos k];injection h with h1 h2
    injection h2 with h3 h4
    rw[<-h1,List.append_cancel_right h3]
  · rename_i k;rw[if_neg k];injection h with h1 h2
    injection h2 with h3 h4
    rw[<-h1,List.append_cancel_right h3]
def Loc.opt{f g:Rd->α×Rd}(hn: ∀u∈ws,¬stp u)(hf:Loc f)(hg:Loc g):Loc (fun r=>if(ak r ws).1 then f (ak r ws).2 else g r) where
 sf r:=by
  show Sf r (if(ak r ws).1 then f (ak r ws).2 else g r).2;split
  · exact(aW r ws).trans (hf.sf _)
  · exact hg.sf r
 bd r h:=by
  try dsimp only at h
  split at h
  · have:=hf.bd _ h;rw[at_bd] at this;exact this
  · exact hg.bd r h
 lc c p w x v hw h w' y T:=by
  try dsimp only at h|-
  rw[at_cut hn hw] at h;rw[at_cut hn T];by_cases k:ws<+:c
  · rw[if_pos k] at h|-;exact hf.lc _ p w x v hw h w' y T
  · rw[if_neg k] at h|-;exact hg.lc c p w x v hw h w' y T
def at_in(h:ws<+:c):ak ⟨c++x,b⟩ ws=(true,⟨c.drop ws.length++x,b⟩):=by
 obtain⟨t,rfl⟩:=h;unfold ak;dsimp only;rw[if_neg sP,if_pos (by rw[eqSl_iff];simp)];simp
def take_in{p:List Str}(h:aL ⟨c++w::x,false⟩ ws=⟨p++w::x,false⟩):ws<+:c/\c.drop ws.length=p:=by
 have hs:(ak ⟨c++w::x,false⟩ ws).1=true:=by
  unfold aL at h;split at h
  · assumption
  · injection h with h3 h4;cases h4
 unfold aL at h;rw[if_pos hs] at h;unfold ak at h hs;dsimp only at h hs;by_cases k1:(c++w::x).length<ws.length
 · rw[if_pos k1] at hs;cases hs
 rw[if_neg k1] at hs h;by_cases k2:wt ((c++w::x).take ws.length) ws=true
 · rw[if_pos k2] at h;injection h with h3 h4
   have hl:=congrArg List.length h3;simp only[lD,gV,lC] at hl k1;have T:ws.length<=c.length:=C;rw[tA T,eqSl_iff] at k2;rw[List.drop_append_of_le_length T] at h3;exact⟨⟨c.drop ws.length,by(conv=>lhs;rw[<-k2]);rw[show(c.take ws.length).length=ws.length by rw[lT];omega,List.take_append_drop]⟩,List.append_cancel_right h3⟩
 · rw[if_neg k2] at hs;cases hs
def Loc.take(ws:List Str):Loc (fun r=>((),aL r ws)) where
 sf r:=bI r ws
 bd r h:=by
  dsimp only at h;unfold aL at h;split at h
  · rw[at_bd] at h;exact h
  · cases h
 lc c p w x v hw h w' y T:=by
  injection h with h1 h2
  obtain⟨i1,i2⟩:=take_in h2;unfold aL;rw[at_in i1,if_pos U,i2]
def Loc.next:Loc eB where
 sf:=tM
 bd r h:=by
  unfold eB at h;split at h
  · cases h
  · exact h
 lc c p w x v hw h w' y T:=by
  unfold eB at h|-;cases c with
  |nil=>
   split at h
   · injection h with h1 h2;injection h2 with h3 h4;cases h4
   · injection h with h1 h2;injection h2 with h3 h4
     have:=congrArg List.length h3;simp at this;omega
  |cons a c=>
   have e1:(⟨a::c++w::x,false⟩:Rd).front=a:=rfl;have e2:(⟨a::c++w'::y,false⟩:Rd).front=a:=rfl;rw[e1] at h;rw[e2];split at h
   · injection h with h1 h2;injection h2 with h3 h4;cases h4
   · rename_i k;rw[if_neg k];injection h with h1 h2
     injection h2 with h3 h4
     have h5:c=p:=List.append_cancel_right h3;rw[h1,<-h5];rfl
def Loc.name:Loc aq:=Loc.next.bind (g:=fun a r=>(a,⟨r.l,r.bad|| !bF a⟩)) (fun a=>Loc.check a _)
def Loc.number:Loc dj:=Loc.next.bind (g:=fun a r=>match CO a with|some n=>(n,r)|none=>(0,⟨r.l,true⟩)) (fun a=>by
 cases CO a with
 |none=>exact Loc.marked 0
 |some n=>exact Loc.pure n)
def Loc.ref:Loc qD:=Loc.name.bind (g:=fun s r=>if(ak r [[46]]).1 then(Ex.mk 2 af s (aq (ak r [[46]]).2).1 0 [],(aq (ak r [[46]]).2).2) else(.mk 2 af [] s 0 [],(ak r [[46]]).2)) (fun s=>
 (Loc.at (ws:= [[46]]) (by simp[stp])).bind (g:=fun b r=>if b then(Ex.mk 2 af s (aq r).1 0 [],(aq r).2) else(.mk 2 af [] s 0 [],r)) (fun b=>
   Loc.cond (Loc.name.bind (g:=fun t r=>(Ex.mk 2 af s t 0 [],r)) (fun t=>Loc.pure _)) (Loc.pure _)))
def psLit2(r:Rd):(A3×Bool)×Rd:=
 if r.front≠ [] /\lb (r.front.headD 0)=true then((⟨1,(dj r).1,[]⟩,true),(dj r).2)
 else if r.front≠ [] /\r.front.headD 0=39 then((uJ r.front,true),⟨(eB r).2.l,(eB r).2.bad|| !au (uJ r.front)⟩)
 else((af,false),r)
def front_cut(T:stp w)(b:Bool):psLit2 ⟨w::x,b⟩=((af,false),⟨w::x,b⟩):=by
 unfold psLit2;rw[show(⟨w::x,b⟩:Rd).front=w from rfl];rcases T with rfl|rfl
 · rw[if_neg dD,if_neg dD]
 · rw[if_neg dD,if_neg dD]
def Loc.lit2:Loc psLit2 where
 sf r:=by
  unfold psLit2;split
  · exact rD r
  split
  · exact(tM r).to _
  · exact .refl r
 bd r h:=by
  unfold psLit2 at h;split at h
  · exact Loc.number.bd r h
  split at h
  · simp at h;exact Loc.next.bd r h.1
  · exact h
 lc c p w x v hw h w' y T:=by
  cases c with
  |nil=>
   rw[List.nil_append,front_cut hw] at h;rw[List.nil_append,front_cut T];exact(Loc.pure (af,false)).lc [] p w x v hw h w' y T
  |cons a c=>
   unfold psLit2 at h|-;rw[show(⟨a::c++w::x,false⟩:Rd).front=a from rfl] at h;rw[show(⟨a::c++w'::y,false⟩:Rd).front=a from rfl];split at h
   · rename_i k;rw[if_pos k];exact(Loc.number.bind (g:=fun n r=>(((⟨1,n,[]⟩:A3),true),r)) (fun n=>Loc.pure _)).lc (a::c) p w x v hw h w' y T
   rename_i k;rw[if_neg k];split at h
   · rename_i k2;rw[if_pos k2];exact(Loc.next.bind (g:=fun _ r=>((uJ a,true),(⟨r.l,r.bad|| !au (uJ a)⟩:Rd))) (fun _=>Loc.check _ _)).lc (a::c) p w x v hw h w' y T
   · rename_i k2;rw[if_neg k2];exact(Loc.pure (af,false)).lc (a::c) p w x v hw h w' y T
def Loc.lit:Loc kM:=
 Loc.opt (ws:= [[110,117,108,108]]) (f:=fun r=>((af,true),r)) (g:=fun r=>if(ak r [[45]]).1 then(((⟨1,-(dj (ak r [[45]]).2).1,[]⟩:A3),true),(dj (ak r [[45]]).2).2) else psLit2 r) (by simp[stp]) (Loc.pure _)
  (Loc.opt (ws:= [[45]]) (f:=fun r=>(((⟨1,-(dj r).1,[]⟩:A3),true),(dj r).2)) (g:=psLit2) (by simp[stp]) (Loc.number.bind (g:=fun n r=>(((⟨1,-n,[]⟩:A3),true),r)) (fun n=>Loc.pure _)) Loc.lit2)
def lit_same(h:(kM r).1.2=false):(kM r).2=r:=by
 unfold kM at h|-;split at h
 · cases h
 rename_i T;rw[if_neg T];split at h
 · cases h
 rename_i k2;rw[if_neg k2];split at h
 · cases h
 rename_i k3;rw[if_neg k3];split at h
 · cases h
 rename_i k4;rw[if_neg k4]
def Loc.atom{o:Rd->Ex×Rd}(h:Loc o):Loc (qe o):=by
 have hl:Loc (fun r=>if(kM r).1.2 then(Ex.mk 1 (kM r).1.1 [] [] 0 [],(kM r).2) else qD r):=by
  have k:=Loc.lit.bind (g:=fun a r=>if a.2=true then(Ex.mk 1 a.1 [] [] 0 [],r) else qD r) (fun a=>Loc.cond (Loc.pure _) Loc.ref);have e:(fun r=>if(kM r).1.2 then(Ex.mk 1 (kM r).1.1 [] [] 0 [],(kM r).2) else qD r)=(fun r=>(fun(a:A3×Bool) r=>if a.2=true then(Ex.mk 1 a.1 [] [] 0 [],r) else qD r) (kM r).1 (kM r).2):=by
   funext r
   dsimp only;cases T:(kM r).1.2 with
   |true=>rfl
   |false=>rw[lit_same T]
  rw[e];exact k
 exact Loc.ifbad (Loc.opt (ws:= [[40]]) (f:=fun r=>((o r).1,aL (o r).2 [[41]])) (by simp[stp]) (h.bind (g:=fun e r=>(e,aL r [[41]])) (fun e=>(Loc.take [[41]]).bind (g:=fun _ r=>(e,r)) (fun _=>Loc.pure e))) hl)
def Loc.fuel{f:Rd->α×Rd}{F:Nat->Rd->α×Rd}(T: ∀n,Loc (F n))(he: ∀n r,r.l.length<n->f r=F n r):Loc f where
 sf r:=by rw[he (r.l.length+1) r C];exact(T _).sf r
 bd r h:=by rw[he (r.l.length+1) r C] at h;exact(T _).bd r h
 lc c p w x v hw h w' y ad:=by
  rw[he ((c++w::x).length+(c++w'::y).length+1) _ oD] at h|-;exact(T _).lc c p w x v hw h w' y ad
def Loc.sumL(h:Loc a): ∀(n:Nat) (e:Ex),Loc (lZ a n e)
 |0,e=>Loc.pure e
 |n+1,e=>Loc.ifb (Loc.opt (ws:= [[43]]) (f:=fun r=>lZ a n (Bm 3 e (a r).1) (a r).2) (by simp[stp]) (h.bind (g:=fun b r=>lZ a n (Bm 3 e b) r) (fun b=>Loc.sumL h n _))
   (Loc.opt (ws:= [[45]]) (f:=fun r=>lZ a n (Bm 4 e (a r).1) (a r).2) (by simp[stp]) (h.bind (g:=fun b r=>lZ a n (Bm 4 e b) r) (fun b=>Loc.sumL h n _)) (Loc.pure e)))
def sumL_fuel(h: ∀r,Sf r (a r).2): ∀(n m:Nat) (e:Ex) (r:Rd),r.l.length<n->r.l.length<m->lZ a n e r=lZ a m e r
 |0,_,_,_,hn,_=>by omega
 |_+1,0,_,_,_,hm=>by omega
 |n+1,m+1,e,r,hn,hm=>by
  unfold lZ;by_cases k:r.bad=true
  · rw[if_pos k,if_pos k]
  rw[if_neg k,if_neg k];by_cases T:(ak r [[43]]).1=true
  · have:=lS T dD;have:=(h (ak r [[43]]).2).le;rw[if_pos T,if_pos T,sumL_fuel h n m _ _ C C]
  rw[if_neg T,if_neg T];by_cases k2:(ak r [[45]]).1=true
  · have:=lS k2 dD;have:=(h (ak r [[45]]).2).le;rw[if_pos k2,if_pos k2,sumL_fuel h n m _ _ C C]
  rw[if_neg k2,if_neg k2]
def Loc.sum(h:Loc a):Loc (AC a):=
 Loc.fuel (F:=fun n r=>lZ a n (a r).1 (a r).2) (fun n=>h.bind (fun e=>Loc.sumL h n e)) (fun n r hn=>by
  have:=(h.sf r).le;exact sumL_fuel h.sf _ _ _ _ C C)
def Loc.joinL(T: ¬stp w)(h:Loc s): ∀(n:Nat) (e:Ex),Loc (gw op w s n e)
 |0,e=>Loc.pure e
 |n+1,e=>Loc.ifb (Loc.opt (ws:= [w]) (f:=fun r=>gw op w s n (Bm op e (s r).1) (s r).2) (by simp[T]) (h.bind (g:=fun b r=>gw op w s n (Bm op e b) r) (fun b=>Loc.joinL T h n _)) (Loc.pure e))
def joinL_fuel(h: ∀r,Sf r (s r).2): ∀(n m:Nat) (e:Ex) (r:Rd),r.l.length<n->r.l.length<m->gw op w s n e r=gw op w s m e r
 |0,_,_,_,hn,_=>by omega
 |_+1,0,_,_,_,hm=>by omega
 |n+1,m+1,e,r,hn,hm=>by
  unfold gw;by_cases k:r.bad=true
  · rw[if_pos k,if_pos k]
  rw[if_neg k,if_neg k];by_cases T:(ak r [w]).1=true
  · have:=lS T sP;have:=(h (ak r [w]).2).le;rw[if_pos T,if_pos T,joinL_fuel h n m _ _ C C]
  rw[if_neg T,if_neg T]
def Loc.join(T: ¬stp w)(h:Loc s):Loc (nY op w s):=
 Loc.fuel (F:=fun n r=>gw op w s n (s r).1 (s r).2) (fun n=>h.bind (fun e=>Loc.joinL T h n e)) (fun n r hn=>by
  have:=(h.sf r).le;exact joinL_fuel h.sf _ _ _ _ C C)
def Loc.or(h:Loc t):Loc (Mx t):=Loc.join (by simp[stp]) (Loc.join (by simp[stp]) h)
def Loc.test(ht:Loc t)(hs:Loc s):Loc (pZ t s):=
 Loc.ifbad (Loc.opt (ws:= [[110,111,116]]) (f:=fun r=>(ex1 9 (t r).1,(t r).2)) (by simp[stp]) (ht.bind (g:=fun e r=>(ex1 9 e,r)) (fun e=>Loc.pure _))
  (hs.bind (g:=fun e r=>if(ak r [[105,115],[110,117,108,108]]).1 then(ex1 10 e,(ak r [[105,115],[110,117,108,108]]).2) else if(ak r [[61]]).1 then(Bm 5 e (s (ak r [[61]]).2).1,(s (ak r [[61]]).2).2) else if(ak r [[60]]).1 then(Bm 6 e (s (ak r [[60]]).2).1,(s (ak r [[60]]).2).2) else(e,r)) (fun e=>
    Loc.opt (ws:= [[105,115],[110,117,108,108]]) (f:=fun r=>(ex1 10 e,r)) (by simp[stp]) (Loc.pure _)
     (Loc.opt (ws:= [[61]]) (f:=fun r=>(Bm 5 e (s r).1,(s r).2)) (by simp[stp]) (hs.bind (g:=fun b r=>(Bm 5 e b,r)) (fun b=>Loc.pure _))
       (Loc.opt (ws:= [[60]]) (f:=fun r=>(Bm 6 e (s r).1,(s r).2)) (by simp[stp]) (hs.bind (g:=fun b r=>(Bm 6 e b,r)) (fun b=>Loc.pure _)) (Loc.pure e))))))
def Loc.tt: ∀k,Loc (Lv k)
 |0=>Loc.marked nilE
 |k+1=>Loc.test (Loc.tt k) (Loc.sum (Loc.atom (Loc.or (Loc.tt k))))
def Loc.o(k:Nat):Loc (ma k):=Loc.or (Loc.tt k)
def Loc.listL{step:Rd->α×Rd}(h:Loc step): ∀(n:Nat) (l:List α),Loc (dM step n l)
 |0,l=>Loc.pure l
 |n+1,l=>Loc.ifb (h.bind (g:=fun a r=>if(ak r [[44]]).1 then dM step n (l++ [a]) (ak r [[44]]).2 else(l++ [a],(ak r [[44]]).2)) (fun a=>
   (Loc.at (ws:= [[44]]) (by simp[stp])).bind (g:=fun b r=>if b then dM step n (l++ [a]) r else(l++ [a],r)) (fun b=>Loc.cond (Loc.listL h n _) (Loc.pure _))))
def listL_fuel{step:Rd->α×Rd}(h: ∀r,Sf r (step r).2): ∀(n m:Nat) (l:List α) (r:Rd),r.l.length<n->r.l.length<m->dM step n l r=dM step m l r
 |0,_,_,_,hn,_=>by omega
 |_+1,0,_,_,_,hm=>by omega
 |n+1,m+1,l,r,hn,hm=>by
  unfold dM;by_cases k:r.bad=true
  · rw[if_pos k,if_pos k]
  rw[if_neg k,if_neg k];by_cases T:(ak (step r).2 [[44]]).1=true
  · have:=lS T dD;have:=(h r).le;rw[if_pos T,if_pos T,listL_fuel h n m _ _ C C]
  rw[if_neg T,if_neg T]
def Loc.list{step:Rd->α×Rd}(h:Loc step):Loc (aP step):=
 Loc.fuel (F:=fun n r=>dM step n [] r) (fun n=>Loc.listL h n []) (fun n r hn=>listL_fuel h.sf _ _ _ _ C hn)
def Loc.colEnd(n:Str)(t:Int):Loc (vO n t):=(Loc.at (ws:= [sG]) (by simp[stp,sG])).bind (g:=fun b r=>((⟨n,t,b⟩:B8),r)) (fun b=>Loc.pure _)
def Loc.col:Loc iq:=
 Loc.name.bind (g:=fun n r=>if(ak r [EU]).1 then vO n 1 (ak r [EU]).2 else if(ak r [wN]).1 then vO n 2 (ak r [wN]).2 else vO n 0 ⟨r.l,true⟩) (fun n=>
  Loc.opt (ws:= [EU]) (by simp[stp,EU]) (Loc.colEnd n 1) (Loc.opt (ws:= [wN]) (by simp[stp,wN]) (Loc.colEnd n 2) ((Loc.marked ()).bind (g:=fun _ r=>vO n 0 r) (fun _=>Loc.colEnd n 0))))
def Loc.wh:Loc dh:=Loc.opt (ws:= [rr]) (by simp[stp,rr]) (Loc.o 6) (Loc.pure nilE)
def Loc.row:Loc mE:=(Loc.take [[40]]).bind (g:=fun _ r=>((aP (ma 6) r).1,aL (aP (ma 6) r).2 [[41]])) (fun _=>(Loc.list (Loc.o 6)).bind (g:=fun l r=>(l,aL r [[41]])) (fun l=>(Loc.take [[41]]).bind (g:=fun _ r=>(l,r)) (fun _=>Loc.pure l)))
def Loc.set:Loc mB:=Loc.name.bind (g:=fun n r=>((⟨n,(ma 6 (aL r [[61]])).1⟩:D4),(ma 6 (aL r [[61]])).2)) (fun n=>(Loc.take [[61]]).bind (g:=fun _ r=>((⟨n,(ma 6 r).1⟩:D4),(ma 6 r).2)) (fun _=>(Loc.o 6).bind (g:=fun e r=>((⟨n,e⟩:D4),r)) (fun e=>Loc.pure _)))
def Loc.create:Loc mH:=
 Loc.name.bind (g:=fun n r=>({ia with kind:=1,name:=n,cols:=(aP iq (aL r [[40]])).1},aL (aP iq (aL r [[40]])).2 [[41]])) (fun n=>
  (Loc.take [[40]]).bind (g:=fun _ r=>({ia with kind:=1,name:=n,cols:=(aP iq r).1},aL (aP iq r).2 [[41]])) (fun _=>
    (Loc.list Loc.col).bind (g:=fun l r=>({ia with kind:=1,name:=n,cols:=l},aL r [[41]])) (fun l=>(Loc.take [[41]]).bind (g:=fun _ r=>({ia with kind:=1,name:=n,cols:=l},r)) (fun _=>Loc.pure _))))
def Loc.mark1:Loc (fun r=>((aq r).1,qE r)):=Loc.name.bind (g:=fun n r=>(n,aL r [wON])) (fun n=>(Loc.take [wON]).bind (g:=fun _ r=>(n,r)) (fun _=>Loc.pure n))
def Loc.mark2:Loc (fun r=>((aq r).1,tO r)):=Loc.name.bind (g:=fun n r=>(n,aL r [[40]])) (fun n=>(Loc.take [[40]]).bind (g:=fun _ r=>(n,r)) (fun _=>Loc.pure n))
def Loc.mark3:Loc (fun r=>((aq r).1,aL (aq r).2 [[41]])):=Loc.name.bind (g:=fun n r=>(n,aL r [[41]])) (fun n=>(Loc.take [[41]]).bind (g:=fun _ r=>(n,r)) (fun _=>Loc.pure n))
def Loc.mark:Loc rH:=
 Loc.mark1.bind (g:=fun n r=>({ia with kind:=2,name:=n,table:=(aq r).1,col:=(aq (tO r)).1},aL (aq (tO r)).2 [[41]])) (fun n=>
  Loc.mark2.bind (g:=fun t r=>({ia with kind:=2,name:=n,table:=t,col:=(aq r).1},aL (aq r).2 [[41]])) (fun t=>
   Loc.mark3.bind (g:=fun k r=>({ia with kind:=2,name:=n,table:=t,col:=k},r)) (fun k=>Loc.pure _)))
def Loc.drop:Loc uK:=Loc.name.bind (g:=fun n r=>({ia with kind:=3,name:=n},r)) (fun n=>Loc.pure _)
def Loc.insert:Loc mF:=
 Loc.name.bind (g:=fun n r=>({ia with kind:=4,table:=n,rows:=(aP mE (aL r [ic])).1},(aP mE (aL r [ic])).2)) (fun n=>
  (Loc.take [ic]).bind (g:=fun _ r=>({ia with kind:=4,table:=n,rows:=(aP mE r).1},(aP mE r).2)) (fun _=>
    (Loc.list Loc.row).bind (g:=fun l r=>({ia with kind:=4,table:=n,rows:=l},r)) (fun l=>Loc.pure _)))
def Loc.delete:Loc mG:=
 Loc.name.bind (g:=fun n r=>({ia with kind:=5,table:=n,wh:=(dh r).1},(dh r).2)) (fun n=>Loc.wh.bind (g:=fun e r=>({ia with kind:=5,table:=n,wh:=e},r)) (fun e=>Loc.pure _))
def Loc.upd1:Loc (fun r=>(((aq r).1,(nf r).1),(nf r).2)):=
 Loc.name.bind (g:=fun n r=>((n,(aP mB (aL r [tq])).1),(aP mB (aL r [tq])).2)) (fun n=>(Loc.take [tq]).bind (g:=fun _ r=>((n,(aP mB r).1),(aP mB r).2)) (fun _=>(Loc.list Loc.set).bind (g:=fun l r=>((n,l),r)) (fun l=>Loc.pure _)))
def Loc.update:Loc mz:=
 Loc.upd1.bind (g:=fun a r=>({ia with kind:=6,table:=a.1,sets:=a.2,wh:=(dh r).1},(dh r).2)) (fun a=>Loc.wh.bind (g:=fun e r=>({ia with kind:=6,table:=a.1,sets:=a.2,wh:=e},r)) (fun e=>Loc.pure _))
def Loc.out:Loc io:=(Loc.at (ws:= [[42]]) (by simp[stp]))|>fun _=>Loc.opt (ws:= [[42]]) (f:=fun r=>([],r)) (by simp[stp]) (Loc.pure []) (Loc.list (Loc.o 6))
def Loc.frm:Loc kP:=(Loc.take [fi]).bind (g:=fun _ r=>aP aq r) (fun _=>Loc.list Loc.name)
def Loc.ord:Loc jJ:=
 Loc.opt (ws:= [eZ,zB]) (f:=fun r=>(([(ma 6 r).1],(ak (ma 6 r).2 [wO]).1),(ak (ma 6 r).2 [wO]).2)) (by simp[stp,eZ,zB])
  ((Loc.o 6).bind (g:=fun e r=>(([e],(ak r [wO]).1),(ak r [wO]).2)) (fun e=>(Loc.at (ws:= [wO]) (by simp[stp,wO])).bind (g:=fun b r=>(([e],b),r)) (fun b=>Loc.pure _))) (Loc.pure ([],false))
def Loc.limit:Loc ip:=Loc.opt (ws:= [jY]) (by simp[stp,jY]) Loc.number (Loc.pure (-1))
def Loc.select:Loc mC:=
 Loc.out.bind (g:=fun o r=>({ia with kind:=7,out:=o,frm:=(kP r).1,wh:=(dh (kP r).2).1,ord:=(jJ (dh (kP r).2).2).1.1,down:=(jJ (dh (kP r).2).2).1.2,n:=(ip (jJ (dh (kP r).2).2).2).1},(ip (jJ (dh (kP r).2).2).2).2)) (fun o=>
  Loc.frm.bind (g:=fun f r=>({ia with kind:=7,out:=o,frm:=f,wh:=(dh r).1,ord:=(jJ (dh r).2).1.1,down:=(jJ (dh r).2).1.2,n:=(ip (jJ (dh r).2).2).1},(ip (jJ (dh r).2).2).2)) (fun f=>
   Loc.wh.bind (g:=fun e r=>({ia with kind:=7,out:=o,frm:=f,wh:=e,ord:=(jJ r).1.1,down:=(jJ r).1.2,n:=(ip (jJ r).2).1},(ip (jJ r).2).2)) (fun e=>
    Loc.ord.bind (g:=fun d r=>({ia with kind:=7,out:=o,frm:=f,wh:=e,ord:=d.1,down:=d.2,n:=(ip r).1},(ip r).2)) (fun d=>
     Loc.limit.bind (g:=fun n r=>({ia with kind:=7,out:=o,frm:=f,wh:=e,ord:=d.1,down:=d.2,n:=n},r)) (fun n=>Loc.pure _)))))
def Loc.stmt:Loc fe:=
 Loc.opt (by simp[stp,bq,bY]) Loc.create (Loc.opt (by simp[stp,bq,ew]) Loc.mark (Loc.opt (by simp[stp,iQ,bY]) Loc.drop (Loc.opt (by simp[stp,eu,jI]) Loc.insert (Loc.opt (by simp[stp,fj,fi]) Loc.delete (Loc.opt (by simp[stp,go]) Loc.update (Loc.opt (by simp[stp,ji]) Loc.select (Loc.marked ia)))))))
def ixb_app: ∀(r b:Str) (k:UInt8),0<=Lib.indexByte r k->Lib.indexByte (r++b) k=Lib.indexByte r k
 | [],b,k,h=>by simp[Lib.indexByte] at h
 |x::r,b,k,h=>by
  rw[List.cons_append];unfold Lib.indexByte at h|-;split
  · rfl
  · rename_i T;rw[if_neg T] at h;split at h
    · omega
    · rename_i h1;have g:=Lib.indexByte_ge r k;have h2: ¬Lib.indexByte r k= -1:=by simpa using h1
      have e:=ixb_app r b k C;rw[e]
def tw_app{p:UInt8->Bool}: ∀{r:Str} (b:Str),(r.takeWhile p).length<r.length->(r++b).takeWhile p=r.takeWhile p
 | [],b,h=>by simp at h
 |x::r,b,h=>by
  rw[List.cons_append];cases T:p x with
  |false=>simp[T]
  |true=>
   rw[List.takeWhile_cons,if_pos T,List.takeWhile_cons,if_pos T,tw_app b (by rw[List.takeWhile_cons,if_pos T] at h;simpa using h)]
def tok_app{c:UInt8}{r:Str}{n:Nat}(b:Str)(h:fc c r=some n)(hl:(c::r).drop n≠ [] \/c=59):fc c (r++b)=some n:=by
 have T:c≠59->n<r.length+1:=fun hc=>by
  rcases hl with hl|hl
  · have:=gU hl;simp only[lD,lC] at this;omega
  · exact absurd hl hc
 unfold fc at h|-;split
 · rename_i h1;rw[if_pos h1] at h;injection h with h
   have:=T (by intro e;subst e;simp[iP] at h1);rw[tw_app b C,h]
 rename_i h1;rw[if_neg h1] at h;split
 · rename_i h2;rw[if_pos h2] at h;injection h with h
   have:=T (by intro e;subst e;simp[lb] at h2);rw[tw_app b C,h]
 rename_i h2;rw[if_neg h2] at h;split
 · rename_i h3;rw[if_pos h3] at h;split at h
   · cases h
   · rename_i h4;rw[ixb_app r b 39 C,if_neg h4];exact h
 · rename_i h3;rw[if_neg h3] at h;exact h
def split_app(b:Str): ∀(k:Nat) (a:Str) (l:List Str),a.length<=k->cW a=some l->(l= [] \/l.getLast?=some [59])->cW (a++b)=(cW b).map (l++ ·)
 |_,[],l,_,h,_=>by
  rw[rB] at h;injection h with h;subst h
  simp
 |0,c::r,l,hk,_,_=>by simp at hk
 |k+1,c::r,l,hk,h,hl=>by
  simp only[lC] at hk;by_cases hb:c=32\/c=10
  · rw[sJ hb] at h;rw[List.cons_append,sJ hb];exact split_app b k r l C h hl
  cases ht:fc c r with
  |none=>rw[ul hb ht] at h;cases h
  |some n=>
   rw[uj hb ht] at h;have hn:=yz ht;cases hs:cW ((c::r).drop n) with
   |none=>rw[hs] at h;cases h
   |some l'=>
    rw[hs] at h;injection h with h
    have T:(c::r).drop n≠ [] \/c=59:=by
     by_cases T:(c::r).drop n= []
     · right
       rw[T,rB] at hs;injection hs with hs
       have e:(c::r).take n=c::r:=tL (by have:=congrArg List.length T;simp only[lD,List.length_nil,lC] at this|-;omega);rw[<-h,<-hs,e] at hl;rcases hl with hl|hl
       · cases hl
       · simp at hl;exact hl.1
     · exact .inl T
    have ar:=tok_app b ht T;have ad:n<=(c::r).length:=by
     rcases T with T|T
     · have:=gU T;simp only[lD] at this;omega
     · subst T;have:fc 59 r=some 1:=by unfold fc;rw[if_neg dD,if_neg dD,if_neg dD];decide
       rw[this] at ht;injection ht with ht;simp;omega
    have aR:l'= [] \/l'.getLast?=some [59]:=by
     cases l' with
     |nil=>exact .inl U
     |cons x l'=>
      right
      rw[<-h] at hl;rcases hl with hl|hl
      · cases hl
      · rw[List.getLast?_cons_cons] at hl;exact hl
    rw[List.cons_append,uj hb ar,<-List.cons_append,List.drop_append_of_le_length ad,tA ad,
     split_app b k ((c::r).drop n) l' (by simp only[lD,lC];omega) hs aR,<-h]
    cases cW b<;>rfl
def take_semi(h:(aL r [w]).bad=false): ∃l,r=⟨w::l,false⟩/\aL r [w] =⟨l,false⟩:=by
 obtain⟨l,b⟩:=r;unfold aL ak at h|-;dsimp only at h|-;by_cases k1:l.length< [w].length
 · rw[if_pos k1] at h;cases h
 rw[if_neg k1] at h|-;by_cases T:wt (l.take [w].length) [w] =true
 · rw[if_pos T] at h|-;rw[eqSl_iff] at T;cases l with
   |nil=>simp at k1
   |cons a l=>
    simp at T;subst T;refine⟨l,?_,?_⟩
    · congr 1
    · simp at h|-;exact h
 · rw[if_neg T] at h;cases h
def scriptL_of_bad(h:r.bad=true): ∀(n:Nat) (l:List A9),fH n l r=(l,r)
 |0,l=>rfl
 |n+1,l=>by unfold fH;rw[if_pos (.inr h)]
def scriptL_acc: ∀(n:Nat) (l:List A9) (r:Rd),fH n l r=(l++(fH n [] r).1,(fH n [] r).2)
 |0,l,r=>by simp[fH]
 |n+1,l,r=>by
  unfold fH;split
  · simp
  · rw[scriptL_acc n (l++ [(fe r).1]),scriptL_acc n ([] ++ [(fe r).1])];simp
def scriptL_bd: ∀(n:Nat) (l:List A9) (r:Rd),(fH n l r).2.bad=false->r.bad=false
 |0,l,r,h=>h
 |n+1,l,r,h=>by
  cases T:r.bad with
  |false=>rfl
  |true=>rw[scriptL_of_bad T] at h;rw[<-T];exact h
def script_fuel: ∀(n m:Nat) (l:List A9) (r:Rd),r.l.length<n->r.l.length<m->fH n l r=fH m l r
 |0,_,_,_,hn,_=>by omega
 |_+1,0,_,_,_,hm=>by omega
 |n+1,m+1,l,r,hn,hm=>by
  unfold fH;by_cases k:r.l= [] \/r.bad=true
  · rw[if_pos k,if_pos k]
  rw[if_neg k,if_neg k];cases T:(aL (fe r).2 [[59]]).bad with
  |true=>rw[scriptL_of_bad T,scriptL_of_bad T]
  |false=>
   obtain⟨l2,e1,e2⟩:=take_semi T;have:=(Loc.stmt.sf r).le;rw[e1] at this;simp only[lC] at this;rw[e2];exact script_fuel n m _ _ oD oD
def script_app: ∀(n:Nat) (l:List Str),l.length<n->(fH n [] ⟨l,false⟩).2.bad=false->
 (l= [] \/l.getLast?=some [59])/\ ∀(m:List Str) (k:Nat),(l++m).length<k->fH k [] ⟨l++m,false⟩=((fH n [] ⟨l,false⟩).1++(fH k [] ⟨m,false⟩).1,(fH k [] ⟨m,false⟩).2)
 |0,l,hn,_=>by omega
 |n+1,[],hn,h=>⟨.inl U,fun m k hk=>by
   have e:fH (n+1) [] ⟨[],false⟩=([],⟨[],false⟩):=by unfold fH;rw[if_pos (.inl U)]
   rw[e];rfl⟩
 |n+1,a::l,hn,h=>by
  have hc: ¬((⟨a::l,false⟩:Rd).l= [] \/(⟨a::l,false⟩:Rd).bad=true):=by simp
  have e0:fH (n+1) [] ⟨a::l,false⟩=fH n ([] ++ [(fe ⟨a::l,false⟩).1]) (aL (fe ⟨a::l,false⟩).2 [[59]]):=by
   conv=>lhs;unfold fH
   rw[if_neg hc]
  rw[e0] at h|-;have hb:=scriptL_bd _ _ _ h;obtain⟨T,e1,e2⟩:=take_semi hb;rw[e2] at h|-;rw[scriptL_acc] at h;generalize hq:fe ⟨a::l,false⟩=q at*
  obtain⟨s,r1⟩:=q;dsimp only at e1 h|-;subst e1;obtain⟨c,hs⟩:=(Loc.stmt.sf ⟨a::l,false⟩).h;rw[hq] at hs;dsimp only at hs;have ad:=congrArg List.length hs;simp only[gV,lC] at ad hn;obtain⟨i1,i2⟩:=script_app n T C h;refine⟨.inr ?_,fun m k hk=> ?_⟩
  · rw[<-hs];rcases i1 with i1|i1
    · subst i1;simp
    · rw[List.getLast?_append];cases T with
      |nil=>cases i1
      |cons x T=>rw[List.getLast?_cons_cons,i1];rfl
  · have hx:=Loc.stmt.lc c [] [59] T s (.inl U) (by rw[hs];exact hq) [59] (T++m) (.inl U);have ar:fe ⟨(a::l)++m,false⟩=(s,⟨[59]::(T++m),false⟩):=by
     rw[<-hs,List.append_assoc];exact hx
    obtain⟨k,rfl⟩: ∃k',k=k'+1:=⟨k - 1,by omega⟩
    have aR: ¬((⟨(a::l)++m,false⟩:Rd).l= [] \/(⟨(a::l)++m,false⟩:Rd).bad=true):=by simp
    have e3:fH (k+1) [] ⟨(a::l)++m,false⟩=fH k ([] ++ [s]) ⟨T++m,false⟩:=by
     conv=>lhs;unfold fH
     rw[if_neg aR,ar];rfl
    simp only[gV,lC] at hk;have e4:=scriptL_acc n ([] ++ [s]) ⟨T,false⟩;rw[e4,e3,scriptL_acc k ([] ++ [s]),i2 m k (by simp only[gV];omega),script_fuel (k+1) k [] ⟨m,false⟩ oD oD];simp
def ps_parts{s:Str}{l:List A9}(h:cj s=(l,0)):s.length<=1500/\l.length<=6/\ ∃t,cW s=some t/\fH (t.length+1) [] ⟨t,false⟩=(l,(fH (t.length+1) [] ⟨t,false⟩).2)/\(fH (t.length+1) [] ⟨t,false⟩).2.bad=false:=by
 unfold cj at h;split at h
 · cases h
 rename_i h1;split at h
 · cases h
 rename_i h2;split at h
 · cases h
 rename_i h3;injection h with h4 _
 subst h4;unfold nF at*
 cases hs:cW s with
 |none=>
  rw[hs] at h2;exfalso;apply h2;rw[scriptL_of_bad U]
 |some t=>
  rw[hs] at h2 h3;refine⟨by omega,Nat.le_of_not_lt h3,t,rfl,?_,by simpa using h2⟩;rfl
def ps_app{a b:Str}{x y:List A9}(ha:cj a=(x,0))(T:cj b=(y,0))(hl:a.length+b.length<=1500)(hn:x.length+y.length<=6):cj (a++b)=(x++y,0):=by
 obtain⟨_,_,t,s1,p1,b1⟩:=ps_parts ha;obtain⟨_,_,u,s2,p2,b2⟩:=ps_parts T;obtain⟨i1,i2⟩:=script_app (t.length+1) t C b1;have hs:cW (a++b)=some (t++u):=by rw[split_app b _ a t nR s1 i1,s2];rfl
 have e1:(fH (t.length+1) [] ⟨t,false⟩).1=x:=by rw[p1]
 have e2:(fH (u.length+1) [] ⟨u,false⟩).1=y:=by rw[p2]
 have e:=i2 u ((t++u).length+1) C;rw[script_fuel ((t++u).length+1) (u.length+1) [] ⟨u,false⟩ (by simp;omega) sP,e1,e2] at e;unfold cj nF;rw[if_neg (by simp;omega),hs];dsimp only;rw[e,if_neg (by rw[b2];decide),if_neg (by simp;omega)]
end
end Go.Proofs.Y
namespace Go.Proofs.Y
open Go.Abs Go.Proofs.Tryz
attribute [local irreducible] L Code.wp bodyPost Exit.then Exit.inBlock
def doGo_err: ∀(l:List A9) {c:B0} {ps:List Pg} {r:D3} {i:Int} {e:Int×Int},ib c ps r i l= .error e->e.1≠0
 | [],c,ps,r,i,e,T=>by
   rw[ib] at T;cases T
 |s::l,c,ps,r,i,e,T=>by
  rw[ib] at T;split at T
  · cases T;assumption
  split at T
  · cases T;assumption
  exact doGo_err l T
def doGo_idx: ∀(l:List A9) {c:B0} {ps:List Pg} {r:D3} {i:Int} {e:Int×Int},ib c ps r i l= .error e->i<=e.2/\e.2<=i+l.length
 | [],c,ps,r,i,e,T=>by
   rw[ib] at T;cases T
 |s::l,c,ps,r,i,e,T=>by
  rw[lC];rw[ib] at T;split at T
  · cases T;dsimp only;omega
  split at T
  · cases T;dsimp only;omega
  have:=doGo_idx l T;omega
def doGo_app: ∀(x:List A9) (y:List A9) (c:B0) (ps:List Pg) (r:D3) (i:Int),
 ib c ps r i (x++y)=match ib c ps r i x with| .error e=> .error e| .ok z=>ib z.1 z.2.1 z.2.2 (i+x.length) y
 | [],y,c,ps,r,i=>by
   rw[List.nil_append];conv=>rhs;rw[ib]
   show _=ib c ps r (i+((0:Nat):Int)) y;rw[show i+((0:Nat):Int)=i by omega]
 |s::x,y,c,ps,r,i=>by
  rw[List.cons_append,ib,ib];by_cases h1:(aJ c s).2≠0
  · rw[if_pos h1,if_pos h1]
  rw[if_neg h1,if_neg h1];by_cases h2:(cK c ps (aJ c s).1).e≠0
  · rw[if_pos h2,if_pos h2]
  rw[if_neg h2,if_neg h2,doGo_app x y];have e:i+1+(x.length:Int)=i+((s::x).length:Int):=by rw[lC];omega
  rw[e]
def doGo_turn: ∀(y:List A9) (c:B0) (ps:List Pg) (r r':D3) (i k:Int),y≠ [] ->
 ib c ps r' (i+k) y=match ib c ps r i y with| .error e=> .error (e.1,e.2+k)| .ok z=> .ok z
 | [],c,ps,r,r',i,k,h=>absurd U h
 |s::y,c,ps,r,r',i,k,_=>by
  rw[ib,ib];by_cases h1:(aJ c s).2≠0
  · rw[if_pos h1,if_pos h1];dsimp only;rw[show i+k+1=i+1+k by omega]
  rw[if_neg h1,if_neg h1];by_cases h2:(cK c ps (aJ c s).1).e≠0
  · rw[if_pos h2,if_pos h2];dsimp only;rw[show i+k+1=i+1+k by omega]
  rw[if_neg h2,if_neg h2];cases y with
  |nil=>rw[ib,ib]
  |cons t y=>
   rw[show i+k+1=i+1+k by omega];exact doGo_turn (t::y) _ _ _ _ _ _ sP
inductive Steps (p q r:D3) (n:Int) (same:Prop):Prop
 |bad (h1:p.code≠0) (h2:r.code=p.code) (h3:r.n=p.n)
 |late (h1:p.code=0) (h2:q.code≠0) (h3:r.code=q.code) (h4:r.n=n+q.n) (h5:0<=q.n/\q.n<=6)
 |good (h1:p.code=0) (h2:q.code=0) (h3:r=q) (h4:same)
def steps{g:C0}{a b:Str}{x y:List A9}(hn:g.n+1<150)(ha:cj a=(x,0))(hb:cj b=(y,0))(hl:a.length+b.length<=1500)(hm:x.length+y.length<=6)(hy:y≠ []):
 Steps (fz g a).2 (fz (fz g a).1 b).2 (fz g (a++b)).2 (x.length:Int) ((fz g (a++b)).1.cat=(fz (fz g a).1 b).1.cat/\(fz g (a++b)).1.ps=(fz (fz g a).1 b).1.ps):=by
 obtain⟨c,ps,n⟩:=g;dsimp only at hn;rw[zr (x:=a) C,zr (x:=a++b) C];dsimp only;rw[zr C];dsimp only;have ad:=ps_app ha hb hl hm;have e1:Ag c ps (a++b)=match ib c ps ln 0 (x++y) with| .error e=>(c,ps,(⟨e.1,e.2,[]⟩:D3))| .ok r=>r:=by
  unfold Ag;rw[ad];rfl
 have e2: ∀c ps,Ag c ps b=match ib c ps ln 0 y with| .error e=>(c,ps,(⟨e.1,e.2,[]⟩:D3))| .ok r=>r:=fun c ps=>by
  unfold Ag;rw[hb];rfl
 have e3:Ag c ps a=match ib c ps ln 0 x with| .error e=>(c,ps,(⟨e.1,e.2,[]⟩:D3))| .ok r=>r:=by
  unfold Ag;rw[ha];rfl
 rw[e1,e2,e3,doGo_app];cases hx:ib c ps ln 0 x with
 |error e=>exact .bad (doGo_err x hx) U U
 |ok z=>
  obtain⟨c1,T,r1⟩:=z;dsimp only;have hc:=yc x (r:=ln) U hx;dsimp only at hc;have ht:=doGo_turn y c1 T ln r1 0 (x.length:Int) hy;rw[ht];cases hz:ib c1 T ln 0 y with
  |error e=>exact .late hc (doGo_err y hz) U oD (by have:=doGo_idx y hz;dsimp only;omega)
  |ok z=>exact .good hc (yc y (r:=ln) U hz) U ⟨rfl,rfl⟩
variable [C3]
def topSteps_any(l:List Str)(hl:l.length<=140737488355328)(a b:Str)(a7:a.length<=140737488355328)(a8:b.length<=140737488355328):CallG cH prog 8 [.iv (.sl (l.map Str.c)),aS a,aS b] [] [] [] (aB true):=by
 have hg:=play_ok l;have hn:=Lw l;have k1:=play_any l hl;have k2:=(play_any l hl).sws [(1010,1011)] (args2:= [.iv (.sl (l.map Str.c)),.fn 16 []]) (bx2:= []) (bx2':= [(1011,(playM l).b)]) (tk2':= []) (res2:= .tup [.ptr 1011 0,aB true]) U U U U U;have kp:=uu a;have kq:=uu b;have aR:=ur a;have a0:=ur b;generalize playM l=g at*
 have kd:=oI g hg a;have ar:=la hg a;have ke:=oI (fz g a).1 ar b;have a2:=la ar b;have a1:=Bs ar b;have kf:=(oI g hg (a++b)).sws [(1010,1011)] (args2:= [.ptr 1011 0,.agg [aS (a++b)]]) (bx2:= [(1011,g.b)]) (bx2':= [(1011,(fz g (a++b)).1.b)]) (tk2':= []) (res2:=(fz g (a++b)).2.av) U U U U U;have a3:=la hg (a++b);have ks:=same_any (fz (fz g a).1 b).1 (fz g (a++b)).1 a2 a3;have ad:=fun(x y:List A9) (ha:cj a=(x,0)) (hb:cj b=(y,0))=>steps (g:=g) C ha hb
 refine iG func8 ntmps8 (fun w0 E0 hG=> ?_);generalize cj a=S at*
 obtain⟨x,e⟩:=S;generalize cj b=T at*
 obtain⟨y,f⟩:=T;dsimp only at kp kq aR a0;have a5:(x.map A9.cs).length<=6:=by rw[lM];exact aR
 have a6:(y.map A9.cs).length<=6:=by rw[lM];exact a0
 by_cases he:e=0
 case neg=>
  have q:(e !=0)=true:=by simpa using he
  clear kd ke kf ks ad;(repeat' first|intro hb hp|refine ac [1010] rfl hG k1 fS .nil rfl rfl rfl rfl ?_|refine ac [1011] rfl hG k2 fS .nil rfl rfl rfl rfl ?_|refine dK (ha:=rfl) U hG kp U ?_|refine dK (ha:=rfl) U hG kq U ?_|refine am ?_|refine al ?_ ?_|fail)
  all_goals exact L.ends U U sE wK
 subst he;by_cases hf:f=0
 case neg=>
  have q:(f !=0)=true:=by simpa using hf
  clear kd ke kf ks ad;(repeat' first|intro hb hp|refine ac [1010] rfl hG k1 fS .nil rfl rfl rfl rfl ?_|refine ac [1011] rfl hG k2 fS .nil rfl rfl rfl rfl ?_|refine dK (ha:=rfl) U hG kp U ?_|refine dK (ha:=rfl) U hG kq U ?_|refine am ?_|refine al ?_ ?_|fail)
  all_goals exact L.ends U U sE wK
 subst hf;have ad:=ad x y U U;by_cases hm:x.length+y.length<=6
 case neg=>
  have q:decide ((6:Int)<((x.map A9.cs).length:Int)+((y.map A9.cs).length:Int))=true:=decide_eq_true (by rw[lM,lM];omega);clear kd ke kf ks ad;(repeat' first|intro hb hp|refine ac [1010] rfl hG k1 fS .nil rfl rfl rfl rfl ?_|refine ac [1011] rfl hG k2 fS .nil rfl rfl rfl rfl ?_|refine dK (ha:=rfl) U hG kp U ?_|refine dK (ha:=rfl) U hG kq U ?_|refine am ?_|refine al ?_ ?_|fail)
  all_goals exact L.ends U U sE wK
 have q1:decide ((6:Int)<((x.map A9.cs).length:Int)+((y.map A9.cs).length:Int))=false:=decide_eq_false (by rw[lM,lM];omega);by_cases hs:a.length+b.length<=1500
 case neg=>
  have q:decide ((1500:Int)<(a.length:Int)+(b.length:Int))=true:=decide_eq_true C;clear kd ke kf ks ad;(repeat' first|intro hb hp|refine ac [1010] rfl hG k1 fS .nil rfl rfl rfl rfl ?_|refine ac [1011] rfl hG k2 fS .nil rfl rfl rfl rfl ?_|refine dK (ha:=rfl) U hG kp U ?_|refine dK (ha:=rfl) U hG kq U ?_|refine am ?_|refine al ?_ ?_|fail)
  all_goals exact L.ends U U sE wK
 have q2:decide ((1500:Int)<(a.length:Int)+(b.length:Int))=false:=decide_eq_false C;by_cases hy:y= []
 case pos=>
  have q:(((y.map A9.cs).length:Int)==0)=true:=by rw[hy];rfl
  clear kd ke kf ks ad;(repeat' first|intro hb hp|refine ac [1010] rfl hG k1 fS .nil rfl rfl rfl rfl ?_|refine ac [1011] rfl hG k2 fS .nil rfl rfl rfl rfl ?_|refine dK (ha:=rfl) U hG kp U ?_|refine dK (ha:=rfl) U hG kq U ?_|refine am ?_|refine al ?_ ?_|fail)
  all_goals exact L.ends U U sE wK
 have q3:(((y.map A9.cs).length:Int)==0)=false:=by
  have:=gU hy;rw[lM,beq_eq_false_iff_ne];omega
 have ad:=ad hs hm hy;have kr:=sameReply_any (fz (fz g a).1 b).2 (by have:=a1.1;omega) (fun y hy=>by have:=a1.2 y hy;omega);have a4:((x.map A9.cs).length:Int)=(x.length:Int):=by rw[lM]
 clear a1 hg ar a2 a3 aR a0;generalize fz g (a++b)=Z3 at*
 generalize fz (fz g a).1 b=Z2 at*
 generalize fz g a=Z1 at*
 cases ad with
 |bad h1 h2 h3=>
  have t1:(Z1.2.code !=0)=true:=by simpa using h1
  have t2:(Z1.2.code==0)=false:=by simpa using h1
  have t3:(Z3.2.code==Z1.2.code)=true:=by simpa using h2
  have t4:(Z3.2.n==Z1.2.n)=true:=by simpa using h3
  clear ks kr;(repeat' first|intro hb hp|refine ac [1010] rfl hG k1 fS .nil rfl rfl rfl rfl ?_|refine ac [1011] rfl hG k2 fS .nil rfl rfl rfl rfl ?_|refine dK (ha:=rfl) U hG kp U ?_|refine dK (ha:=rfl) U hG kq U ?_|refine ac [] U hG kd fS B1 U U U U ?_|refine ac [] U hG ke fS B1 U U U U ?_|refine ac [] U hG kf fS B1 U U U U ?_|refine am ?_|refine al ?_ ?_|fail)
  all_goals exact L.ends U U (by first|exact sE|exact Sub.of_eq (congrArg (fun b=>aB b) t4)) wK
 |late h1 h2 h3 h4 h5=>
  have t1:(Z1.2.code !=0)=false:=by rw[h1];rfl
  have t2:(Z1.2.code==0)=true:=by rw[h1];rfl
  have t3:(Z2.2.code !=0)=true:=by simpa using h2
  have t4:(Z3.2.code==Z2.2.code)=true:=by simpa using h3
  have t5:(Z3.2.n==((x.map A9.cs).length:Int)+Z2.2.n)=true:=by rw[a4];simpa using h4
  clear ks kr;(repeat' first|intro hb hp|refine ac [1010] rfl hG k1 fS .nil rfl rfl rfl rfl ?_|refine ac [1011] rfl hG k2 fS .nil rfl rfl rfl rfl ?_|refine dK (ha:=rfl) U hG kp U ?_|refine dK (ha:=rfl) U hG kq U ?_|refine ac [] U hG kd fS B1 U U U U ?_|refine ac [] U hG ke fS B1 U U U U ?_|refine ac [] U hG kf fS B1 U U U U ?_|refine am ?_|refine al ?_ ?_|fail)
  all_goals exact L.ends U U sE wK
 |good h1 h2 h3 h4=>
  have t1:(Z1.2.code !=0)=false:=by rw[h1];rfl
  have t2:(Z2.2.code !=0)=false:=by rw[h2];rfl
  have k3:=ks h4.1 h4.2;rw[h3] at kf;clear ks;(repeat' first|intro hb hp|refine ac [1010] rfl hG k1 fS .nil rfl rfl rfl rfl ?_|refine ac [1011] rfl hG k2 fS .nil rfl rfl rfl rfl ?_|refine dK (ha:=rfl) U hG kp U ?_|refine dK (ha:=rfl) U hG kq U ?_|refine ac [] U hG kd fS B1 U U U U ?_|refine ac [] U hG ke fS B1 U U U U ?_|refine ac [] U hG kf fS B1 U U U U ?_|refine ac [] U hG k3 fS B2 U U U U ?_|refine am ?_|refine al ?_ ?_|fail)
  all_goals exact L.ends U U sE wK
end Go.Proofs.Y
