/- Lemmas towards the law. Conditions: each one says its own. -/
import Derived.Test.YtnhmohbhgocbjaaGreatDoorZU16
set_option linter.all false
set_option maxHeartbeats 64000000
set_option maxRecDepth 100000
namespace Go.Proofs.Y
open Go.Abs Go.Proofs.Tryz
attribute [local irreducible] L Code.wp bodyPost Exit.then Exit.inBlock
def copyIdx_any(es:List (List IV))(hk: ∀e∈es,e.length=3)(hl:es.length<=1000000):
 CallA prog 49 [.iv (.sl es)] [] [] [] (.iv (.sl es)):=by
 by_cases T:es= []
 · subst T;refine iA func49 ntmps49 (fun w0 E0=> ?_);(repeat' first|intro hb hp|apply mu;rfl;rfl;rfl;rintro (_|_)|(refine LW.is ?_;first|apply eA;rfl;rfl;rfl;rfl;rfl|apply ag;rfl;apply tH;rfl;exact Sub.bslE _ _;rfl)|refine am ?_|refine al ?_ ?_|fail)
   all_goals(apply L.ends;rfl;rfl;(first|exact Sub.nils|exact Sub.emp);exact wL)
 · have hm:es.length<=maxLen:=by rw[fJ];omega
   have hb:es.length*48<=140737488355328:=C;refine iA func49 ntmps49 (fun w0 E0=> ?_);(repeat' first|intro hb hp|(refine LW.is ?_;first|apply ag;rfl;apply jZ;rfl;rfl;exact T|apply eA;rfl;rfl;rfl;rfl;rfl|apply kC 1000;rfl;rfl;rfl;exact hk;exact T;exact hm;exact hb;rfl)|refine am ?_|refine al ?_ ?_|fail)
   all_goals(refine L.pubS 1000 2 (es:=es) (k:=3) U U hk dD T U U .here ?_)
   all_goals(apply L.ends;rfl;rfl;exact fR;exact wL)
def catalog_any{gs:aw}(c:B0)(ps:List Pg)(n:Int)(a0:c.ts.length<=1000)(a1:c.is.length<=1000)(ad: ∀t∈c.ts,t.cols.length<=1000):
 CallG gs prog 23 [.ptr 1010 0] [(1010,ca c ps n)] [(1010,ca c ps n)] [] (.agg (c.c.map .iv)):=by
 have kx:=copyIdx_any (c.is.map A7.c) (fun e he=>by obtain⟨y,_,rfl⟩:=mM he;rfl) (by rw[lM];omega);refine iG func23 ntmps23 (fun w0 E0 hG=> ?_);refine wz ?_;refine L.adoptB 3 108 57 2 U sP U U (.cons .here (.cons .same .nil)) ?_;refine ae (ι:=Nat) (fun i=>⟨[(22,aI (i:Int)),(21,aI ((c.ts.map A4.c).length:Int)),(20,.iv (.sl (c.ts.map A4.c))),(2,.ptr 2 0),(3,.ptr 3 0)],
  [(1010,ca c ps n),(2,⟨47,.l [.nils,.nils]⟩),(3,⟨47,.l [.row 108 ((c.ts.take i).map A4.c),.iv (.sl (c.is.map A7.c))]⟩)],[(108,⟨57,2⟩)]⟩) (fun i=>c.ts.length - i) (fun i=>True) (i0:=0) ?_ trivial ?_
 · exact wL
 intro i _ K hK;cases hx:c.ts[i]? with
 |none=>
  have ar:=gc (l:=c.ts.map A4.c) (bz hx);rw[br hx];clear hK;refine wz ?_;all_goals(apply L.ends;rfl;rfl;exact Sub.agg (.cons (Sub.row _ _) fS);exact wL)
 |some t=>
  have ar:=fZ (l:=c.ts.map A4.c) (cM (f:=A4.c) hx);have aR:=fM hx;have a2:=ad t (gE hx);have g1:(c.ts.map A4.c)[((i:Nat):Int).toNat]?=some [S t.n,.sl (t.cols.map B8.c)]:=by rw[iN,gP,hx];rfl
  have n1:(c.ts.take (i+1)).map A4.c=(c.ts.take i).map A4.c++ [[S t.n,.sl (t.cols.map B8.c)]]:=by rw[dv hx,pA];rfl
  have l1:((c.ts.take i).map A4.c).length=i:=by simp;omega
  have k1: ∀e∈(c.ts.take i).map A4.c,e.length=2:=fun e he=>by obtain⟨y,_,rfl⟩:=mM he;rfl
  have kc:=Lf (t.cols.map B8.c) (fun e he=>by obtain⟨y,_,rfl⟩:=mM he;rfl) (by rw[lM];omega);generalize (c.ts.take i).map A4.c=es at*
  clear ad;(repeat' first|intro hb hp|(refine LW.is ?_;first|apply bJ;rfl;rfl;rfl;rfl;exact k1;(first|exact T U|exact bB U bV);(simp[maxLen,ah,l1];omega);(simp[ah,l1];omega);rfl;rfl)|refine am ?_|refine al ?_ ?_|fail)
  refine L.onlyS [22,21,20,2,3] [1010,2,3] U ?_;refine Ca 3 34 108 U sP U U U (.cons .row (.cons .same .nil)) ?_;refine hK _ (i+1) trivial C (Wk.mk' kK F5 (wB (wB (.cons U U (Subs.cons (Sub.of_eq (congrArg (AV.row 108) n1.symm)) fS) .nil))) (.cons U .nil))
def twoS(x:Pr):List Str:= [x.1,x.2]
def flatM(ps:List Pg):List Str:=(az ps).flatMap twoS
def flatM_take{ps:List Pg}{i:Nat}{p:Pg}(h:ps[i]?=some p):flatM (ps.take (i+1))=flatM (ps.take i)++p.prs.flatMap twoS:=by
 rw[flatM,flatM,dv h,az,az,List.flatMap_append,List.flatMap_append];simp
def two_len: ∀l:List Pr,(l.flatMap twoS).length=2*l.length
 | [] =>rfl
 |x::l=>by rw[List.flatMap_cons,gV,two_len l,lC];simp[twoS];omega
def flatP_take(ps:List Pg)(i:Nat):(az (ps.take i)).length<=(az ps).length:=by
 conv=>rhs;rw[<-List.take_append_drop i ps,az,List.flatMap_append,gV]
 exact Nat.le_add_right _ _
def flat_any(ps:List Pg)(a5:ps.length<=1000000)(ad: ∀p∈ps,Eo p)(a6:(az ps).length<=1000000):
 CallA prog 63 [.agg [.iv (.sl (ps.map Pg.c))]] [] [] [] (.iv (.sl ((flatM ps).map Str.c))):=by
 refine iA func63 ntmps63 (fun w0 E0=> ?_);refine wz ?_;refine L.adopt 3 (s:=3) (t:=9) (k:=1) U U U ?_;refine ae (ι:=Nat) (fun i=>⟨[(11,aI (i:Int)),(10,aI ((ps.map Pg.c).length:Int)),(9,.iv (.sl (ps.map Pg.c))),(3,.row 3 ((flatM (ps.take i)).map Str.c))],[],[(3,⟨9,1⟩)]⟩) (fun i=>ps.length - i) (fun i=>True) (i0:=0) ?_ trivial ?_
 · exact wL
 intro i _ K hK;cases hx:ps[i]? with
 |none=>
  have a0:=gc (l:=ps.map Pg.c) (bz hx);rw[br hx];clear hK;refine wz ?_;all_goals refine aU ?_
  all_goals rfl
 |some p=>
  have a0:=fZ (l:=ps.map Pg.c) (cM (f:=Pg.c) hx);have a4:=fM hx;obtain⟨_,a7,a8⟩:=ad p (gE hx);have g1:(ps.map Pg.c)[((i:Nat):Int).toNat]?=some [.sl (p.ks.map Str.c),.sl (p.vs.map Str.c)]:=by rw[iN,gP,hx];rfl
  have hF:=flatM_take hx;have a1:p.prs.length=p.ks.length:=by rw[Pg.prs,List.length_zip];omega
  have a2:(flatM (ps.take i)).length+2*p.prs.length<=2000000:=by
   have h1:=two_len (az (ps.take (i+1)));have h2:=flatP_take ps (i+1);have h3:(flatM (ps.take (i+1))).length=(flatM (ps.take i)).length+2*p.prs.length:=by rw[hF,gV,two_len]
   rw[flatM] at h3;omega
  generalize flatM (ps.take i)=F at*
  clear ad;refine wz ?_;refine ae (ι:=Nat) (fun j=>⟨[(18,aI (j:Int)),(17,aI ((p.ks.map Str.c).length:Int)),(16,.iv (.sl (p.ks.map Str.c))),(5,.ptr 5 0),(11,aI (i:Int)),(10,aI ((ps.map Pg.c).length:Int)),(9,.iv (.sl (ps.map Pg.c))),(3,.row 3 ((F++(p.prs.take j).flatMap twoS).map Str.c))],
   [(5,⟨93,.l [.iv (.sl (p.ks.map Str.c)),.iv (.sl (p.vs.map Str.c))]⟩)],[(3,⟨9,1⟩)]⟩) (fun j=>p.ks.length - j) (fun j=>True) (i0:=0) ?_ trivial ?_
  · rw[List.take_zero,List.flatMap_nil,List.append_nil];exact wL
  intro j _ K2 ar;cases hy:p.ks[j]? with
  |none=>
   have aR:=gc (l:=p.ks.map Str.c) (bz hy);have hj:p.prs.take j=p.prs:=tL (by rw[a1];exact gO hy);rw[hj,<-hF];clear ar;refine wz ?_;refine hK _ (i+1) trivial C ?_;exact wL
  |some k=>
   have aR:=fZ (l:=p.ks.map Str.c) (cM (f:=Str.c) hy);have a3:=fM hy;obtain⟨v,hv⟩: ∃v,p.vs[j]?=some v:=⟨_,gG C⟩
   have hz:p.prs[j]?=some (k,v):=by rw[Pg.prs,List.getElem?_zip_eq_some];exact⟨hy,hv⟩
   have g2:(p.ks.map Str.c)[((j:Nat):Int).toNat]?=some [S k]:=by rw[iN,gP,hy];rfl
   have g3:(p.vs.map Str.c)[((j:Nat):Int).toNat]?=some [S v]:=by rw[iN,gP,hv];rfl
   have qv:decide ((j:Int)<((p.vs.map Str.c).length:Int))=true:=decide_eq_true (by rw[lM];omega);have n2:(F++(p.prs.take (j+1)).flatMap twoS).map Str.c=((F++(p.prs.take j).flatMap twoS).map Str.c++ [[S k]])++ [[S v]]:=by
    rw[dv hz,List.flatMap_append,<-List.append_assoc,pA (l₁:=F++(p.prs.take j).flatMap twoS),List.append_assoc];rfl
   have l2:((F++(p.prs.take j).flatMap twoS).map Str.c).length<=2000000:=by
    rw[lM,gV,two_len,lT];omega
   have k2: ∀e∈(F++(p.prs.take j).flatMap twoS).map Str.c,e.length=1:=fun e he=>by obtain⟨y,_,rfl⟩:=mM he;rfl
   generalize (F++(p.prs.take j).flatMap twoS).map Str.c=es at*
   have k3: ∀e∈es++ [[S k]],e.length=1:=fun e he=>by
    rcases mA he with he|he
    · exact k2 e he
    · rw[List.mem_singleton.1 he];rfl
   clear hK hF a2;(repeat' first|intro hb hp|(refine LW.is ?_;first|refine bJ U U U U (by first|exact k2|exact k3) (by first|exact T U|exact bB U bV) (by simp[maxLen,ah];omega) (by simp[ah];omega) U U ?_)|refine am ?_|refine al ?_ ?_|fail)
   refine L.onlyS [18,17,16,5,11,10,9,3] [5] U ?_;refine L.retok 3 39 3 U U U U ?_;refine ar _ (j+1) trivial C (Wk.mk' kK (wF (wF (wF (wF (wF (wF (wF (.cons U (Sub.of_eq (congrArg (AV.row 3) n2.symm)) .nil)))))))) B1 (.cons U .nil))
def sameTexts_any(l:List Str)(hl:l.length<=100000000):CallA prog 62 [.iv (.sl (l.map Str.c)),.iv (.sl (l.map Str.c))] [] [] [] (aB true):=by
 have q0:((((l.map Str.c).length:Nat):Int) !=(((l.map Str.c).length:Nat):Int))=false:=by simp
 refine iA func62 ntmps62 (fun w0 E0=> ?_);refine wz ?_;refine ae (ι:=Nat) (fun i=>⟨[(13,aI (i:Int)),(12,aI ((l.map Str.c).length:Int)),(0,.iv (.sl (l.map Str.c))),(1,.iv (.sl (l.map Str.c)))],[],[]⟩) (fun i=>l.length - i) (fun i=>True) (i0:=0) ?_ trivial ?_
 · exact wL
 intro i _ K hK;cases T:l[i]? with
 |none=>
  have ad:=gc (l:=l.map Str.c) (bz T);clear hK;refine wz ?_;all_goals refine aU ?_
  all_goals rfl
 |some x=>
  have ad:=fZ (l:=l.map Str.c) (cM (f:=Str.c) T);have ar:=fM T;have g1:(l.map Str.c)[((i:Nat):Int).toNat]?=some [S x]:=by rw[iN,gP,T];rfl
  have q1:(!(x==x))=false:=by simp
  refine wz ?_;refine hK _ (i+1) trivial C ?_;exact wL
def sameRows_any(R:List (List A3))(hl:R.length<=100000000)(hr: ∀r∈R,r.length<=100000000):CallA prog 22 [.iv (.sl (R.map ai)),.iv (.sl (R.map ai))] [] [] [] (aB true):=by
 have q0:((((R.map ai).length:Nat):Int) !=(((R.map ai).length:Nat):Int))=false:=by simp
 refine iA func22 ntmps22 (fun w0 E0=> ?_);refine wz ?_;refine ae (ι:=Nat) (fun i=>⟨[(14,aI (i:Int)),(13,aI ((R.map ai).length:Int)),(0,.iv (.sl (R.map ai))),(1,.iv (.sl (R.map ai)))],[],[]⟩) (fun i=>R.length - i) (fun i=>True) (i0:=0) ?_ trivial ?_
 · exact wL
 intro i _ K hK;cases T:R[i]? with
 |none=>
  have aR:=gc (l:=R.map ai) (bz T);clear hK;refine wz ?_;all_goals refine aU ?_
  all_goals rfl
 |some x=>
  have aR:=fZ (l:=R.map ai) (cM (f:=ai) T);have a1:=fM T;have a2:=hr x (gE T);have g1:(R.map ai)[((i:Nat):Int).toNat]?=some [.sl (x.map A3.c)]:=by rw[iN,gP,T];rfl
  have q1:((((x.map A3.c).length:Nat):Int) !=(((x.map A3.c).length:Nat):Int))=false:=by simp
  clear hr q0;refine wz ?_;refine ae (ι:=Nat) (fun j=>⟨[(33,aI (j:Int)),(32,aI ((x.map A3.c).length:Int)),(5,aI (i:Int)),(14,aI (i:Int)),(13,aI ((R.map ai).length:Int)),(0,.iv (.sl (R.map ai))),(1,.iv (.sl (R.map ai)))],[],[]⟩) (fun j=>x.length - j) (fun j=>True) (i0:=0) ?_ trivial ?_
  · exact wL
  intro j _ K2 ad;cases hy:x[j]? with
  |none=>
   have ar:=gc (l:=x.map A3.c) (bz hy);clear ad;refine wz ?_;refine hK _ (i+1) trivial C ?_;exact wL
  |some v=>
   have ar:=fZ (l:=x.map A3.c) (cM (f:=A3.c) hy);have a0:=fM hy;have g2:(x.map A3.c)[((j:Nat):Int).toNat]?=some [I v.k,I v.n,S v.s]:=by rw[iN,gP,hy];rfl
   have q2:(!((v.k==v.k) && ((v.n==v.n) && ((v.s==v.s) && true))))=false:=by simp
   clear hK;refine wz ?_;refine ad _ (j+1) trivial C ?_;exact wL
def sameReply_any(r:D3)(hl:r.rows.length<=100000000)(hr: ∀x∈r.rows,x.length<=100000000):CallA prog 31 [r.av,r.av] [] [] [] (aB true):=by
 have k:=sameRows_any r.rows hl hr;have T:(r.code==r.code)=true:=by simp
 have q2:(r.n==r.n)=true:=by simp
 refine iA func31 ntmps31 (fun w0 E0=> ?_);refine wz ?_;all_goals refine aU ?_
 all_goals rfl
def sameCat_any(c:B0)(a4:c.ts.length<=1000)(a5:c.is.length<=1000)(ar: ∀t∈c.ts,t.cols.length<=1000):
 CallA prog 61 [.agg (c.c.map .iv),.agg (c.c.map .iv)] [] [] [] (aB true):=by
 have q0:((((c.ts.map A4.c).length:Nat):Int) !=(((c.ts.map A4.c).length:Nat):Int))=false:=by simp
 have a2:((((c.is.map A7.c).length:Nat):Int) !=(((c.is.map A7.c).length:Nat):Int))=false:=by simp
 refine iA func61 ntmps61 (fun w0 E0=> ?_);refine wz ?_;refine ae (ι:=Nat) (fun i=>⟨[(28,aI (i:Int)),(27,aI ((c.ts.map A4.c).length:Int)),(26,.iv (.sl (c.ts.map A4.c))),(2,.ptr 2 0),(3,.ptr 3 0)],[(2,⟨47,.l (c.c.map .iv)⟩),(3,⟨47,.l (c.c.map .iv)⟩)],[]⟩) (fun i=>c.ts.length - i) (fun i=>True) (i0:=0) ?_ trivial ?_
 · exact wL
 intro i _ K hK;cases T:c.ts[i]? with
 |none=>
  have ad:=gc (l:=c.ts.map A4.c) (bz T);clear hK;refine wz ?_;refine ae (ι:=Nat) (fun i=>⟨[(81,aI (i:Int)),(80,aI ((c.is.map A7.c).length:Int)),(2,.ptr 2 0),(3,.ptr 3 0)],[(2,⟨47,.l (c.c.map .iv)⟩),(3,⟨47,.l (c.c.map .iv)⟩)],[]⟩) (fun i=>c.is.length - i) (fun i=>True) (i0:=0) ?_ trivial ?_
  · exact wL
  intro i _ K hK;cases T:c.is[i]? with
  |none=>
   have ad:=gc (l:=c.is.map A7.c) (bz T);clear hK;refine wz ?_;all_goals refine aU ?_
   all_goals rfl
  |some x=>
   have ad:=fZ (l:=c.is.map A7.c) (cM (f:=A7.c) T);have aR:=fM T;have g1:(c.is.map A7.c)[((i:Nat):Int).toNat]?=some [S x.n,S x.tb,S x.co]:=by rw[iN,gP,T];rfl
   have q1:(!((x.n==x.n) && ((x.tb==x.tb) && ((x.co==x.co) && true))))=false:=by simp
   refine wz ?_;refine hK _ (i+1) trivial C ?_;exact wL
 |some t=>
  have ad:=fZ (l:=c.ts.map A4.c) (cM (f:=A4.c) T);have aR:=fM T;have a6:=ar t (gE T);have g1:(c.ts.map A4.c)[((i:Nat):Int).toNat]?=some [S t.n,.sl (t.cols.map B8.c)]:=by rw[iN,gP,T];rfl
  have q1:(!(t.n==t.n))=false:=by simp
  have q2:((((t.cols.map B8.c).length:Nat):Int) !=(((t.cols.map B8.c).length:Nat):Int))=false:=by simp
  clear ar q0 a2;refine wz ?_;refine ae (ι:=Nat) (fun j=>⟨[(58,aI (j:Int)),(57,aI ((t.cols.map B8.c).length:Int)),(5,aI (i:Int)),(6,.ptr 6 0),(28,aI (i:Int)),(27,aI ((c.ts.map A4.c).length:Int)),(26,.iv (.sl (c.ts.map A4.c))),(2,.ptr 2 0),(3,.ptr 3 0)],[(6,⟨57,.l (t.c.map .iv)⟩),(2,⟨47,.l (c.c.map .iv)⟩),(3,⟨47,.l (c.c.map .iv)⟩)],[]⟩) (fun j=>t.cols.length - j) (fun j=>True) (i0:=0) ?_ trivial ?_
  · exact wL
  intro j _ K2 a0;cases hy:t.cols[j]? with
  |none=>
   have a1:=gc (l:=t.cols.map B8.c) (bz hy);clear a0;refine wz ?_;refine hK _ (i+1) trivial C ?_;exact wL
  |some x=>
   have a1:=fZ (l:=t.cols.map B8.c) (cM (f:=B8.c) hy);have a3:=fM hy;have g2:(t.cols.map B8.c)[((j:Nat):Int).toNat]?=some [S x.n,I x.t,.im (.bool x.m)]:=by rw[iN,gP,hy];rfl
   have q3:(!((x.n==x.n) && ((x.t==x.t) && ((x.m==x.m) && true))))=false:=by simp
   clear hK;refine wz ?_;refine a0 _ (j+1) trivial C ?_;exact wL
end Go.Proofs.Y
namespace Go.Proofs.Y
open Go.Abs Go.Proofs.Tryz
attribute [local irreducible] L Code.wp bodyPost Exit.then Exit.inBlock
variable [C3]
def cat_wide{g:C0}(h:B6 g):g.cat.ts.length<=1000/\g.cat.is.length<=1000/\ ∀t∈g.cat.ts,t.cols.length<=1000:=by
 obtain⟨_,D,T⟩:=h;have h1:=T.db.cat.tl;have h2:=T.db.cat.il;exact⟨by omega,by omega,fun t ht=>by have:=T.db.cat.wide ht;omega⟩
def catalog_all(g:C0)(h:B6 g):CallG cH prog 23 [.ptr 1010 0] [(1010,g.b)] [(1010,g.b)] [] (.agg (g.cat.c.map .iv)):=by
 obtain⟨h1,h2,h3⟩:=cat_wide h;exact catalog_any g.cat g.ps g.n h1 h2 h3
def same_any(g h:C0)(T:B6 g)(hh:B6 h)(hc:h.cat=g.cat)(hp:h.ps=g.ps):
 CallG cH prog 34 [.ptr 1010 0,.ptr 1011 0] [(1010,g.b),(1011,h.b)] [(1010,g.b),(1011,h.b)] [] (aB true):=by
 obtain⟨c1,c2,c3⟩:=cat_wide T;obtain⟨p1,p2,p3⟩:=AF T;have kc:=catalog_all g T;have kd:=(catalog_all h hh).sws [(1010,1011)] (args2:= [.ptr 1011 0]) (bx2:= [(1011,h.b)]) (bx2':= [(1011,h.b)]) (tk2':= []) (res2:= .agg (h.cat.c.map .iv)) U U U U U;have kt:=zW g T;have ku:=(zW h hh).sws [(1010,1011)] (args2:= [.ptr 1011 0]) (bx2:= [(1011,h.b)]) (bx2':= [(1011,h.b)]) (tk2':= []) (res2:= .agg [.iv (.sl (h.ps.map Pg.c))]) U U U U U;rw[hc] at kd;rw[hp] at ku;have ks:=sameCat_any g.cat c1 c2 c3;have kf:=flat_any g.ps C p2 C;have kx:=sameTexts_any (flatM g.ps) (by rw[flatM,two_len];omega);refine iG func34 ntmps34 (fun w0 E0 hG=> ?_);(repeat' first|intro hb hp|refine ac [] rfl hG kc fS B1 rfl rfl rfl rfl ?_|refine ac [] rfl hG kd fS B1 rfl rfl rfl rfl ?_|refine ac [] rfl hG kt fS B1 rfl rfl rfl rfl ?_|refine ac [] rfl hG ku fS B1 rfl rfl rfl rfl ?_|refine am ?_|refine al ?_ ?_|fail)
 all_goals exact L.ends U U sE wK
def quiet_any{gs:aw}(x:Str)(r:D3):CallG gs prog 16 ([.ptr 1010 0,.agg [aS x],r.av] ++ []) [] [] [] (aB true):=by
 refine iG func16 ntmps16 (fun w0 E0 T=> ?_);refine wz ?_;all_goals exact L.ends U U sE wK
def playGo(g:C0)(l:List Str):C0:=l.foldl (fun g x=>(fz g x).1) g
def playM(l:List Str):C0:=playGo eng0 (l.take 40)
def playGo_ok: ∀(l:List Str) {g:C0},B6 g->B6 (playGo g l)
 | [],_,h=>h
 |x::l,g,h=>playGo_ok l (la h x)
def play_ok(l:List Str):B6 (playM l):=playGo_ok _ tW
def play_any(l:List Str)(hl:l.length<=140737488355328):
 CallG cH prog 15 [.iv (.sl (l.map Str.c)),.fn 16 []] [] [(1010,(playM l).b)] [] (.tup [.ptr 1010 0,aB true]):=by
 have ka:=FU;have kn:=Er (gs:=cH);generalize hZ:playM l=Z;refine iG func15 ntmps15 (fun w0 E0 hG=> ?_);(repeat' first|intro hb hp|refine ac [1010] rfl hG kn .nil .nil rfl rfl rfl rfl ?_|refine am ?_|refine al ?_ ?_|fail)
 refine ae (ι:=Nat×C0) (fun i=>⟨[(7,aI (i.1:Int)),(0,.iv (.sl (l.map Str.c))),(1,.fn 16 []),(6,.ptr 1010 0)],[(1010,i.2.b)],[]⟩) (fun i=>l.length - i.1) (fun i=>B6 i.2/\i.1<=40/\playGo i.2 ((l.take 40).drop i.1)=Z) (i0:=(0,eng0)) ?_ ⟨tW,by decide,hZ⟩ ?_
 · exact wL
 rintro ⟨i,g⟩ ⟨hg,hi,T⟩ K hK;dsimp only at hg hi T hK;by_cases ar:i<40
 case neg=>
  have q2:decide ((i:Int)<40)=false:=decide_eq_false C;rw[dL (by rw[lT];omega)] at T;have T:g=Z:=T;subst T;clear hK;by_cases a2:i<l.length
  · have q1:decide ((i:Int)<((l.map Str.c).length:Int))=true:=decide_eq_true (by rw[lM];omega);refine wz ?_;all_goals exact L.ends U U fR wK
  · have q1:decide ((i:Int)<((l.map Str.c).length:Int))=false:=decide_eq_false (by rw[lM];omega);refine wz ?_;all_goals exact L.ends U U fR wK
 have q2:decide ((i:Int)<40)=true:=decide_eq_true C;cases hx:l[i]? with
 |none=>
  have q1:=gc (l:=l.map Str.c) (bz hx);rw[dL (by rw[lT];have:=gO hx;omega)] at T;have T:g=Z:=T;subst T;clear hK;refine wz ?_;all_goals exact L.ends U U fR wK
 |some x=>
  have q1:=fZ (l:=l.map Str.c) (cM (f:=Str.c) hx);have a1:=fM hx;have g1:(l.map Str.c)[((i:Nat):Int).toNat]?=some [S x]:=by rw[iN,gP,hx];rfl
  have ad:(l.take 40)[i]?=some x:=by rw[List.getElem?_take,if_pos ar];exact hx
  have aR:(l.take 40).drop i=x::(l.take 40).drop (i+1):=fu ad;rw[aR] at T;have kd:=oI g hg x;have a0:=la hg x;have kq:=quiet_any (gs:=cH) x (fz g x).2;(repeat' first|intro hb hp|refine ac [] rfl hG kd fS B1 rfl rfl rfl rfl ?_|refine DR.is (eY (f:=16) U hG U kq U .nil U U U ?_)|refine am ?_|refine al ?_ ?_|fail)
  exact hK _ (i+1,(fz g x).1) ⟨a0,by omega,T⟩ oD wL
end Go.Proofs.Y
namespace Go.Proofs.Y
open Go.Abs Go.Proofs.Tryz
attribute [local irreducible] L Code.wp bodyPost Exit.then Exit.inBlock
def MI(g:C0)(x:Str):(fz g x).1.n<=g.n+1/\g.n<=(fz g x).1.n:=by
 unfold fz;split
 · exact⟨by dsimp only;omega,by dsimp only;omega⟩
 split
 · exact⟨by dsimp only;omega,by dsimp only;omega⟩
 split
 · exact⟨by dsimp only;omega,by dsimp only;omega⟩
 · exact⟨by dsimp only;omega,by dsimp only;omega⟩
def AE: ∀(l:List Str) (g:C0),(playGo g l).n<=g.n+l.length
 | [],g=>by show g.n<=_;omega
 |x::l,g=>by
  have h1:=AE l (fz g x).1;have h2:=(MI g x).1;have e:playGo g (x::l)=playGo (fz g x).1 l:=rfl;rw[e,lC];omega
def Lw(l:List Str):(playM l).n<=40:=by
 have:=AE (l.take 40) eng0;have e:eng0.n=0:=rfl;rw[lT] at this;rw[playM];omega
def Ag(c:B0)(ps:List Pg)(x:Str):B0×List Pg×D3:=
 if(cj x).2≠0 then(c,ps,⟨(cj x).2,0,[]⟩)
 else match ib c ps ln 0 (cj x).1 with
  | .error e=>(c,ps,⟨e.1,e.2,[]⟩)
  | .ok r=>r
def zr{c:B0}{ps:List Pg}{n:Int}{x:Str}(h:n<150):fz ⟨c,ps,n⟩ x=(⟨(Ag c ps x).1,(Ag c ps x).2.1,n+1⟩,(Ag c ps x).2.2):=by
 have h1: ¬150<=n:=C;unfold fz Ag;dsimp only;rw[if_neg h1];by_cases h2:(cj x).2≠0
 · rw[if_pos h2,if_pos h2]
 · rw[if_neg h2,if_neg h2];cases ib c ps ln 0 (cj x).1<;>rfl
def Iq{g h:C0}{x:Str}(hc:h.cat=g.cat)(T:h.ps=g.ps)(h1:g.n<150)(h2:h.n<150):(fz h x).2=(fz g x).2/\(fz h x).1.cat=(fz g x).1.cat/\(fz h x).1.ps=(fz g x).1.ps:=by
 obtain⟨c,ps,n⟩:=g;obtain⟨c',ps',m⟩:=h;dsimp only at hc T h1 h2;subst hc;subst T;rw[zr h1,zr h2];exact⟨rfl,rfl,rfl⟩
def Fm{c:B0}{ps:List Pg}{s:A9}(hk:s.kind=7)(hb:(aJ c s).2=0):(cK c ps (aJ c s).1).cat=c/\(cK c ps (aJ c s).1).ps=ps:=by
 have T:aJ c s=((aJ c s).1,0):=Prod.ext U hb;have h1:=(eD (ee T).2.2).1;rw[cK,if_neg C,if_neg C,if_neg C,if_neg C,if_neg C,if_pos C];exact⟨rfl,rfl⟩
def vJ: ∀(l:List A9) {c:B0} {ps:List Pg} {r:D3} {i:Int} {x:B0×List Pg×D3},(∀s∈l,s.kind=7)->ib c ps r i l= .ok x->x.1=c/\x.2.1=ps
 | [],c,ps,r,i,x,_,T=>by
   rw[ib] at T;cases T;exact⟨rfl,rfl⟩
 |s::l,c,ps,r,i,x,h,T=>by
  rw[ib] at T;split at T
  · cases T
  split at T
  · cases T
  rename_i h1 _;obtain⟨e1,e2⟩:=Fm (ps:=ps) (h s (List.mem_cons_self ..)) (Decidable.not_not.1 h1);have:=vJ l (fun s' ad=>h s' (List.mem_cons_of_mem _ ad)) T;rw[e1,e2] at this;exact this
def Ir(g:C0){x:Str}(h: ∀s∈(cj x).1,s.kind=7):(fz g x).1.cat=g.cat/\(fz g x).1.ps=g.ps:=by
 unfold fz;split
 · exact⟨rfl,rfl⟩
 split
 · exact⟨rfl,rfl⟩
 split
 · exact⟨rfl,rfl⟩
 · rename_i r hr;exact vJ _ h hr
def Md{g:C0}{x:Str}(hn:g.n<150)(he:(cj x).2≠0):(fz g x).2.code=(cj x).2:=by
 unfold fz;rw[if_neg C,if_pos he]
def Fh(s:A9)(w:Nat)(J:List (List A3)):(Al s w J).length<=J.length/\ ∀r∈Al s w J,r.length=s.out.length:=by
 refine⟨?_,fun r hr=> ?_⟩
 · rw[Al,lM];refine Nat.le_trans (m:=((J.filter (bL s.wh)).mergeSort (cL (dc s w))).length) ?_ (by rw[List.length_mergeSort];exact List.length_filter_le ..);unfold qN;split
   · rw[lT];omega
   · exact Nat.le_refl _
 · obtain⟨x,_,rfl⟩:=mM hr;rw[yQ,lM]
def ym(r:D3):Prop:=r.rows.length<=1000000/\ ∀x∈r.rows,x.length<=1000000
def my(a b:Int):ym ⟨a,b,[]⟩:=⟨by simp,by simp⟩
def Fl{c:B0}{ps:List Pg}{D:Str->List (List A3)}(h:EI c ps D){s b:A9}(hs:D8 s)(hb:aJ c s=(b,0)):ym (cK c ps b).rep:=by
 obtain⟨hg,a4,hp⟩:=ee hb;have a5:=(eD hp).1;by_cases h7:b.kind=7
 · have T:=He C hp;rw[cK,if_neg C,if_neg C,if_neg C,if_neg C,if_neg C,if_pos h7];have a3:=T.len;have a1: ∀m∈s.frm,(ab c m).2=true:=fun m hm=>by
    obtain⟨i,hi⟩:=List.getElem?_of_mem hm;exact T.tab i m hi
   have a6:lU (s.frm.map fun n=>(ab c n).1)<=8:=Nat.le_trans (wc h.db.cat a1) C;have a7:=T.outL;have a8:=hs.out;obtain⟨n0,ad⟩: ∃n0,s.frm[0]?=some n0:=⟨_,gG C⟩
   have hm:=(bU (T.tab 0 n0 ad)).1;have ar:b.frm.getD 0 [] =n0:=by rw[T.frm,List.getD_eq_getElem?_getD,ad];rfl
   obtain⟨f1,f2,f3,_⟩:=jX h.db hm b.wh;have a9:=h.few _ hm;have ba:b.frm.length=s.frm.length:=by rw[T.frm]
   obtain⟨s1,s2⟩:=Fh b (ab c n0).1.cols.length (og c ps b (ci ps (ab c n0).1 (bO c (ab c n0).1 0 b.wh)));refine⟨?_,fun x hx=> ?_⟩
   · show(jM c ps b).length<=1000000;rw[jM,ar];refine Nat.le_trans s1 ?_;unfold og;split
     · rename_i h2;obtain⟨n1,aR⟩: ∃n1,s.frm[1]?=some n1:=⟨_,gG C⟩
       have a0:=(bU (T.tab 1 n1 aR)).1;have a2:b.frm.getD 1 [] =n1:=by rw[T.frm,List.getD_eq_getElem?_getD,aR];rfl
       have bh:=h.few _ a0;rw[a2];refine Nat.le_trans (kY (k:=30) (fun x hx=> ?_)) C;rw[lM];have:=(rq h.db a0 x (bo x b.wh)).2.2.1;omega
     · omega
   · have hx:x∈jM c ps b:=hx;rw[jM,ar] at hx;have:=s2 x hx;omega
 · unfold cK;repeat' split
   all_goals first|exact my _ _|exact absurd (by assumption) h7
def vH: ∀(l:List A9) {c:B0} {ps:List Pg} {r:D3} {i:Int} {x:B0×List Pg×D3},(∃D,EI c ps D)->(∀s∈l,D8 s)->ym r->ib c ps r i l= .ok x->ym x.2.2
 | [],c,ps,r,i,x,_,_,h,T=>by
   rw[ib] at T;cases T;exact h
 |s::l,c,ps,r,i,x,⟨D,hd⟩,hs,h,T=>by
  rw[ib] at T;split at T
  · cases T
  split at T
  · cases T
  rename_i h1 _;have hb:aJ c s=((aJ c s).1,0):=Prod.ext U (Decidable.not_not.1 h1);exact vH l (rN hd hb) (fun s' ad=>hs s' (List.mem_cons_of_mem _ ad)) (Fl hd (hs s (List.mem_cons_self ..)) hb) T
def Bs{g:C0}(h:B6 g)(x:Str):ym (fz g x).2:=by
 unfold fz;split
 · exact my _ _
 split
 · exact my _ _
 split
 · exact my _ _
 · rename_i r hr;exact vH _ h.db (ut x) (my _ _) hr
variable [C3]
def yy(l:List Str)(hl:l.length<=140737488355328)(x:Str):CallG cH prog 9 [.iv (.sl (l.map Str.c)),aS x] [] [] [] (aB true):=by
 have hg:=play_ok l;have hn:=Lw l;have k1:=play_any l hl;have k2:=(play_any l hl).sws [(1010,1011)] (args2:= [.iv (.sl (l.map Str.c)),.fn 16 []]) (bx2:= []) (bx2':= [(1011,(playM l).b)]) (tk2':= []) (res2:= .tup [.ptr 1011 0,aB true]) U U U U U;have kp:=uu x;have aR:=ur x;generalize playM l=g at*
 have kd:=oI g hg x;have ad:=la hg x;have hr:=Ir g (x:=x);have hb:=Md (g:=g) (x:=x) C;have a3:=(MI g x).1;have ar:=Bs hg x;have hrep:=fun(h1:(fz g x).1.cat=g.cat) (h2:(fz g x).1.ps=g.ps)=>Iq (g:=g) (h:=(fz g x).1) (x:=x) h1 h2 C C
 have ke:=oI (fz g x).1 ad x;have a0:=la ad x;have ks:=fun(h1:g.cat=(fz (fz g x).1 x).1.cat) (h2:g.ps=(fz (fz g x).1 x).1.ps)=>same_any (fz (fz g x).1 x).1 g a0 hg h1 h2
 refine iG func9 ntmps9 (fun w0 E0 T=> ?_);generalize cj x=S at*
 obtain⟨ls,e⟩:=S;dsimp only at kp aR hr hb;(repeat' first|intro hb hp|refine ac [1010] rfl T k1 fS .nil rfl rfl rfl rfl ?_|refine ac [1011] rfl T k2 fS .nil rfl rfl rfl rfl ?_|refine dK (ha:=rfl) U T kp U ?_|refine am ?_|refine al ?_ ?_|fail)
 refine ae (ι:=Nat) (fun i=>⟨[(38,aI (i:Int)),(37,aI ((ls.map A9.cs).length:Int)),(36,.iv (.sl (ls.map A9.cs))),(1,aS x),(5,.ptr 1010 0),(7,.ptr 1011 0),(10,aI e)],[(1010,g.b),(1011,g.b)],[]⟩) (fun i=>ls.length - i) (fun i=> ∀s∈ls.take i,s.kind=7) (i0:=0) ?_ sP ?_
 · exact wL
 intro i hi K hK;cases hx:ls[i]? with
 |some s=>
  have a1:=fZ (l:=ls.map A9.cs) (cM (f:=A9.cs) hx);have a2:=fM hx;have g1:(ls.map A9.cs)[((i:Nat):Int).toNat]?=some s.cs:=by rw[iN,gP,hx];rfl
  clear kd ke ks hrep;by_cases h7:s.kind=7
  · have q:(s.kind !=7)=false:=by rw[h7];rfl
    refine wz ?_;exact hK _ (i+1) (fun y hy=>by
     rw[dv hx] at hy;rcases mA hy with hy|hy
     · exact hi y hy
     · rw[List.mem_singleton.1 hy];exact h7) C wK
  · have q:(s.kind !=7)=true:=by simpa using h7
    clear hK;refine wz ?_;all_goals exact L.ends U U sE wK
 |none=>
  have a1:=gc (l:=ls.map A9.cs) (bz hx);rw[br hx] at hi;obtain⟨r1,r2⟩:=hr hi;obtain⟨p1,p2,p3⟩:=hrep r1 r2;have k3:=ks (by rw[p2,r1]) (by rw[p3,r2]);rw[p1] at ke;have kr:=sameReply_any (fz g x).2 (by have:=ar.1;omega) (fun y hy=>by have:=ar.2 y hy;omega);clear hK ks hrep hr;generalize fz (fz g x).1 x=Z2 at*
  by_cases he:e=0
  · have q:(e==0)=true:=by simpa using he
    (repeat' first|intro hb hp|refine ac [] rfl T kd fS B1 rfl rfl rfl rfl ?_|refine ac [] rfl T ke fS B1 rfl rfl rfl rfl ?_|refine ac [] rfl T k3 fS B2 rfl rfl rfl rfl ?_|refine am ?_|refine al ?_ ?_|fail)
    all_goals exact L.ends U U sE wK
  · have q:(e==0)=false:=by simpa using he
    have q2:((fz g x).2.code==e)=true:=by rw[hb he];simp
    (repeat' first|intro hb hp|refine ac [] rfl T kd fS B1 rfl rfl rfl rfl ?_|refine ac [] rfl T ke fS B1 rfl rfl rfl rfl ?_|refine ac [] rfl T k3 fS B2 rfl rfl rfl rfl ?_|refine am ?_|refine al ?_ ?_|fail)
    all_goals exact L.ends U U sE wK
end Go.Proofs.Y
