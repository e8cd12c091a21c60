/- Lemmas towards the law. Conditions: each one says its own. -/
import Derived.Test.YtnhmohbhgocbjaaGreatDoorZU16
set_option linter.all false
set_option maxHeartbeats 64000000
set_option maxRecDepth 100000
namespace Go.Proofs.Y
open Go Go.Abs
instance:C2 Tryz.prog 23 [.pointer none]:=⟨kR⟩
instance:A0 Tryz.prog 33:=⟨kR⟩
end Go.Proofs.Y
namespace Go.Proofs.Y
open Go.Abs Go.Proofs.Tryz
attribute [local irreducible] L Code.wp bodyPost Exit.then Exit.inBlock
def copyIdx_any(es:List (List IV))(hk: ∀e∈es,e.length=3)(hl:es.length<=1000000):
 CallA prog 49 [.iv (.sl es)] [] [] [] (.iv (.sl es)):=by
 by_cases T:es= []
 · subst T;refine iA func49 ntmps49 (fun w0 E0=> ?_);(repeat' first|intro hb hp|apply mu;rfl;rfl;rfl;rintro (_|_)|(refine LW.is ?_;first|apply eA;rfl;rfl;rfl;rfl;rfl|apply ag;rfl;apply tH;rfl;exact Sub.bslE _ _;rfl)|refine am ?_|refine al ?_ ?_|fail)
   all_goals(apply L.ends;rfl;rfl;(first|exact Sub.nils|exact Sub.emp);exact wL)
 · have hm:es.length<=maxLen:=by rw[fJ];omega
   have hb:es.length*48<=140737488355328:=C;refine iA func49 ntmps49 (fun w0 E0=> ?_);(repeat' first|intro hb hp|(refine LW.is ?_;first|apply ag;rfl;apply jZ;rfl;rfl;exact T|apply eA;rfl;rfl;rfl;rfl;rfl|apply kC 1000;rfl;rfl;rfl;exact hk;exact T;exact hm;exact hb;rfl)|refine am ?_|refine al ?_ ?_|fail)
   all_goals(refine L.pubS 1000 2 (es:=es) (k:=3) U U hk dD T U U .here ?_)
   all_goals(apply L.ends;rfl;rfl;exact fR;exact wL)
def catalog_any{gs:aw}(c:B0)(ps:List Pg)(n:Int)(a0:c.ts.length<=1000)(a1:c.is.length<=1000)(ad: ∀t∈c.ts,t.cols.length<=1000):
 CallG gs prog 23 [.ptr 1010 0] [(1010,ca c ps n)] [(1010,ca c ps n)] [] (.agg (c.c.map .iv)):=by
 have kx:=copyIdx_any (c.is.map A7.c) (fun e he=>by obtain⟨y,_,rfl⟩:=mM he;rfl) (by rw[lM];omega);refine iG func23 ntmps23 (fun w0 E0 hG=> ?_);refine wz ?_;refine L.adoptB 3 108 57 2 U sP U U (.cons .here (.cons .same .nil)) ?_;refine ae (ι:=Nat) (fun i=>⟨[(22,aI (i:Int)),(21,aI ((c.ts.map A4.c).length:Int)),(20,.iv (.sl (c.ts.map A4.c))),(2,.ptr 2 0),(3,.ptr 3 0)],
  [(1010,ca c ps n),(2,⟨47,.l [.nils,.nils]⟩),(3,⟨47,.l [.row 108 ((c.ts.take i).map A4.c),.iv (.sl (c.is.map A7.c))]⟩)],[(108,⟨57,2⟩)]⟩) (fun i=>c.ts.length - i) (fun i=>True) (i0:=0) ?_ trivial ?_
 · exact wL
 intro i _ K hK;cases hx:c.ts[i]? with
 |none=>
  have ar:=gc (l:=c.ts.map A4.c) (bz hx);rw[br hx];clear hK;refine wz ?_;all_goals(apply L.ends;rfl;rfl;exact Sub.agg (.cons (Sub.row _ _) fS);exact wL)
 |some t=>
  have ar:=fZ (l:=c.ts.map A4.c) (cM (f:=A4.c) hx);have aR:=fM hx;have a2:=ad t (gE hx);have g1:(c.ts.map A4.c)[((i:Nat):Int).toNat]?=some [S t.n,.sl (t.cols.map B8.c)]:=by rw[iN,gP,hx];rfl
  have n1:(c.ts.take (i+1)).map A4.c=(c.ts.take i).map A4.c++ [[S t.n,.sl (t.cols.map B8.c)]]:=by rw[dv hx,pA];rfl
  have l1:((c.ts.take i).map A4.c).length=i:=by simp;omega
  have k1: ∀e∈(c.ts.take i).map A4.c,e.length=2:=fun e he=>by obtain⟨y,_,rfl⟩:=mM he;rfl
  have kc:=Lf (t.cols.map B8.c) (fun e he=>by obtain⟨y,_,rfl⟩:=mM he;rfl) (by rw[lM];omega);generalize (c.ts.take i).map A4.c=es at*
  clear ad;(repeat' first|intro hb hp|(refine LW.is ?_;first|apply bJ;rfl;rfl;rfl;rfl;exact k1;(first|exact T U|exact bB U bV);(simp[maxLen,ah,l1];omega);(simp[ah,l1];omega);rfl;rfl)|refine am ?_|refine al ?_ ?_|fail)
  refine L.onlyS [22,21,20,2,3] [1010,2,3] U ?_;refine Ca 3 34 108 U sP U U U (.cons .row (.cons .same .nil)) ?_;refine hK _ (i+1) trivial C (Wk.mk' kK F5 (wB (wB (.cons U U (Subs.cons (Sub.of_eq (congrArg (AV.row 108) n1.symm)) fS) .nil))) (.cons U .nil))
def twoS(x:Pr):List Str:= [x.1,x.2]
def flatM(ps:List Pg):List Str:=(az ps).flatMap twoS
def flatM_take{ps:List Pg}{i:Nat}{p:Pg}(h:ps[i]?=some p):flatM (ps.take (i+1))=flatM (ps.take i)++p.prs.flatMap twoS:=by
 rw[flatM,flatM,dv h,az,az,List.flatMap_append,List.flatMap_append];simp
def two_len: ∀l:List Pr,(l.flatMap twoS).length=2*l.length
 | [] =>rfl
 |x::l=>by rw[List.flatMap_cons,gV,two_len l,lC];simp[twoS];omega
def flatP_take(ps:List Pg)(i:Nat):(az (ps.take i)).length<=(az ps).length:=by
 conv=>rhs;rw[<-List.take_append_drop i ps,az,List.flatMap_append,gV]
 exact Nat.le_add_right _ _
def flat_any(ps:List Pg)(a6:ps.length<=1000000)(ad: ∀p∈ps,Eo p)(a7:(az ps).length<=1000000):
 CallA prog 63 [.agg [.iv (.sl (ps.map Pg.c))]] [] [] [] (.iv (.sl ((flatM ps).map Str.c))):=by
 refine iA func63 ntmps63 (fun w0 E0=> ?_);refine wz ?_;refine L.adopt 3 (s:=3) (t:=9) (k:=1) U U U ?_;refine ae (ι:=Nat) (fun i=>⟨[(11,aI (i:Int)),(10,aI ((ps.map Pg.c).length:Int)),(9,.iv (.sl (ps.map Pg.c))),(3,.row 3 ((flatM (ps.take i)).map Str.c))],[],[(3,⟨9,1⟩)]⟩) (fun i=>ps.length - i) (fun i=>True) (i0:=0) ?_ trivial ?_
 · exact wL
 intro i _ K hK;cases hx:ps[i]? with
 |none=>
  have a0:=gc (l:=ps.map Pg.c) (bz hx);rw[br hx];clear hK;refine wz ?_;all_goals refine aU ?_
  all_goals rfl
 |some p=>
  have a0:=fZ (l:=ps.map Pg.c) (cM (f:=Pg.c) hx);have a4:=fM hx;obtain⟨_,a8,a9⟩:=ad p (gE hx);have g1:(ps.map Pg.c)[((i:Nat):Int).toNat]?=some [.sl (p.ks.map Str.c),.sl (p.vs.map Str.c)]:=by rw[iN,gP,hx];rfl
  have hF:=flatM_take hx;have a1:p.prs.length=p.ks.length:=by rw[Pg.prs,List.length_zip];omega
  have a2:(flatM (ps.take i)).length+2*p.prs.length<=2000000:=by
   have h1:=two_len (az (ps.take (i+1)));have h2:=flatP_take ps (i+1);have h3:(flatM (ps.take (i+1))).length=(flatM (ps.take i)).length+2*p.prs.length:=by rw[hF,gV,two_len]
   rw[flatM] at h3;omega
  generalize flatM (ps.take i)=F at*
  clear ad;refine wz ?_;refine ae (ι:=Nat) (fun j=>⟨[(18,aI (j:Int)),(17,aI ((p.ks.map Str.c).length:Int)),(16,.iv (.sl (p.ks.map Str.c))),(5,.ptr 5 0),(11,aI (i:Int)),(10,aI ((ps.map Pg.c).length:Int)),(9,.iv (.sl (ps.map Pg.c))),(3,.row 3 ((F++(p.prs.take j).flatMap twoS).map Str.c))],
   [(5,⟨93,.l [.iv (.sl (p.ks.map Str.c)),.iv (.sl (p.vs.map Str.c))]⟩)],[(3,⟨9,1⟩)]⟩) (fun j=>p.ks.length - j) (fun j=>True) (i0:=0) ?_ trivial ?_
  · rw[List.take_zero,List.flatMap_nil,List.append_nil];exact wL
  intro j _ K2 ar;cases hy:p.ks[j]? with
  |none=>
   have aR:=gc (l:=p.ks.map Str.c) (bz hy);have hj:p.prs.take j=p.prs:=tL (by rw[a1];exact gO hy);rw[hj,<-hF];clear ar;refine wz ?_;refine hK _ (i+1) trivial C ?_;exact wL
  |some k=>
   have aR:=fZ (l:=p.ks.map Str.c) (cM (f:=Str.c) hy);have a3:=fM hy;obtain⟨v,hv⟩: ∃v,p.vs[j]?=some v:=⟨_,gG C⟩
   have hz:p.prs[j]?=some (k,v):=by rw[Pg.prs,List.getElem?_zip_eq_some];exact⟨hy,hv⟩
   have g2:(p.ks.map Str.c)[((j:Nat):Int).toNat]?=some [S k]:=by rw[iN,gP,hy];rfl
   have g3:(p.vs.map Str.c)[((j:Nat):Int).toNat]?=some [S v]:=by rw[iN,gP,hv];rfl
   have a5:decide ((j:Int)<((p.vs.map Str.c).length:Int))=true:=decide_eq_true (by rw[lM];omega);have n2:(F++(p.prs.take (j+1)).flatMap twoS).map Str.c=((F++(p.prs.take j).flatMap twoS).map Str.c++ [[S k]])++ [[S v]]:=by
    rw[dv hz,List.flatMap_append,<-List.append_assoc,pA (l₁:=F++(p.prs.take j).flatMap twoS),List.append_assoc];rfl
   have l2:((F++(p.prs.take j).flatMap twoS).map Str.c).length<=2000000:=by
    rw[lM,gV,two_len,lT];omega
   have k2: ∀e∈(F++(p.prs.take j).flatMap twoS).map Str.c,e.length=1:=fun e he=>by obtain⟨y,_,rfl⟩:=mM he;rfl
   generalize (F++(p.prs.take j).flatMap twoS).map Str.c=es at*
   have k3: ∀e∈es++ [[S k]],e.length=1:=fun e he=>by
    rcases mA he with he|he
    · exact k2 e he
    · rw[List.mem_singleton.1 he];rfl
   clear hK hF a2;(repeat' first|intro hb hp|(refine LW.is ?_;first|refine bJ U U U U (by first|exact k2|exact k3) (by first|exact T U|exact bB U bV) (by simp[maxLen,ah];omega) (by simp[ah];omega) U U ?_)|refine am ?_|refine al ?_ ?_|fail)
   refine L.onlyS [18,17,16,5,11,10,9,3] [5] U ?_;refine L.retok 3 39 3 U U U U ?_;refine ar _ (j+1) trivial C (Wk.mk' kK (wF (wF (wF (wF (wF (wF (wF (.cons U (Sub.of_eq (congrArg (AV.row 3) n2.symm)) .nil)))))))) B1 (.cons U .nil))
def sameTexts_any(l:List Str)(hl:l.length<=100000000):CallA prog 62 [.iv (.sl (l.map Str.c)),.iv (.sl (l.map Str.c))] [] [] [] (aB true):=by
 have q0:((((l.map Str.c).length:Nat):Int) !=(((l.map Str.c).length:Nat):Int))=false:=by simp
 refine iA func62 ntmps62 (fun w0 E0=> ?_);refine wz ?_;refine ae (ι:=Nat) (fun i=>⟨[(13,aI (i:Int)),(12,aI ((l.map Str.c).length:Int)),(0,.iv (.sl (l.map Str.c))),(1,.iv (.sl (l.map Str.c)))],[],[]⟩) (fun i=>l.length - i) (fun i=>True) (i0:=0) ?_ trivial ?_
 · exact wL
 intro i _ K hK;cases T:l[i]? with
 |none=>
  have ad:=gc (l:=l.map Str.c) (bz T);clear hK;refine wz ?_;all_goals refine aU ?_
  all_goals rfl
 |some x=>
  have ad:=fZ (l:=l.map Str.c) (cM (f:=Str.c) T);have ar:=fM T;have g1:(l.map Str.c)[((i:Nat):Int).toNat]?=some [S x]:=by rw[iN,gP,T];rfl
  have q1:(!(x==x))=false:=by simp
  refine wz ?_;refine hK _ (i+1) trivial C ?_;exact wL
def sameCat_any(c:B0)(a4:c.ts.length<=1000)(a5:c.is.length<=1000)(ar: ∀t∈c.ts,t.cols.length<=1000):
 CallA prog 61 [.agg (c.c.map .iv),.agg (c.c.map .iv)] [] [] [] (aB true):=by
 have q0:((((c.ts.map A4.c).length:Nat):Int) !=(((c.ts.map A4.c).length:Nat):Int))=false:=by simp
 have a2:((((c.is.map A7.c).length:Nat):Int) !=(((c.is.map A7.c).length:Nat):Int))=false:=by simp
 refine iA func61 ntmps61 (fun w0 E0=> ?_);refine wz ?_;refine ae (ι:=Nat) (fun i=>⟨[(28,aI (i:Int)),(27,aI ((c.ts.map A4.c).length:Int)),(26,.iv (.sl (c.ts.map A4.c))),(2,.ptr 2 0),(3,.ptr 3 0)],[(2,⟨47,.l (c.c.map .iv)⟩),(3,⟨47,.l (c.c.map .iv)⟩)],[]⟩) (fun i=>c.ts.length - i) (fun i=>True) (i0:=0) ?_ trivial ?_
 · exact wL
 intro i _ K hK;cases T:c.ts[i]? with
 |none=>
  have ad:=gc (l:=c.ts.map A4.c) (bz T);clear hK;refine wz ?_;refine ae (ι:=Nat) (fun i=>⟨[(81,aI (i:Int)),(80,aI ((c.is.map A7.c).length:Int)),(2,.ptr 2 0),(3,.ptr 3 0)],[(2,⟨47,.l (c.c.map .iv)⟩),(3,⟨47,.l (c.c.map .iv)⟩)],[]⟩) (fun i=>c.is.length - i) (fun i=>True) (i0:=0) ?_ trivial ?_
  · exact wL
  intro i _ K hK;cases T:c.is[i]? with
  |none=>
   have ad:=gc (l:=c.is.map A7.c) (bz T);clear hK;refine wz ?_;all_goals refine aU ?_
   all_goals rfl
  |some x=>
   have ad:=fZ (l:=c.is.map A7.c) (cM (f:=A7.c) T);have aR:=fM T;have g1:(c.is.map A7.c)[((i:Nat):Int).toNat]?=some [S x.n,S x.tb,S x.co]:=by rw[iN,gP,T];rfl
   have q1:(!((x.n==x.n) && ((x.tb==x.tb) && ((x.co==x.co) && true))))=false:=by simp
   refine wz ?_;refine hK _ (i+1) trivial C ?_;exact wL
 |some t=>
  have ad:=fZ (l:=c.ts.map A4.c) (cM (f:=A4.c) T);have aR:=fM T;have a6:=ar t (gE T);have g1:(c.ts.map A4.c)[((i:Nat):Int).toNat]?=some [S t.n,.sl (t.cols.map B8.c)]:=by rw[iN,gP,T];rfl
  have q1:(!(t.n==t.n))=false:=by simp
  have q2:((((t.cols.map B8.c).length:Nat):Int) !=(((t.cols.map B8.c).length:Nat):Int))=false:=by simp
  clear ar q0 a2;refine wz ?_;refine ae (ι:=Nat) (fun j=>⟨[(58,aI (j:Int)),(57,aI ((t.cols.map B8.c).length:Int)),(5,aI (i:Int)),(6,.ptr 6 0),(28,aI (i:Int)),(27,aI ((c.ts.map A4.c).length:Int)),(26,.iv (.sl (c.ts.map A4.c))),(2,.ptr 2 0),(3,.ptr 3 0)],[(6,⟨57,.l (t.c.map .iv)⟩),(2,⟨47,.l (c.c.map .iv)⟩),(3,⟨47,.l (c.c.map .iv)⟩)],[]⟩) (fun j=>t.cols.length - j) (fun j=>True) (i0:=0) ?_ trivial ?_
  · exact wL
  intro j _ K2 a0;cases hy:t.cols[j]? with
  |none=>
   have a1:=gc (l:=t.cols.map B8.c) (bz hy);clear a0;refine wz ?_;refine hK _ (i+1) trivial C ?_;exact wL
  |some x=>
   have a1:=fZ (l:=t.cols.map B8.c) (cM (f:=B8.c) hy);have a3:=fM hy;have g2:(t.cols.map B8.c)[((j:Nat):Int).toNat]?=some [S x.n,I x.t,.im (.bool x.m)]:=by rw[iN,gP,hy];rfl
   have q3:(!((x.n==x.n) && ((x.t==x.t) && ((x.m==x.m) && true))))=false:=by simp
   clear hK;refine wz ?_;refine a0 _ (j+1) trivial C ?_;exact wL
end Go.Proofs.Y
namespace Go.Proofs.Y
open Go.Abs Go.Proofs.Tryz
attribute [local irreducible] L Code.wp bodyPost Exit.then Exit.inBlock
variable [C3]
def cat_wide{g:C0}(h:B6 g):g.cat.ts.length<=1000/\g.cat.is.length<=1000/\ ∀t∈g.cat.ts,t.cols.length<=1000:=by
 obtain⟨_,D,T⟩:=h;have h1:=T.db.cat.tl;have h2:=T.db.cat.il;exact⟨by omega,by omega,fun t ht=>by have:=T.db.cat.wide ht;omega⟩
def catalog_all(g:C0)(h:B6 g):CallG cH prog 23 [.ptr 1010 0] [(1010,g.b)] [(1010,g.b)] [] (.agg (g.cat.c.map .iv)):=by
 obtain⟨h1,h2,h3⟩:=cat_wide h;exact catalog_any g.cat g.ps g.n h1 h2 h3
def same_any(g h:C0)(hg:B6 g)(hh:B6 h)(hc:h.cat=g.cat)(hp:h.ps=g.ps):
 CallG cH prog 34 [.ptr 1010 0,.ptr 1011 0] [(1010,g.b),(1011,h.b)] [(1010,g.b),(1011,h.b)] [] (aB true):=by
 obtain⟨c1,c2,c3⟩:=cat_wide hg;obtain⟨p1,p2,p3⟩:=AF hg;have kc:=catalog_all g hg;have kd:=(catalog_all h hh).sws [(1010,1011)] (args2:= [.ptr 1011 0]) (bx2:= [(1011,h.b)]) (bx2':= [(1011,h.b)]) (tk2':= []) (res2:= .agg (h.cat.c.map .iv)) U U U U U;have kt:=zW g hg;have T:=(zW h hh).sws [(1010,1011)] (args2:= [.ptr 1011 0]) (bx2:= [(1011,h.b)]) (bx2':= [(1011,h.b)]) (tk2':= []) (res2:= .agg [.iv (.sl (h.ps.map Pg.c))]) U U U U U;rw[hc] at kd;rw[hp] at T;have ks:=sameCat_any g.cat c1 c2 c3;have kf:=flat_any g.ps C p2 C;have kx:=sameTexts_any (flatM g.ps) (by rw[flatM,two_len];omega);refine iG func34 ntmps34 (fun w0 E0 hG=> ?_);(repeat' first|intro hb hp|refine ac [] rfl hG kc fS B1 rfl rfl rfl rfl ?_|refine ac [] rfl hG kd fS B1 rfl rfl rfl rfl ?_|refine ac [] rfl hG kt fS B1 rfl rfl rfl rfl ?_|refine ac [] rfl hG T fS B1 rfl rfl rfl rfl ?_|refine am ?_|refine al ?_ ?_|fail)
 all_goals exact L.ends U U sE wK
end Go.Proofs.Y
namespace Go.Proofs.Y
open Go.Abs
attribute [local irreducible] L Code.wp bodyPost Exit.then Exit.inBlock
def Hz(c:B0)(ps:List Pg)(s:A9):(cK c ps s).rep.code=0:=by
 unfold cK;repeat' split
 all_goals rfl
def yc: ∀(l:List A9) {c:B0} {ps:List Pg} {r:D3} {i:Int} {x:B0×List Pg×D3},r.code=0->ib c ps r i l= .ok x->x.2.2.code=0
 | [],c,ps,r,i,x,h,T=>by
   rw[ib] at T;cases T;exact h
 |s::l,c,ps,r,i,x,h,T=>by
  rw[ib] at T;split at T
  · cases T
  split at T
  · cases T
  exact yc l (Hz _ _ _) T
def Ju{g:C0}{x:Str}(h:(fz g x).2.code≠0):(fz g x).2.rows= [] /\(fz g x).1.cat=g.cat/\(fz g x).1.ps=g.ps:=by
 unfold fz at h|-;split
 · exact⟨rfl,rfl,rfl⟩
 rename_i h1;rw[if_neg h1] at h;split
 · exact⟨rfl,rfl,rfl⟩
 rename_i h2;rw[if_neg h2] at h;split
 · exact⟨rfl,rfl,rfl⟩
 · rename_i r hr;rw[hr] at h;exact absurd (yc _ U hr) h
variable [C3]
end Go.Proofs.Y
namespace Go.Proofs.Y
open Go.Abs
attribute [local irreducible] L Code.wp bodyPost Exit.then Exit.inBlock
def MI(g:C0)(x:Str):(fz g x).1.n<=g.n+1/\g.n<=(fz g x).1.n:=by
 unfold fz;split
 · exact⟨by dsimp only;omega,by dsimp only;omega⟩
 split
 · exact⟨by dsimp only;omega,by dsimp only;omega⟩
 split
 · exact⟨by dsimp only;omega,by dsimp only;omega⟩
 · exact⟨by dsimp only;omega,by dsimp only;omega⟩
def Ag(c:B0)(ps:List Pg)(x:Str):B0×List Pg×D3:=
 if(cj x).2≠0 then(c,ps,⟨(cj x).2,0,[]⟩)
 else match ib c ps ln 0 (cj x).1 with
  | .error e=>(c,ps,⟨e.1,e.2,[]⟩)
  | .ok r=>r
def zr{c:B0}{ps:List Pg}{n:Int}{x:Str}(h:n<150):fz ⟨c,ps,n⟩ x=(⟨(Ag c ps x).1,(Ag c ps x).2.1,n+1⟩,(Ag c ps x).2.2):=by
 have h1: ¬150<=n:=C;unfold fz Ag;dsimp only;rw[if_neg h1];by_cases h2:(cj x).2≠0
 · rw[if_pos h2,if_pos h2]
 · rw[if_neg h2,if_neg h2];cases ib c ps ln 0 (cj x).1<;>rfl
def Iq{g h:C0}{x:Str}(hc:h.cat=g.cat)(T:h.ps=g.ps)(h1:g.n<150)(h2:h.n<150):(fz h x).2=(fz g x).2/\(fz h x).1.cat=(fz g x).1.cat/\(fz h x).1.ps=(fz g x).1.ps:=by
 obtain⟨c,ps,n⟩:=g;obtain⟨c',ps',m⟩:=h;dsimp only at hc T h1 h2;subst hc;subst T;rw[zr h1,zr h2];exact⟨rfl,rfl,rfl⟩
variable [C3]
end Go.Proofs.Y
namespace Go.Abs
section
variable {P:Program}{c:C7}{ops:Array Oper}{Q:Exit->Act->World->Prop}{rest:List Oper}
 {fr:List (Nat×AV)} {bx:List (Nat×A5)} {tk:List (Nat×C9)} {d:Nat} {ty:TypeId} {pos:String} {aft:Array Edge}
def s_callFnV{gs:aw}{f:FuncId}{x:Operand}{args:Array Operand}{ar:Array TypeId}{avs caps:List AV}{bxi T:List (Nat×A5)}{ad:AV}(aR:Nat.ble (d+1) c.nt=true)(hG:Glob gs c.E0 c.w0)(hx:St.ev ⟨fr,bx,tk⟩ x= .fn f caps)[a4:A0 P f]
 (hc:CallG gs P f (avs++caps) bxi T [] ad) (ha:AV.pub.pubs (args.toList.map (St.ev ⟨fr,bx,tk⟩))=avs) (a0:G5 bx bxi) (a1:dV [] bxi T=true) (a2:T.all (fun p=>AV.mentsIn ([] ++keys bxi) p.2.cs)=true) (a3:AV.mentIn ([] ++keys bxi) ad=true)
 (h:LW P c ⟨(d,ad)::fr,T++bx,tk⟩ ops Q rest):
 LW P c ⟨fr,bx,tk⟩ ops Q (⟨some d,.call {callee:= .value x,args:=args,argTypes:=ar},ty,pos,aft,none⟩::rest):=
 oY [] aR hG hx hc (.of_pub ha) a0.b U a1 a2 a3 h
def d_callFnV{aR:St}{done:List D5}{gs:aw}{f:FuncId}{x:Operand}{args:Array Operand}{a0:Array TypeId}{avs caps:List AV}{bxi T:List (Nat×A5)}{ad:AV}(a1:Nat.ble (d+1) c.nt=true)(hG:Glob gs c.E0 c.w0)(hx:St.ev ⟨fr,bx,tk⟩ x= .fn f caps)[a7:A0 P f]
 (hc:CallG gs P f (avs++caps) bxi T [] ad) (ha:AV.pub.pubs (args.toList.map (St.ev ⟨fr,bx,tk⟩))=avs) (a2:G5 bx bxi) (a3:dV [] bxi T=true) (a4:T.all (fun p=>AV.mentsIn ([] ++keys bxi) p.2.cs)=true) (a5:AV.mentIn ([] ++keys bxi) ad=true)
 (h:DR P c ops Q aR (⟨some (d,ad),T,[],[],keys bxi,[],[]⟩::done) ⟨(d,ad)::fr,T++bx,tk⟩ rest):DR P c ops Q aR done ⟨fr,bx,tk⟩ (⟨some d,.call {callee:= .value x,args:=args,argTypes:=a0},ty,pos,aft,none⟩::rest):=
 DR.cons (e:=⟨some (d,ad),T,[],[],keys bxi,[],[]⟩) (fun st' ar Q' hL=>LW.out (s_callFnV (fr:=st'.fr) (bx:=st'.bx) (tk:=st'.tk) a1 hG ((ar.ev x oO).trans hx) hc ((by rw[IY ar.ev (fun x hx=>by simp[Op.operands,Call.operands,hx])];exact ha)) (a2.of (fun id a6=>ar.bx id a6)) a3 a4 a5 (Ec hL))) h
end
end Go.Abs
namespace Go.Proofs.Y
open Go.Abs Go.Proofs.Tryz
attribute [local irreducible] L Code.wp bodyPost Exit.then Exit.inBlock
abbrev heB:A5:=⟨23,.l [.ptr 1011 0]⟩
def twinM(k:C0)(x:Str)(r:D3):C0:=if r.code=0 then(fz k x).1 else k
structure Twin (g k:C0) (i:Int):Prop where
 gk:B6 g
 kk:B6 k
 ct:k.cat=g.cat
 pt:k.ps=g.ps
 gn:g.n<=i
 kn:k.n<=i
def Twin.step{g k:C0}{i:Int}(h:Twin g k i)(hi:i<150)(x:Str):Twin (fz g x).1 (twinM k x (fz g x).2) (i+1):=by
 have h1:=(MI g x).1;have h2:=(MI k x).1;have g1:=h.gn;have g2:=h.kn;unfold twinM;by_cases hc:(fz g x).2.code=0
 · rw[if_pos hc];obtain⟨_,T,e2⟩:=Iq (x:=x) h.ct h.pt C C;exact⟨la h.gk x,la h.kk x,T,e2,by omega,by omega⟩
 · rw[if_neg hc];obtain⟨_,T,e2⟩:=Ju hc;exact⟨la h.gk x,h.kk,h.ct.trans T.symm,h.pt.trans e2.symm,by omega,by omega⟩
def twinGo:C0->C0->List Str->C0×C0
 |g,k,[] =>(g,k)
 |g,k,x::l=>twinGo (fz g x).1 (twinM k x (fz g x).2) l
variable [C3]
def whole1_any(g k:C0)(x:Str)(r:D3)(hg:B6 g)(hk:B6 k)(T:B6 (twinM k x r))(hr:r.code≠0->r.rows= [])(hc:(twinM k x r).cat=g.cat)(hp:(twinM k x r).ps=g.ps):
 CallG cH prog 33 ([.ptr 1010 0,.agg [aS x],r.av] ++ [.ptr 1012 0]) [(1010,g.b),(1012,heB),(1011,k.b)] [(1010,g.b),(1012,heB),(1011,(twinM k x r).b)] [] (aB true):=by
 have kd:=(oI k hk x).sws [(1010,1011)] (args2:= [.ptr 1011 0,.agg [aS x]]) (bx2:= [(1011,k.b)]) (bx2':= [(1011,(fz k x).1.b)]) (tk2':= []) (res2:=(fz k x).2.av) U U U U U;have ks:=same_any g (twinM k x r) hg T hc hp;refine iG func33 ntmps33 (fun w0 E0 hG=> ?_);unfold twinM at ks|-;by_cases h0:r.code=0
 · rw[if_pos h0] at ks|-;have q:(r.code==0)=true:=by rw[h0];rfl
   clear hr T hc hp;generalize fz k x=Z at*
   (repeat' first|intro hb hp|refine ac [] rfl hG kd fS B1 rfl rfl rfl rfl ?_|refine ac [] rfl hG ks fS B2 rfl rfl rfl rfl ?_|refine am ?_|refine al ?_ ?_|fail)
   all_goals exact L.ends U U sE wK
 · rw[if_neg h0] at ks|-;have q:(r.code==0)=false:=by simpa using h0
   have q2:(((r.rows.map ai).length:Int)==0)=true:=by rw[hr h0];rfl
   clear hr T hc hp kd;(repeat' first|intro hb hp|refine ac [] rfl hG ks fS B2 rfl rfl rfl rfl ?_|refine am ?_|refine al ?_ ?_|fail)
   all_goals exact L.ends U U (Sub.of_eq (congrArg (fun b=>aB b) q2)) wK
def playW_any(l:List Str)(hl:l.length<=140737488355328):
 CallG cH prog 15 [.iv (.sl (l.map Str.c)),.fn 33 [.ptr 1012 0]] [(1012,heB),(1011,eng0.b)] [(1010,(twinGo eng0 eng0 (l.take 40)).1.b),(1012,heB),(1011,(twinGo eng0 eng0 (l.take 40)).2.b)] [] (.tup [.ptr 1010 0,aB true]):=by
 have ka:=FU;have kn:=Er (gs:=cH);generalize hZ:twinGo eng0 eng0 (l.take 40)=Z;refine iG func15 ntmps15 (fun w0 E0 hG=> ?_);(repeat' first|intro hb hp|refine ac [1010] rfl hG kn .nil .nil rfl rfl rfl rfl ?_|refine am ?_|refine al ?_ ?_|fail)
 refine ae (ι:=Nat×C0×C0) (fun i=>⟨[(7,aI (i.1:Int)),(0,.iv (.sl (l.map Str.c))),(1,.fn 33 [.ptr 1012 0]),(6,.ptr 1010 0)],[(1010,i.2.1.b),(1012,heB),(1011,i.2.2.b)],[]⟩) (fun i=>l.length - i.1) (fun i=>Twin i.2.1 i.2.2 (i.1:Int)/\i.1<=40/\twinGo i.2.1 i.2.2 ((l.take 40).drop i.1)=Z) (i0:=(0,eng0,eng0)) ?_ ⟨⟨tW,tW,rfl,rfl,Int.le_refl _,Int.le_refl _⟩,by decide,hZ⟩ ?_
 · exact wL
 rintro ⟨i,g,k⟩ ⟨hg,hi,T⟩ K hK;dsimp only at hg hi T hK;by_cases ar:i<40
 case neg=>
  have q2:decide ((i:Int)<40)=false:=decide_eq_false C;rw[dL (by rw[lT];omega)] at T;have T:(g,k)=Z:=T;subst T;clear hK;by_cases a2:i<l.length
  · have q1:decide ((i:Int)<((l.map Str.c).length:Int))=true:=decide_eq_true (by rw[lM];omega);refine wz ?_;all_goals exact L.ends U U fR wK
  · have q1:decide ((i:Int)<((l.map Str.c).length:Int))=false:=decide_eq_false (by rw[lM];omega);refine wz ?_;all_goals exact L.ends U U fR wK
 have q2:decide ((i:Int)<40)=true:=decide_eq_true C;cases hx:l[i]? with
 |none=>
  have q1:=gc (l:=l.map Str.c) (bz hx);rw[dL (by rw[lT];have:=gO hx;omega)] at T;have T:(g,k)=Z:=T;subst T;clear hK;refine wz ?_;all_goals exact L.ends U U fR wK
 |some x=>
  have q1:=fZ (l:=l.map Str.c) (cM (f:=Str.c) hx);have a1:=fM hx;have g1:(l.map Str.c)[((i:Nat):Int).toNat]?=some [S x]:=by rw[iN,gP,hx];rfl
  have ad:(l.take 40)[i]?=some x:=by rw[List.getElem?_take,if_pos ar];exact hx
  have aR:(l.take 40).drop i=x::(l.take 40).drop (i+1):=fu ad;rw[aR] at T;have kd:=oI g hg.gk x;have hs:=hg.step C x;have kq:=whole1_any (fz g x).1 k x (fz g x).2 hs.gk hg.kk hs.kk (fun h=>(Ju h).1) hs.ct hs.pt;have T:twinGo (fz g x).1 (twinM k x (fz g x).2) ((l.take 40).drop (i+1))=Z:=T;generalize twinM k x (fz g x).2=k' at*
  have a0:Twin (fz g x).1 k' ((i+1:Nat):Int):=by
   rw[show((i+1:Nat):Int)=(i:Int)+1 by omega];exact hs
  (repeat' first|intro hb hp|refine ac [] rfl hG kd fS B1 rfl rfl rfl rfl ?_|refine DR.is (d_callFnV (f:=33) U hG U kq U (.cons U (.cons U (.cons U .nil))) U U U ?_)|refine am ?_|refine al ?_ ?_|fail)
  exact hK _ (i+1,(fz g x).1,k') ⟨a0,by omega,T⟩ oD wL
def topWhole_any(l:List Str)(hl:l.length<=140737488355328):CallG cH prog 7 [.iv (.sl (l.map Str.c))] [] [] [] (aB true):=by
 have kn:=(Er (gs:=cH)).sws [(1010,1011)] (args2:= []) (bx2:= []) (bx2':= [(1011,eng0.b)]) (tk2':= []) (res2:= .ptr 1011 0) U U U U U;have kp:=(playW_any l hl).sws [(1012,3)] (args2:= [.iv (.sl (l.map Str.c)),.fn 33 [.ptr 3 0]]) (bx2:= [(3,heB),(1011,eng0.b)]) (bx2':= [(1010,(twinGo eng0 eng0 (l.take 40)).1.b),(3,heB),(1011,(twinGo eng0 eng0 (l.take 40)).2.b)]) (tk2':= []) (res2:= .tup [.ptr 1010 0,aB true]) U U U U U;generalize twinGo eng0 eng0 (l.take 40)=Z at*
 refine iG func7 ntmps7 (fun w0 E0 T=> ?_);(repeat' first|intro hb hp|refine ac [1011] rfl T kn .nil .nil rfl rfl rfl rfl ?_|refine ag rfl (aA U) ?_|refine ac [1010] U T kp fS B2 U U U U ?_|refine am ?_|refine al ?_ ?_|fail)
 all_goals exact L.ends U U sE wK
end Go.Proofs.Y
