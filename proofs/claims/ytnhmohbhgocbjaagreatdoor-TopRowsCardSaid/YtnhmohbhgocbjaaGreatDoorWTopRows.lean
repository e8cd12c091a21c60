/- Lemmas towards the law. Conditions: each one says its own. -/
import Derived.Test.YtnhmohbhgocbjaaGreatDoorZU16
set_option linter.all false
set_option maxHeartbeats 64000000
set_option maxRecDepth 100000
namespace Go.Proofs.Y
open Go.Abs Go.Proofs.Tryz
attribute [local irreducible] L Code.wp bodyPost Exit.then Exit.inBlock
def copyIdx_any(es:List (List IV))(hk: ∀e∈es,e.length=3)(hl:es.length<=1000000):
 CallA prog 49 [.iv (.sl es)] [] [] [] (.iv (.sl es)):=by
 by_cases T:es= []
 · subst T;refine iA func49 ntmps49 (fun w0 E0=> ?_);(repeat' first|intro hb hp|apply mu;rfl;rfl;rfl;rintro (_|_)|(refine LW.is ?_;first|apply eA;rfl;rfl;rfl;rfl;rfl|apply ag;rfl;apply tH;rfl;exact Sub.bslE _ _;rfl)|refine am ?_|refine al ?_ ?_|fail)
   all_goals(apply L.ends;rfl;rfl;(first|exact Sub.nils|exact Sub.emp);exact wL)
 · have hm:es.length<=maxLen:=by rw[fJ];omega
   have hb:es.length*48<=140737488355328:=C;refine iA func49 ntmps49 (fun w0 E0=> ?_);(repeat' first|intro hb hp|(refine LW.is ?_;first|apply ag;rfl;apply jZ;rfl;rfl;exact T|apply eA;rfl;rfl;rfl;rfl;rfl|apply kC 1000;rfl;rfl;rfl;exact hk;exact T;exact hm;exact hb;rfl)|refine am ?_|refine al ?_ ?_|fail)
   all_goals(refine L.pubS 1000 2 (es:=es) (k:=3) U U hk dD T U U .here ?_)
   all_goals(apply L.ends;rfl;rfl;exact fR;exact wL)
def catalog_any{gs:aw}(c:B0)(ps:List Pg)(n:Int)(a0:c.ts.length<=1000)(a1:c.is.length<=1000)(ad: ∀t∈c.ts,t.cols.length<=1000):
 CallG gs prog 23 [.ptr 1010 0] [(1010,ca c ps n)] [(1010,ca c ps n)] [] (.agg (c.c.map .iv)):=by
 have kx:=copyIdx_any (c.is.map A7.c) (fun e he=>by obtain⟨y,_,rfl⟩:=mM he;rfl) (by rw[lM];omega);refine iG func23 ntmps23 (fun w0 E0 hG=> ?_);refine wz ?_;refine L.adoptB 3 108 57 2 U sP U U (.cons .here (.cons .same .nil)) ?_;refine ae (ι:=Nat) (fun i=>⟨[(22,aI (i:Int)),(21,aI ((c.ts.map A4.c).length:Int)),(20,.iv (.sl (c.ts.map A4.c))),(2,.ptr 2 0),(3,.ptr 3 0)],
  [(1010,ca c ps n),(2,⟨47,.l [.nils,.nils]⟩),(3,⟨47,.l [.row 108 ((c.ts.take i).map A4.c),.iv (.sl (c.is.map A7.c))]⟩)],[(108,⟨57,2⟩)]⟩) (fun i=>c.ts.length - i) (fun i=>True) (i0:=0) ?_ trivial ?_
 · exact wL
 intro i _ K hK;cases hx:c.ts[i]? with
 |none=>
  have ar:=gc (l:=c.ts.map A4.c) (bz hx);rw[br hx];clear hK;refine wz ?_;all_goals(apply L.ends;rfl;rfl;exact Sub.agg (.cons (Sub.row _ _) fS);exact wL)
 |some t=>
  have ar:=fZ (l:=c.ts.map A4.c) (cM (f:=A4.c) hx);have aR:=fM hx;have a2:=ad t (gE hx);have g1:(c.ts.map A4.c)[((i:Nat):Int).toNat]?=some [S t.n,.sl (t.cols.map B8.c)]:=by rw[iN,gP,hx];rfl
  have n1:(c.ts.take (i+1)).map A4.c=(c.ts.take i).map A4.c++ [[S t.n,.sl (t.cols.map B8.c)]]:=by rw[dv hx,pA];rfl
  have l1:((c.ts.take i).map A4.c).length=i:=by simp;omega
  have k1: ∀e∈(c.ts.take i).map A4.c,e.length=2:=fun e he=>by obtain⟨y,_,rfl⟩:=mM he;rfl
  have kc:=Lf (t.cols.map B8.c) (fun e he=>by obtain⟨y,_,rfl⟩:=mM he;rfl) (by rw[lM];omega);generalize (c.ts.take i).map A4.c=es at*
  clear ad;(repeat' first|intro hb hp|(refine LW.is ?_;first|apply bJ;rfl;rfl;rfl;rfl;exact k1;(first|exact T U|exact bB U bV);(simp[maxLen,ah,l1];omega);(simp[ah,l1];omega);rfl;rfl)|refine am ?_|refine al ?_ ?_|fail)
  refine L.onlyS [22,21,20,2,3] [1010,2,3] U ?_;refine Ca 3 34 108 U sP U U U (.cons .row (.cons .same .nil)) ?_;refine hK _ (i+1) trivial C (Wk.mk' kK F5 (wB (wB (.cons U U (Subs.cons (Sub.of_eq (congrArg (AV.row 108) n1.symm)) fS) .nil))) (.cons U .nil))
end Go.Proofs.Y
namespace Go.Proofs.Y
open Go.Abs Go.Proofs.Tryz
attribute [local irreducible] L Code.wp bodyPost Exit.then Exit.inBlock
variable [C3]
def cat_wide{g:C0}(h:B6 g):g.cat.ts.length<=1000/\g.cat.is.length<=1000/\ ∀t∈g.cat.ts,t.cols.length<=1000:=by
 obtain⟨_,D,T⟩:=h;have h1:=T.db.cat.tl;have h2:=T.db.cat.il;exact⟨by omega,by omega,fun t ht=>by have:=T.db.cat.wide ht;omega⟩
def catalog_all(g:C0)(h:B6 g):CallG cH prog 23 [.ptr 1010 0] [(1010,g.b)] [(1010,g.b)] [] (.agg (g.cat.c.map .iv)):=by
 obtain⟨h1,h2,h3⟩:=cat_wide h;exact catalog_any g.cat g.ps g.n h1 h2 h3
def quiet_any{gs:aw}(x:Str)(r:D3):CallG gs prog 16 ([.ptr 1010 0,.agg [aS x],r.av] ++ []) [] [] [] (aB true):=by
 refine iG func16 ntmps16 (fun w0 E0 T=> ?_);refine wz ?_;all_goals exact L.ends U U sE wK
def playGo(g:C0)(l:List Str):C0:=l.foldl (fun g x=>(fz g x).1) g
def playM(l:List Str):C0:=playGo eng0 (l.take 40)
def playGo_ok: ∀(l:List Str) {g:C0},B6 g->B6 (playGo g l)
 | [],_,h=>h
 |x::l,g,h=>playGo_ok l (la h x)
def play_ok(l:List Str):B6 (playM l):=playGo_ok _ tW
def play_any(l:List Str)(hl:l.length<=140737488355328):
 CallG cH prog 15 [.iv (.sl (l.map Str.c)),.fn 16 []] [] [(1010,(playM l).b)] [] (.tup [.ptr 1010 0,aB true]):=by
 have ka:=FU;have kn:=Er (gs:=cH);generalize hZ:playM l=Z;refine iG func15 ntmps15 (fun w0 E0 hG=> ?_);(repeat' first|intro hb hp|refine ac [1010] rfl hG kn .nil .nil rfl rfl rfl rfl ?_|refine am ?_|refine al ?_ ?_|fail)
 refine ae (ι:=Nat×C0) (fun i=>⟨[(7,aI (i.1:Int)),(0,.iv (.sl (l.map Str.c))),(1,.fn 16 []),(6,.ptr 1010 0)],[(1010,i.2.b)],[]⟩) (fun i=>l.length - i.1) (fun i=>B6 i.2/\i.1<=40/\playGo i.2 ((l.take 40).drop i.1)=Z) (i0:=(0,eng0)) ?_ ⟨tW,by decide,hZ⟩ ?_
 · exact wL
 rintro ⟨i,g⟩ ⟨hg,hi,T⟩ K hK;dsimp only at hg hi T hK;by_cases ar:i<40
 case neg=>
  have q2:decide ((i:Int)<40)=false:=decide_eq_false C;rw[dL (by rw[lT];omega)] at T;have T:g=Z:=T;subst T;clear hK;by_cases a2:i<l.length
  · have q1:decide ((i:Int)<((l.map Str.c).length:Int))=true:=decide_eq_true (by rw[lM];omega);refine wz ?_;all_goals exact L.ends U U fR wK
  · have q1:decide ((i:Int)<((l.map Str.c).length:Int))=false:=decide_eq_false (by rw[lM];omega);refine wz ?_;all_goals exact L.ends U U fR wK
 have q2:decide ((i:Int)<40)=true:=decide_eq_true C;cases hx:l[i]? with
 |none=>
  have q1:=gc (l:=l.map Str.c) (bz hx);rw[dL (by rw[lT];have:=gO hx;omega)] at T;have T:g=Z:=T;subst T;clear hK;refine wz ?_;all_goals exact L.ends U U fR wK
 |some x=>
  have q1:=fZ (l:=l.map Str.c) (cM (f:=Str.c) hx);have a1:=fM hx;have g1:(l.map Str.c)[((i:Nat):Int).toNat]?=some [S x]:=by rw[iN,gP,hx];rfl
  have ad:(l.take 40)[i]?=some x:=by rw[List.getElem?_take,if_pos ar];exact hx
  have aR:(l.take 40).drop i=x::(l.take 40).drop (i+1):=fu ad;rw[aR] at T;have kd:=oI g hg x;have a0:=la hg x;have kq:=quiet_any (gs:=cH) x (fz g x).2;(repeat' first|intro hb hp|refine ac [] rfl hG kd fS B1 rfl rfl rfl rfl ?_|refine DR.is (eY (f:=16) U hG U kq U .nil U U U ?_)|refine am ?_|refine al ?_ ?_|fail)
  exact hK _ (i+1,(fz g x).1) ⟨a0,by omega,T⟩ oD wL
end Go.Proofs.Y
namespace Go.Proofs.Y
open Go.Abs Go.Proofs.Tryz
attribute [local irreducible] L Code.wp bodyPost Exit.then Exit.inBlock
def CA{c:B0}{ps:List Pg}{D:Str->List (List A3)}(h:EI c ps D){t:A4}(ht:t∈c.ts):
 (ci ps t (eh t.n)).length<=30/\(ci ps t (eh t.n)).Pairwise (fun r r'=>cA (r.getD 0 af) (r'.getD 0 af)= -1)/\ ∀r∈ci ps t (eh t.n),jK t r=true:=by
 have h1:=gR h.db ht;have h2:=(jb h.db ht (dm t.n) (eh t.n).hi (fun _=>true) (fun a h1 h2=>⟨h1,h2⟩) (fun r hr=>⟨fun _=>DH t.n (de [r.getD 0 af]),fun _=>rfl⟩)).2;refine⟨by rw[h1.length_eq];exact h.few t ht,h2,fun r hr=>h.fits t ht r (h1.mem_iff.1 hr)⟩
def Kh{t:A4}{r:List A3}(h:jK t r=true){k:Nat}{c:B8}(hc:t.cols[k]?=some c):
 ∃v,r[k]?=some v/\au v=true/\(v.k=c.t\/(v.k≠c.t/\c.m=false/\v.k=0)):=by
 simp only[jK,aE,beq_iff_eq] at h;obtain⟨h1,h2⟩:=h;have hk:=(gS hc).1;have T:r[k]?=some (r.getD k af):=by rw[List.getD_eq_getElem?_getD,gG C];rfl
 have h3:=zip_all.1 h2 k c hc;refine⟨_,T,?_⟩;generalize r.getD k af=v at*
 simp only[De,Bool.not_eq_true',Bool.or_eq_false_iff,Bool.not_eq_false',Bool.and_eq_false_iff,bne_eq_false_iff_eq] at h3;refine⟨h3.1,?_⟩;by_cases e:v.k=c.t
 · exact .inl e
 · rcases h3.2 with h4|h4
   · exact absurd h4 e
   · exact .inr ⟨e,h4.1,h4.2⟩
def xt{α:Type}{R:α->α->Prop}: ∀{l:List α} {j:Nat} {x y:α},l.Pairwise R->l[j]?=some x->l[j+1]?=some y->R x y
 | [],j,x,y,_,T,_=>by simp at T
 |a::l,0,x,y,h,T,hy=>by
  simp at T hy;subst T;exact(List.pairwise_cons.1 h).1 y (gE hy)
 |a::l,j+1,x,y,h,T,hy=>xt (List.pairwise_cons.1 h).2 (by simpa using T) (by simpa using hy)
variable [C3]
def zY(l:List Str)(hl:l.length<=140737488355328):CallG cH prog 5 [.iv (.sl (l.map Str.c))] [] [] [] (aB true):=by
 have hg:=play_ok l;have k1:=play_any l hl;generalize playM l=g at*
 have kc:=catalog_all g hg;have kt:=zW g hg;obtain⟨c1,c2,c3⟩:=cat_wide hg;obtain⟨p1,p2,p3⟩:=AF hg;obtain⟨_,D,hd⟩:=hg;have kg:=Cc (sV g.cat hd.db.cat.ok);rw[(sa g.cat).2 hd.db.cat] at kg;have kG:=iC g.ps C;rw[hd.db.good] at kG;obtain⟨c,ps,n⟩:=g;dsimp only at*
 refine iG func5 ntmps5 (fun w0 E0 hG=> ?_);(repeat' first|intro hb hp|refine ac [1010] rfl hG k1 fS .nil rfl rfl rfl rfl ?_|refine ac [] rfl hG kc fS B1 rfl rfl rfl rfl ?_|refine ac [] rfl hG kt fS B1 rfl rfl rfl rfl ?_|refine am ?_|refine al ?_ ?_|fail)
 clear k1 kc kt kg kG;refine ae (ι:=Nat) (fun i=>⟨[(36,aI (i:Int)),(35,aI ((c.ts.map A4.c).length:Int)),(34,.iv (.sl (c.ts.map A4.c))),(6,.ptr 6 0)],[(6,⟨51,.l [.iv (.sl (ps.map Pg.c))]⟩)],[]⟩) (fun i=>c.ts.length - i) (fun _=>True) (i0:=0) ?_ trivial ?_
 · exact wL
 intro i _ K hK;cases hx:c.ts[i]? with
 |none=>
  have ad:=gc (l:=c.ts.map A4.c) (bz hx);clear hK;refine wz ?_;all_goals exact L.ends U U sE wK
 |some t=>
  have ad:=fZ (l:=c.ts.map A4.c) (cM (f:=A4.c) hx);have a1:=fM hx;have ht:=gE hx;have g1:(c.ts.map A4.c)[((i:Nat):Int).toNat]?=some t.c:=by rw[iN,gP,hx];rfl
  have hz:=hd.db.cat.szc;have a2:t.n.length<=140737488355328:=by have:=fw (hd.db.cat.tname ht);omega
  have ka:=oR t.n a2;have kr:=pb ps t (eh t.n) C hd.db.small a2 (by simp[eh]);obtain⟨r1,r2,r3⟩:=CA hd ht;have ba:=c3 t ht;generalize ci ps t (eh t.n)=R at*
  have bh:((R.map ai).length:Int)=(R.length:Int):=by rw[lM]
  have a5:decide ((30:Int)<((R.map ai).length:Int))=false:=decide_eq_false C;refine wz ?_;clear ka kr ad g1 a5;refine ae (ι:=Nat) (fun j=>⟨[(51,aI (j:Int)),(50,aI ((R.map ai).length:Int)),(49,.iv (.sl (R.map ai))),(9,.iv (.sl (R.map ai))),(8,.ptr 8 0),(36,aI (i:Int)),(35,aI ((c.ts.map A4.c).length:Int)),(34,.iv (.sl (c.ts.map A4.c))),(6,.ptr 6 0)],[(8,⟨57,.l (t.c.map .iv)⟩),(6,⟨51,.l [.iv (.sl (ps.map Pg.c))]⟩)],[]⟩) (fun j=>R.length - j) (fun _=>True) (i0:=0) ?_ trivial ?_
  · exact wL
  intro j _ K2 ar;cases hy:R[j]? with
  |none=>
   have ad:=gc (l:=R.map ai) (bz hy);clear ar;refine wz ?_;exact hK _ (i+1) trivial C wK
  |some x=>
   have ad:=fZ (l:=R.map ai) (cM (f:=ai) hy);have a1:=fM hy;have a6:=r3 x (gE hy);have g1:(R.map ai)[((j:Nat):Int).toNat]?=some (ai x):=by rw[iN,gP,hy];rfl
   clear hK;apply L.tail (ι:=Unit) (fun _=>⟨[(75,aI 0),(74,aI ((t.cols.map B8.c).length:Int)),(73,.iv (.sl (t.cols.map B8.c))),(11,.iv (.sl (x.map A3.c))),(51,aI (j:Int)),(50,aI ((R.map ai).length:Int)),(49,.iv (.sl (R.map ai))),(9,.iv (.sl (R.map ai))),(8,.ptr 8 0),(36,aI (i:Int)),(35,aI ((c.ts.map A4.c).length:Int)),(34,.iv (.sl (c.ts.map A4.c))),(6,.ptr 6 0)],[(8,⟨57,.l (t.c.map .iv)⟩),(6,⟨51,.l [.iv (.sl (ps.map Pg.c))]⟩)],[]⟩) (fun _=>True)
   · intro tl;cases j with
     |zero=>
      have q0:decide ((0:Int)<((0:Nat):Int))=false:=rfl;refine wz ?_;exact tl () _ trivial wL
     |succ j=>
      obtain⟨y,aR⟩: ∃y,R[j]?=some y:=⟨_,gG C⟩
      have q0:decide ((0:Int)<((j+1:Nat):Int))=true:=decide_eq_true C;have g2:(R.map ai)[(((j+1:Nat):Int) - 1).toNat]?=some (ai y):=by
       rw[show(((j+1:Nat):Int) - 1).toNat=j by omega,gP,aR];rfl
      have a3: ∀z∈R,(z.map A3.c)[(0:Int).toNat]?=some (z.getD 0 af).c:=fun z a7=>by
       have hw:=(hd.db.cat.wide ht).1;have hf:=r3 z a7;simp only[jK,aE,beq_iff_eq] at hf;cases z with
       |nil=>simp at hf;omega
       |cons a z=>rfl
      have g3:=a3 x (gE hy);have g4:=a3 y (gE aR);have kk:=ny (y.getD 0 af) (x.getD 0 af);rw[xt r2 aR hy] at kk;have q1:decide ((0:Int)<= -1)=false:=rfl;refine wz ?_;exact tl () _ trivial wL
   intro _ _;refine ae (ι:=Nat) (fun k=>⟨[(75,aI (k:Int)),(74,aI ((t.cols.map B8.c).length:Int)),(73,.iv (.sl (t.cols.map B8.c))),(11,.iv (.sl (x.map A3.c))),(51,aI (j:Int)),(50,aI ((R.map ai).length:Int)),(49,.iv (.sl (R.map ai))),(9,.iv (.sl (R.map ai))),(8,.ptr 8 0),(36,aI (i:Int)),(35,aI ((c.ts.map A4.c).length:Int)),(34,.iv (.sl (c.ts.map A4.c))),(6,.ptr 6 0)],[(8,⟨57,.l (t.c.map .iv)⟩),(6,⟨51,.l [.iv (.sl (ps.map Pg.c))]⟩)],[]⟩) (fun k=>t.cols.length - k) (fun _=>True) (i0:=0) ?_ trivial ?_
   · exact wL
   intro k _ K3 a0;cases hc:t.cols[k]? with
   |none=>
    have a4:=gc (l:=t.cols.map B8.c) (bz hc);clear a0;refine wz ?_;exact ar _ (j+1) trivial C wL
   |some cl=>
    have a4:=fZ (l:=t.cols.map B8.c) (cM (f:=B8.c) hc);have a8:=fM hc;obtain⟨v,hv,a9,T⟩:=Kh a6 hc;have g3:(t.cols.map B8.c)[((k:Nat):Int).toNat]?=some cl.c:=by rw[iN,gP,hc];rfl
    have g4:(x.map A3.c)[((k:Nat):Int).toNat]?=some v.c:=by rw[iN,gP,hv];rfl
    have kv:=aY v;rw[a9] at kv;clear ar;rcases T with T|⟨T,hm,h0⟩
    · have q1:(v.k !=cl.t)=false:=by simpa using T
      refine wz ?_;exact a0 _ (k+1) trivial C wL
    · have q1:(v.k !=cl.t)=true:=by simpa using T
      have q2:(v.k !=0)=false:=by rw[h0];rfl
      refine wz ?_;exact a0 _ (k+1) trivial C wL
end Go.Proofs.Y
