/- Lemmas towards the law. Conditions: each one says its own. -/
import Derived.Test.YtnhmohbhgocbjaaGreatDoorZT19
set_option linter.all false
set_option maxHeartbeats 64000000
set_option maxRecDepth 100000
namespace Go.Proofs.Y
open Go.Abs Go.Proofs.Tryz
attribute [local irreducible] L Code.wp bodyPost Exit.then Exit.inBlock
def copyIdx_any(es:List (List IV))(hk: ∀e∈es,e.length=3)(hl:es.length≤1000000):
 CallA prog 49 [.iv (.sl es)] [] [] [] (.iv (.sl es)):=by
 by_cases hne:es= []
 · subst hne;refine iA func49 ntmps49 (fun w0 E0=> ?_);(repeat' first|intro hb hp|apply jW;rfl;rfl;rfl;rintro (_|_)|(refine LW.is ?_;first|apply dA;rfl;rfl;rfl;rfl;rfl|apply ag;rfl;apply qF;rfl;exact Sub.bslE _ _;rfl)|refine am ?_|refine ak ?_ ?_|fail)
   all_goals(apply L.ends;rfl;rfl;(first|exact Sub.nils|exact Sub.emp);exact wL)
 · have hm:es.length≤maxLen:=by rw[fC];omega
   have hb:es.length*48≤140737488355328:=C;refine iA func49 ntmps49 (fun w0 E0=> ?_);(repeat' first|intro hb hp|(refine LW.is ?_;first|apply ag;rfl;apply ju;rfl;rfl;exact hne|apply dA;rfl;rfl;rfl;rfl;rfl|apply jv 1000;rfl;rfl;rfl;exact hk;exact hne;exact hm;exact hb;rfl)|refine am ?_|refine ak ?_ ?_|fail)
   all_goals(refine L.pubS 1000 2 (es:=es) (k:=3) U U hk dD hne U U .here ?_)
   all_goals(apply L.ends;rfl;rfl;exact fR;exact wL)
def catalog_any{gs:au}(c:Cat)(ps:List Pg)(n:Int)(hts:c.ts.length≤1000)(his:c.is.length≤1000)(hcl: ∀t∈c.ts,t.cols.length≤1000):
 CallG gs prog 23 [.ptr 1010 0] [(1010,bQ c ps n)] [(1010,bQ c ps n)] [] (.agg (c.c.map .iv)):=by
 have kx:=copyIdx_any (c.is.map Idx.c) (fun e he=>by obtain⟨y,_,rfl⟩:=mM he;rfl) (by rw[lM];omega);refine iG func23 ntmps23 (fun w0 E0 hG=> ?_);refine wz ?_;refine L.adoptB 3 108 57 2 U sP U U (.cons .here (.cons .same .nil)) ?_;refine ae (ι:=Nat) (fun i=>⟨[(22,aI (i:Int)),(21,aI ((c.ts.map Tab.c).length:Int)),(20,.iv (.sl (c.ts.map Tab.c))),(2,.ptr 2 0),(3,.ptr 3 0)],
  [(1010,bQ c ps n),(2,⟨47,.l [.nils,.nils]⟩),(3,⟨47,.l [.row 108 ((c.ts.take i).map Tab.c),.iv (.sl (c.is.map Idx.c))]⟩)],[(108,⟨57,2⟩)]⟩) (fun i=>c.ts.length - i) (fun i=>True) (i0:=0) ?_ trivial ?_
 · exact wL
 intro i _ K hK;cases hx:c.ts[i]? with
 |none=>
  have hlt:=fa (l:=c.ts.map Tab.c) (bf hx);rw[bc hx];clear hK;refine wz ?_;all_goals(apply L.ends;rfl;rfl;exact Sub.agg (.cons (Sub.row _ _) fS);exact wL)
 |some t=>
  have hlt:=eZ (l:=c.ts.map Tab.c) (cq (f:=Tab.c) hx);have hlt':=eP hx;have htl:=hcl t (gE hx);have g1:(c.ts.map Tab.c)[((i:Nat):Int).toNat]?=some [S t.n,.sl (t.cols.map Col.c)]:=by rw[iN,gP,hx];rfl
  have n1:(c.ts.take (i+1)).map Tab.c=(c.ts.take i).map Tab.c++ [[S t.n,.sl (t.cols.map Col.c)]]:=by rw[dg hx,pA];rfl
  have l1:((c.ts.take i).map Tab.c).length=i:=by simp;omega
  have k1: ∀e∈(c.ts.take i).map Tab.c,e.length=2:=fun e he=>by obtain⟨y,_,rfl⟩:=mM he;rfl
  have kc:=Cc (t.cols.map Col.c) (fun e he=>by obtain⟨y,_,rfl⟩:=mM he;rfl) (by rw[lM];omega);generalize (c.ts.take i).map Tab.c=es at*
  clear hcl;(repeat' first|intro hb hp|(refine LW.is ?_;first|apply bC;rfl;rfl;rfl;rfl;exact k1;(first|exact len_chunks U|exact bz U bK);(simp[maxLen,ah,l1];omega);(simp[ah,l1];omega);rfl;rfl)|refine am ?_|refine ak ?_ ?_|fail)
  refine L.onlyS [22,21,20,2,3] [1010,2,3] U ?_;refine wN 3 34 108 U sP U U U (.cons .row (.cons .same .nil)) ?_;refine hK _ (i+1) trivial C (Wk.mk' kK F5 (wB (wB (.cons U U (Subs.cons (Sub.of_eq (congrArg (AV.row 108) n1.symm)) fS) .nil))) (.cons U .nil))
end Go.Proofs.Y
namespace Go.Proofs.Y
open Go.Abs Go.Proofs.Tryz
attribute [local irreducible] L Code.wp bodyPost Exit.then Exit.inBlock
variable [Errs]
def cat_wide{g:Eng}(h:EngOk g):g.cat.ts.length≤1000∧g.cat.is.length≤1000∧ ∀t∈g.cat.ts,t.cols.length≤1000:=by
 obtain⟨_,D,hd⟩:=h;have h1:=hd.db.cat.tl;have h2:=hd.db.cat.il;exact⟨by omega,by omega,fun t ht=>by have:=hd.db.cat.wide ht;omega⟩
def catalog_all(g:Eng)(h:EngOk g):CallG cA prog 23 [.ptr 1010 0] [(1010,g.b)] [(1010,g.b)] [] (.agg (g.cat.c.map .iv)):=by
 obtain⟨h1,h2,h3⟩:=cat_wide h;exact catalog_any g.cat g.ps g.n h1 h2 h3
def quiet_any{gs:au}(x:Str)(r:Rep):CallG gs prog 16 ([.ptr 1010 0,.agg [aS x],r.av] ++ []) [] [] [] (aB true):=by
 refine iG func16 ntmps16 (fun w0 E0 hG=> ?_);refine wz ?_;all_goals exact L.ends U U sE wK
def playGo(g:Eng)(l:List Str):Eng:=l.foldl (fun g x=>(fy g x).1) g
def playM(l:List Str):Eng:=playGo eng0 (l.take 40)
def playGo_ok: ∀(l:List Str) {g:Eng},EngOk g→EngOk (playGo g l)
 | [],_,h=>h
 |x::l,g,h=>playGo_ok l (iF h x)
def play_ok(l:List Str):EngOk (playM l):=playGo_ok _ pG
def play_any(l:List Str)(hl:l.length≤140737488355328):
 CallG cA prog 15 [.iv (.sl (l.map Str.c)),.fn 16 []] [] [(1010,(playM l).b)] [] (.tup [.ptr 1010 0,aB true]):=by
 have ka:=yJ;have kn:=zw (gs:=cA);generalize hZ:playM l=Z;refine iG func15 ntmps15 (fun w0 E0 hG=> ?_);(repeat' first|intro hb hp|refine ac [1010] rfl hG kn .nil .nil rfl rfl rfl rfl ?_|refine am ?_|refine ak ?_ ?_|fail)
 refine ae (ι:=Nat×Eng) (fun i=>⟨[(7,aI (i.1:Int)),(0,.iv (.sl (l.map Str.c))),(1,.fn 16 []),(6,.ptr 1010 0)],[(1010,i.2.b)],[]⟩) (fun i=>l.length - i.1) (fun i=>EngOk i.2∧i.1≤40∧playGo i.2 ((l.take 40).drop i.1)=Z) (i0:=(0,eng0)) ?_ ⟨pG,by decide,hZ⟩ ?_
 · exact wL
 rintro ⟨i,g⟩ ⟨hg,hi,hJ⟩ K hK;dsimp only at hg hi hJ hK;by_cases h40:i<40
 case neg=>
  have q2:decide ((i:Int)<40)=false:=decide_eq_false C;rw[dL (by rw[lT];omega)] at hJ;have hJ:g=Z:=hJ;subst hJ;clear hK;by_cases hil:i<l.length
  · have q1:decide ((i:Int)<((l.map Str.c).length:Int))=true:=decide_eq_true (by rw[lM];omega);refine wz ?_;all_goals exact L.ends U U fR wK
  · have q1:decide ((i:Int)<((l.map Str.c).length:Int))=false:=decide_eq_false (by rw[lM];omega);refine wz ?_;all_goals exact L.ends U U fR wK
 have q2:decide ((i:Int)<40)=true:=decide_eq_true C;cases hx:l[i]? with
 |none=>
  have q1:=fa (l:=l.map Str.c) (bf hx);rw[dL (by rw[lT];have:=gO hx;omega)] at hJ;have hJ:g=Z:=hJ;subst hJ;clear hK;refine wz ?_;all_goals exact L.ends U U fR wK
 |some x=>
  have q1:=eZ (l:=l.map Str.c) (cq (f:=Str.c) hx);have hlt':=eP hx;have g1:(l.map Str.c)[((i:Nat):Int).toNat]?=some [S x]:=by rw[iN,gP,hx];rfl
  have hx40:(l.take 40)[i]?=some x:=by rw[List.getElem?_take,if_pos h40];exact hx
  have hdr:(l.take 40).drop i=x::(l.take 40).drop (i+1):=eS hx40;rw[hdr] at hJ;have kd:=nE g hg x;have hg':=iF hg x;have kq:=quiet_any (gs:=cA) x (fy g x).2;(repeat' first|intro hb hp|refine ac [] rfl hG kd fS B1 rfl rfl rfl rfl ?_|refine DR.is (eH (f:=16) U hG U kq U .nil U U U ?_)|refine am ?_|refine ak ?_ ?_|fail)
  exact hK _ (i+1,(fy g x).1) ⟨hg',by omega,hJ⟩ oD wL
end Go.Proofs.Y
namespace Go.Proofs.Y
open Go.Abs Go.Proofs.Tryz
attribute [local irreducible] L Code.wp bodyPost Exit.then Exit.inBlock
def CY{c:Cat}{ps:List Pg}{D:Str→List (List Val)}(h:EI c ps D){t:Tab}(ht:t∈c.ts):
 (ci ps t (ei t.n)).length≤30∧(ci ps t (ei t.n)).Pairwise (fun r r'=>cD (r.getD 0 af) (r'.getD 0 af)= -1)∧ ∀r∈ci ps t (ei t.n),jM t r=true:=by
 have h1:=gR h.db ht;have h2:=(jc h.db ht (dn t.n) (ei t.n).hi (fun _=>true) (fun a h1 h2=>⟨h1,h2⟩) (fun r hr=>⟨fun _=>Ek t.n (de [r.getD 0 af]),fun _=>rfl⟩)).2;refine⟨by rw[h1.length_eq];exact h.few t ht,h2,fun r hr=>h.fits t ht r (h1.mem_iff.1 hr)⟩
def KJ{t:Tab}{r:List Val}(h:jM t r=true){k:Nat}{c:Col}(hc:t.cols[k]?=some c):
 ∃v,r[k]?=some v∧aw v=true∧(v.k=c.t∨(v.k≠c.t∧c.m=false∧v.k=0)):=by
 simp only[jM,aE,beq_iff_eq] at h;obtain⟨h1,h2⟩:=h;have hk:=(gS hc).1;have hv:r[k]?=some (r.getD k af):=by rw[List.getD_eq_getElem?_getD,gG C];rfl
 have h3:=zip_all.1 h2 k c hc;refine⟨_,hv,?_⟩;generalize r.getD k af=v at*
 simp only[DG,Bool.not_eq_true',Bool.or_eq_false_iff,Bool.not_eq_false',Bool.and_eq_false_iff,bne_eq_false_iff_eq] at h3;refine⟨h3.1,?_⟩;by_cases e:v.k=c.t
 · exact .inl e
 · rcases h3.2 with h4|h4
   · exact absurd h4 e
   · exact .inr ⟨e,h4.1,h4.2⟩
def xQ{α:Type}{R:α→α→Prop}: ∀{l:List α} {j:Nat} {x y:α},l.Pairwise R→l[j]?=some x→l[j+1]?=some y→R x y
 | [],j,x,y,_,hx,_=>by simp at hx
 |a::l,0,x,y,h,hx,hy=>by
  simp at hx hy;subst hx;exact(List.pairwise_cons.1 h).1 y (gE hy)
 |a::l,j+1,x,y,h,hx,hy=>xQ (List.pairwise_cons.1 h).2 (by simpa using hx) (by simpa using hy)
variable [Errs]
def Aw(l:List Str)(hl:l.length≤140737488355328):CallG cA prog 5 [.iv (.sl (l.map Str.c))] [] [] [] (aB true):=by
 have hg:=play_ok l;have k1:=play_any l hl;generalize playM l=g at*
 have kc:=catalog_all g hg;have kt:=qI g hg;obtain⟨c1,c2,c3⟩:=cat_wide hg;obtain⟨p1,p2,p3⟩:=vg hg;obtain⟨_,D,hd⟩:=hg;have kg:=CA (tw g.cat hd.db.cat.ok);rw[(sv g.cat).2 hd.db.cat] at kg;have kG:=iC g.ps C;rw[hd.db.good] at kG;obtain⟨c,ps,n⟩:=g;dsimp only at*
 refine iG func5 ntmps5 (fun w0 E0 hG=> ?_);(repeat' first|intro hb hp|refine ac [1010] rfl hG k1 fS .nil rfl rfl rfl rfl ?_|refine ac [] rfl hG kc fS B1 rfl rfl rfl rfl ?_|refine ac [] rfl hG kt fS B1 rfl rfl rfl rfl ?_|refine am ?_|refine ak ?_ ?_|fail)
 clear k1 kc kt kg kG;refine ae (ι:=Nat) (fun i=>⟨[(36,aI (i:Int)),(35,aI ((c.ts.map Tab.c).length:Int)),(34,.iv (.sl (c.ts.map Tab.c))),(6,.ptr 6 0)],[(6,⟨51,.l [.iv (.sl (ps.map Pg.c))]⟩)],[]⟩) (fun i=>c.ts.length - i) (fun _=>True) (i0:=0) ?_ trivial ?_
 · exact wL
 intro i _ K hK;cases hx:c.ts[i]? with
 |none=>
  have hlt:=fa (l:=c.ts.map Tab.c) (bf hx);clear hK;refine wz ?_;all_goals exact L.ends U U sE wK
 |some t=>
  have hlt:=eZ (l:=c.ts.map Tab.c) (cq (f:=Tab.c) hx);have hlt':=eP hx;have ht:=gE hx;have g1:(c.ts.map Tab.c)[((i:Nat):Int).toNat]?=some t.c:=by rw[iN,gP,hx];rfl
  have hz:=hd.db.cat.szc;have htn:t.n.length≤140737488355328:=by have:=fA (hd.db.cat.tname ht);omega
  have ka:=oY t.n htn;have kr:=pk ps t (ei t.n) C hd.db.small htn (by simp[ei]);obtain⟨r1,r2,r3⟩:=CY hd ht;have hcl:=c3 t ht;generalize ci ps t (ei t.n)=R at*
  have hRl:((R.map ai).length:Int)=(R.length:Int):=by rw[lM]
  have q30:decide ((30:Int)<((R.map ai).length:Int))=false:=decide_eq_false C;refine wz ?_;clear ka kr hlt g1 q30;refine ae (ι:=Nat) (fun j=>⟨[(51,aI (j:Int)),(50,aI ((R.map ai).length:Int)),(49,.iv (.sl (R.map ai))),(9,.iv (.sl (R.map ai))),(8,.ptr 8 0),(36,aI (i:Int)),(35,aI ((c.ts.map Tab.c).length:Int)),(34,.iv (.sl (c.ts.map Tab.c))),(6,.ptr 6 0)],[(8,⟨57,.l (t.c.map .iv)⟩),(6,⟨51,.l [.iv (.sl (ps.map Pg.c))]⟩)],[]⟩) (fun j=>R.length - j) (fun _=>True) (i0:=0) ?_ trivial ?_
  · exact wL
  intro j _ K2 hK2;cases hy:R[j]? with
  |none=>
   have hlt:=fa (l:=R.map ai) (bf hy);clear hK2;refine wz ?_;exact hK _ (i+1) trivial C wK
  |some x=>
   have hlt:=eZ (l:=R.map ai) (cq (f:=ai) hy);have hlt':=eP hy;have hfx:=r3 x (gE hy);have g1:(R.map ai)[((j:Nat):Int).toNat]?=some (ai x):=by rw[iN,gP,hy];rfl
   clear hK;apply L.tail (ι:=Unit) (fun _=>⟨[(75,aI 0),(74,aI ((t.cols.map Col.c).length:Int)),(73,.iv (.sl (t.cols.map Col.c))),(11,.iv (.sl (x.map Val.c))),(51,aI (j:Int)),(50,aI ((R.map ai).length:Int)),(49,.iv (.sl (R.map ai))),(9,.iv (.sl (R.map ai))),(8,.ptr 8 0),(36,aI (i:Int)),(35,aI ((c.ts.map Tab.c).length:Int)),(34,.iv (.sl (c.ts.map Tab.c))),(6,.ptr 6 0)],[(8,⟨57,.l (t.c.map .iv)⟩),(6,⟨51,.l [.iv (.sl (ps.map Pg.c))]⟩)],[]⟩) (fun _=>True)
   · intro tl;cases j with
     |zero=>
      have q0:decide ((0:Int)<((0:Nat):Int))=false:=rfl;refine wz ?_;exact tl () _ trivial wL
     |succ j=>
      obtain⟨y,hy'⟩: ∃y,R[j]?=some y:=⟨_,gG C⟩
      have q0:decide ((0:Int)<((j+1:Nat):Int))=true:=decide_eq_true C;have g2:(R.map ai)[(((j+1:Nat):Int) - 1).toNat]?=some (ai y):=by
       rw[show(((j+1:Nat):Int) - 1).toNat=j by omega,gP,hy'];rfl
      have hne: ∀z∈R,(z.map Val.c)[(0:Int).toNat]?=some (z.getD 0 af).c:=fun z hz'=>by
       have hw:=(hd.db.cat.wide ht).1;have hf:=r3 z hz';simp only[jM,aE,beq_iff_eq] at hf;cases z with
       |nil=>simp at hf;omega
       |cons a z=>rfl
      have g3:=hne x (gE hy);have g4:=hne y (gE hy');have kk:=nF (y.getD 0 af) (x.getD 0 af);rw[xQ r2 hy' hy] at kk;have q1:decide ((0:Int)≤ -1)=false:=rfl;refine wz ?_;exact tl () _ trivial wL
   intro _ _;refine ae (ι:=Nat) (fun k=>⟨[(75,aI (k:Int)),(74,aI ((t.cols.map Col.c).length:Int)),(73,.iv (.sl (t.cols.map Col.c))),(11,.iv (.sl (x.map Val.c))),(51,aI (j:Int)),(50,aI ((R.map ai).length:Int)),(49,.iv (.sl (R.map ai))),(9,.iv (.sl (R.map ai))),(8,.ptr 8 0),(36,aI (i:Int)),(35,aI ((c.ts.map Tab.c).length:Int)),(34,.iv (.sl (c.ts.map Tab.c))),(6,.ptr 6 0)],[(8,⟨57,.l (t.c.map .iv)⟩),(6,⟨51,.l [.iv (.sl (ps.map Pg.c))]⟩)],[]⟩) (fun k=>t.cols.length - k) (fun _=>True) (i0:=0) ?_ trivial ?_
   · exact wL
   intro k _ K3 hK3;cases hc:t.cols[k]? with
   |none=>
    have hlt3:=fa (l:=t.cols.map Col.c) (bf hc);clear hK3;refine wz ?_;exact hK2 _ (j+1) trivial C wL
   |some cl=>
    have hlt3:=eZ (l:=t.cols.map Col.c) (cq (f:=Col.c) hc);have hlt3':=eP hc;obtain⟨v,hv,hgv,hkv⟩:=KJ hfx hc;have g3:(t.cols.map Col.c)[((k:Nat):Int).toNat]?=some cl.c:=by rw[iN,gP,hc];rfl
    have g4:(x.map Val.c)[((k:Nat):Int).toNat]?=some v.c:=by rw[iN,gP,hv];rfl
    have kv:=aX v;rw[hgv] at kv;clear hK2;rcases hkv with hkv|⟨hkv,hm,h0⟩
    · have q1:(v.k !=cl.t)=false:=by simpa using hkv
      refine wz ?_;exact hK3 _ (k+1) trivial C wL
    · have q1:(v.k !=cl.t)=true:=by simpa using hkv
      have q2:(v.k !=0)=false:=by rw[h0];rfl
      refine wz ?_;exact hK3 _ (k+1) trivial C wL
end Go.Proofs.Y
