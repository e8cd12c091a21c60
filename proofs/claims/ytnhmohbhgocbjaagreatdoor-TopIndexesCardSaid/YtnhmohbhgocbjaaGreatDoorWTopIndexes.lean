/- Lemmas towards the law. Conditions: each one says its own. -/
import Derived.Test.YtnhmohbhgocbjaaGreatDoorZT19
set_option linter.all false
set_option maxHeartbeats 64000000
set_option maxRecDepth 100000
namespace Go.Proofs.Y
open Go Go.Abs
instance:CallTy Tryz.prog 41:=⟨kR⟩
end Go.Proofs.Y
namespace Go.Proofs.Y
open Go.Abs Go.Proofs.Tryz
attribute [local irreducible] L Code.wp bodyPost Exit.then Exit.inBlock
def size_any(ps:List Pg)(hl:ps.length≤140737488355328)(hs:Ez ps≤140737488355328):CallA prog 41 [.agg [.iv (.sl (ps.map Pg.c))]] [] [] [] (aI (Ez ps:Int)):=by
 refine iA func41 ntmps41 (fun w0 E0=> ?_);refine wz ?_;refine ae (ι:=Nat×Nat) (fun i=>⟨[(9,aI (i.1:Int)),(8,aI ((ps.map Pg.c).length:Int)),(7,.iv (.sl (ps.map Pg.c))),(3,aI (i.2:Int))],[],[]⟩) (fun i=>ps.length - i.1) (fun i=>i.2+Ez (ps.drop i.1)=Ez ps) (i0:=(0,0)) ?_ sP ?_
 · exact df
 rintro ⟨i,n⟩ hi K hK;dsimp only at hi⊢;cases hv:ps[i]? with
 |none=>
  have hlt:=fa (l:=ps.map Pg.c) (bf hv);rw[oN hv] at hi;refine wz ?_;all_goals refine bn ?_
  rw[←hi];rfl
 |some p=>
  have hlt:=eZ (l:=ps.map Pg.c) (cq hv);have hlt':=eP hv;rw[eS hv] at hi;obtain⟨ks,vs⟩:=p;simp only[Ez] at hi;have hb:(n:Int)+((ks.map Str.c).length:Int)≤9223372036854775807:=by simp;omega
  have hb0: -9223372036854775808≤(n:Int)+((ks.map Str.c).length:Int):=C;(repeat' first|intro hb hp|refine LW.is (ag U (iV U U hb0 hb) ?_)|refine am ?_|refine ak ?_ ?_|fail)
  refine hK _ (i+1,n+ks.length) oD oD (Wk.mk' kK (wF (wF (wF (.cons U (Sub.of_eq (congrArg (fun z=>aI z) ?_)) .nil)))) .nil .nil);simp
end Go.Proofs.Y
namespace Go.Proofs.Y
open Go.Abs
def rowK_inj{t:Tab}{r r':List Val}(h1:r.all aw=true)(h2:r'.all aw=true)(h:jF t r=jF t r'):r.getD 0 af=r'.getD 0 af:=
 Bq (bD h1 0) (bD h2 0) (List.append_cancel_left h)
end Go.Proofs.Y
namespace Go.Proofs.Y
open Go.Abs Go.Proofs.Tryz
attribute [local irreducible] L Code.wp bodyPost Exit.then Exit.inBlock
def copyIdx_any(es:List (List IV))(hk: ∀e∈es,e.length=3)(hl:es.length≤1000000):
 CallA prog 49 [.iv (.sl es)] [] [] [] (.iv (.sl es)):=by
 by_cases hne:es= []
 · subst hne;refine iA func49 ntmps49 (fun w0 E0=> ?_);(repeat' first|intro hb hp|apply jW;rfl;rfl;rfl;rintro (_|_)|(refine LW.is ?_;first|apply dA;rfl;rfl;rfl;rfl;rfl|apply ag;rfl;apply qF;rfl;exact Sub.bslE _ _;rfl)|refine am ?_|refine ak ?_ ?_|fail)
   all_goals(apply L.ends;rfl;rfl;(first|exact Sub.nils|exact Sub.emp);exact wL)
 · have hm:es.length≤maxLen:=by rw[fC];omega
   have hb:es.length*48≤140737488355328:=C;refine iA func49 ntmps49 (fun w0 E0=> ?_);(repeat' first|intro hb hp|(refine LW.is ?_;first|apply ag;rfl;apply ju;rfl;rfl;exact hne|apply dA;rfl;rfl;rfl;rfl;rfl|apply jv 1000;rfl;rfl;rfl;exact hk;exact hne;exact hm;exact hb;rfl)|refine am ?_|refine ak ?_ ?_|fail)
   all_goals(refine L.pubS 1000 2 (es:=es) (k:=3) U U hk dD hne U U .here ?_)
   all_goals(apply L.ends;rfl;rfl;exact fR;exact wL)
def catalog_any{gs:au}(c:Cat)(ps:List Pg)(n:Int)(hts:c.ts.length≤1000)(his:c.is.length≤1000)(hcl: ∀t∈c.ts,t.cols.length≤1000):
 CallG gs prog 23 [.ptr 1010 0] [(1010,bQ c ps n)] [(1010,bQ c ps n)] [] (.agg (c.c.map .iv)):=by
 have kx:=copyIdx_any (c.is.map Idx.c) (fun e he=>by obtain⟨y,_,rfl⟩:=mM he;rfl) (by rw[lM];omega);refine iG func23 ntmps23 (fun w0 E0 hG=> ?_);refine wz ?_;refine L.adoptB 3 108 57 2 U sP U U (.cons .here (.cons .same .nil)) ?_;refine ae (ι:=Nat) (fun i=>⟨[(22,aI (i:Int)),(21,aI ((c.ts.map Tab.c).length:Int)),(20,.iv (.sl (c.ts.map Tab.c))),(2,.ptr 2 0),(3,.ptr 3 0)],
  [(1010,bQ c ps n),(2,⟨47,.l [.nils,.nils]⟩),(3,⟨47,.l [.row 108 ((c.ts.take i).map Tab.c),.iv (.sl (c.is.map Idx.c))]⟩)],[(108,⟨57,2⟩)]⟩) (fun i=>c.ts.length - i) (fun i=>True) (i0:=0) ?_ trivial ?_
 · exact wL
 intro i _ K hK;cases hx:c.ts[i]? with
 |none=>
  have hlt:=fa (l:=c.ts.map Tab.c) (bf hx);rw[bc hx];clear hK;refine wz ?_;all_goals(apply L.ends;rfl;rfl;exact Sub.agg (.cons (Sub.row _ _) fS);exact wL)
 |some t=>
  have hlt:=eZ (l:=c.ts.map Tab.c) (cq (f:=Tab.c) hx);have hlt':=eP hx;have htl:=hcl t (gE hx);have g1:(c.ts.map Tab.c)[((i:Nat):Int).toNat]?=some [S t.n,.sl (t.cols.map Col.c)]:=by rw[iN,gP,hx];rfl
  have n1:(c.ts.take (i+1)).map Tab.c=(c.ts.take i).map Tab.c++ [[S t.n,.sl (t.cols.map Col.c)]]:=by rw[dg hx,pA];rfl
  have l1:((c.ts.take i).map Tab.c).length=i:=by simp;omega
  have k1: ∀e∈(c.ts.take i).map Tab.c,e.length=2:=fun e he=>by obtain⟨y,_,rfl⟩:=mM he;rfl
  have kc:=Cc (t.cols.map Col.c) (fun e he=>by obtain⟨y,_,rfl⟩:=mM he;rfl) (by rw[lM];omega);generalize (c.ts.take i).map Tab.c=es at*
  clear hcl;(repeat' first|intro hb hp|(refine LW.is ?_;first|apply bC;rfl;rfl;rfl;rfl;exact k1;(first|exact len_chunks U|exact bz U bK);(simp[maxLen,ah,l1];omega);(simp[ah,l1];omega);rfl;rfl)|refine am ?_|refine ak ?_ ?_|fail)
  refine L.onlyS [22,21,20,2,3] [1010,2,3] U ?_;refine wN 3 34 108 U sP U U U (.cons .row (.cons .same .nil)) ?_;refine hK _ (i+1) trivial C (Wk.mk' kK F5 (wB (wB (.cons U U (Subs.cons (Sub.of_eq (congrArg (AV.row 108) n1.symm)) fS) .nil))) (.cons U .nil))
end Go.Proofs.Y
namespace Go.Proofs.Y
open Go.Abs Go.Proofs.Tryz
attribute [local irreducible] L Code.wp bodyPost Exit.then Exit.inBlock
variable [Errs]
def cat_wide{g:Eng}(h:EngOk g):g.cat.ts.length≤1000∧g.cat.is.length≤1000∧ ∀t∈g.cat.ts,t.cols.length≤1000:=by
 obtain⟨_,D,hd⟩:=h;have h1:=hd.db.cat.tl;have h2:=hd.db.cat.il;exact⟨by omega,by omega,fun t ht=>by have:=hd.db.cat.wide ht;omega⟩
def catalog_all(g:Eng)(h:EngOk g):CallG cA prog 23 [.ptr 1010 0] [(1010,g.b)] [(1010,g.b)] [] (.agg (g.cat.c.map .iv)):=by
 obtain⟨h1,h2,h3⟩:=cat_wide h;exact catalog_any g.cat g.ps g.n h1 h2 h3
def quiet_any{gs:au}(x:Str)(r:Rep):CallG gs prog 16 ([.ptr 1010 0,.agg [aS x],r.av] ++ []) [] [] [] (aB true):=by
 refine iG func16 ntmps16 (fun w0 E0 hG=> ?_);refine wz ?_;all_goals exact L.ends U U sE wK
def playGo(g:Eng)(l:List Str):Eng:=l.foldl (fun g x=>(fy g x).1) g
def playM(l:List Str):Eng:=playGo eng0 (l.take 40)
def playGo_ok: ∀(l:List Str) {g:Eng},EngOk g→EngOk (playGo g l)
 | [],_,h=>h
 |x::l,g,h=>playGo_ok l (iF h x)
def play_ok(l:List Str):EngOk (playM l):=playGo_ok _ pG
def play_any(l:List Str)(hl:l.length≤140737488355328):
 CallG cA prog 15 [.iv (.sl (l.map Str.c)),.fn 16 []] [] [(1010,(playM l).b)] [] (.tup [.ptr 1010 0,aB true]):=by
 have ka:=yJ;have kn:=zw (gs:=cA);generalize hZ:playM l=Z;refine iG func15 ntmps15 (fun w0 E0 hG=> ?_);(repeat' first|intro hb hp|refine ac [1010] rfl hG kn .nil .nil rfl rfl rfl rfl ?_|refine am ?_|refine ak ?_ ?_|fail)
 refine ae (ι:=Nat×Eng) (fun i=>⟨[(7,aI (i.1:Int)),(0,.iv (.sl (l.map Str.c))),(1,.fn 16 []),(6,.ptr 1010 0)],[(1010,i.2.b)],[]⟩) (fun i=>l.length - i.1) (fun i=>EngOk i.2∧i.1≤40∧playGo i.2 ((l.take 40).drop i.1)=Z) (i0:=(0,eng0)) ?_ ⟨pG,by decide,hZ⟩ ?_
 · exact wL
 rintro ⟨i,g⟩ ⟨hg,hi,hJ⟩ K hK;dsimp only at hg hi hJ hK;by_cases h40:i<40
 case neg=>
  have q2:decide ((i:Int)<40)=false:=decide_eq_false C;rw[dL (by rw[lT];omega)] at hJ;have hJ:g=Z:=hJ;subst hJ;clear hK;by_cases hil:i<l.length
  · have q1:decide ((i:Int)<((l.map Str.c).length:Int))=true:=decide_eq_true (by rw[lM];omega);refine wz ?_;all_goals exact L.ends U U fR wK
  · have q1:decide ((i:Int)<((l.map Str.c).length:Int))=false:=decide_eq_false (by rw[lM];omega);refine wz ?_;all_goals exact L.ends U U fR wK
 have q2:decide ((i:Int)<40)=true:=decide_eq_true C;cases hx:l[i]? with
 |none=>
  have q1:=fa (l:=l.map Str.c) (bf hx);rw[dL (by rw[lT];have:=gO hx;omega)] at hJ;have hJ:g=Z:=hJ;subst hJ;clear hK;refine wz ?_;all_goals exact L.ends U U fR wK
 |some x=>
  have q1:=eZ (l:=l.map Str.c) (cq (f:=Str.c) hx);have hlt':=eP hx;have g1:(l.map Str.c)[((i:Nat):Int).toNat]?=some [S x]:=by rw[iN,gP,hx];rfl
  have hx40:(l.take 40)[i]?=some x:=by rw[List.getElem?_take,if_pos h40];exact hx
  have hdr:(l.take 40).drop i=x::(l.take 40).drop (i+1):=eS hx40;rw[hdr] at hJ;have kd:=nE g hg x;have hg':=iF hg x;have kq:=quiet_any (gs:=cA) x (fy g x).2;(repeat' first|intro hb hp|refine ac [] rfl hG kd fS B1 rfl rfl rfl rfl ?_|refine DR.is (eH (f:=16) U hG U kq U .nil U U U ?_)|refine am ?_|refine ak ?_ ?_|fail)
  exact hK _ (i+1,(fy g x).1) ⟨hg',by omega,hJ⟩ oD wL
end Go.Proofs.Y
namespace Go.Proofs.Y
open Go.Abs Go.Proofs.Tryz
attribute [local irreducible] L Code.wp bodyPost Exit.then Exit.inBlock
def entT(c:Cat)(D:Str→List (List Val))(t:Tab):List Pr:=(D t.n).flatMap (fun r=>(jF t r,de r)::(cG t r c.is).map (fun a=>(a,([]:Str))))
def flatMap_len{α β:Type}{f:α→List β}{k:Nat}: ∀{l:List α},(∀x∈l,(f x).length=k)→(l.flatMap f).length=l.length*k
 | [],_=>by simp
 |x::l,h=>by
  rw[List.flatMap_cons,gV,h x (List.mem_cons_self ..),flatMap_len (fun y hy=>h y (List.mem_cons_of_mem _ hy)),lC,Nat.add_mul];omega
def entT_len(c:Cat)(D:Str→List (List Val))(t:Tab):(entT c D t).length=(D t.n).length+(c.is.filter (wW t)).length*(D t.n).length:=by
 rw[entT,flatMap_len (k:=(c.is.filter (wW t)).length+1) (fun r _=>by rw[lC,lM,cG,lM]),Nat.mul_add,Nat.mul_one,Nat.mul_comm];omega
def pair_inj{α β:Type}{f:α→β}: ∀{l:List α},l.Pairwise (fun a b=>f a≠f b)→ ∀a∈l,∀b∈l,f a=f b→a=b
 |x::l,h,a,ha,b,hb,e=>by
  obtain⟨h1,h2⟩:=List.pairwise_cons.1 h;rcases List.mem_cons.1 ha with e1|ha'<;>rcases List.mem_cons.1 hb with e2|hb'
  · rw[e1,e2]
  · rw[e1] at e;exact absurd e (h1 b hb')
  · rw[e2] at e;exact absurd e.symm (h1 a ha')
  · exact pair_inj h2 a ha' b hb' e
section
variable {c:Cat}{ps:List Pg}{D:Str→List (List Val)}
def DB.key_inj(h:DB c ps D){t:Tab}(ht:t∈c.ts){r s:List Val}(hr:r∈D t.n)(hs:s∈D t.n)(e:r.getD 0 af=s.getD 0 af):r=s:=pair_inj (h.dis t ht) r hr s hs e
def row_ix{t:Tab}{r s:List Val}{u:Tab}{x:Idx}(h:jF t r=iz u s x):False:=by
 have:=congrArg List.head? h;simp[jF,ap,dn,iz,eE,aO] at this
def ix_eq(h:DB c ps D){t u:Tab}(ht:t∈c.ts)(hu:u∈c.ts){r s:List Val}(hr:r∈D t.n)(hs:s∈D u.n){x y:Idx}(hx:x∈c.is)(hy:y∈c.is)(hxt:wW t x=true)(hyu:wW u y=true)(e:iz t r x=iz u s y):t=u∧r=s∧x=y:=by
 have g1:=(h.fit t ht r hr).2;have g2:=(h.fit u hu s hs).2;rw[iz,iz,eE,eE,Br (bD g1 _) (bD g1 0),Br (bD g2 _) (bD g2 0)] at e;obtain⟨e1,e2⟩:=rr (h.cat.idx x hx).1 (h.cat.idx y hy).1 e;have exy:=h.cat.xinj hx hy e1;subst exy;simp only[wW,aE,beq_iff_eq] at hxt hyu;have etu:=h.cat.tinj ht hu (hxt.1.symm.trans hyu.1);subst etu;obtain⟨_,e3⟩:=qx (bD g1 _) (bD g2 _) e2;obtain⟨e4,_⟩:=qx (x:= []) (y:= []) (bD g1 0) (bD g2 0) (by simpa using e3);exact⟨rfl,h.key_inj ht hr hs e4,rfl⟩
def entR(c:Cat)(t:Tab)(r:List Val):List Pr:=(jF t r,de r)::(cG t r c.is).map (fun a=>(a,([]:Str)))
def mem_entR{t:Tab}{r:List Val}{z:Pr}(h:z∈entR c t r):z=(jF t r,de r)∨ ∃x∈c.is,wW t x=true∧z=(iz t r x,[]):=by
 rcases List.mem_cons.1 h with h|h
 · exact .inl h
 · obtain⟨a,ha,rfl⟩:=mM h;obtain⟨x,hx,rfl⟩:=mM ha;obtain⟨h1,h2⟩:=List.mem_filter.1 hx;exact .inr ⟨x,h1,h2,rfl⟩
def ent_inj(h:DB c ps D){t u:Tab}(ht:t∈c.ts)(hu:u∈c.ts){r s:List Val}(hr:r∈D t.n)(hs:s∈D u.n){z:Pr}(h1:z∈entR c t r)(h2:z∈entR c u s):t=u∧r=s:=by
 rcases mem_entR h1 with h1|⟨x,hx,hxt,h1⟩<;>rcases mem_entR h2 with h2|⟨y,hy,hyu,h2⟩
 · have e:=(Prod.mk.inj (h1.symm.trans h2)).1;rw[jF,jF,ap,ap] at e;obtain⟨e1,e2⟩:=xE (h.cat.tname ht) (h.cat.tname hu) e;have etu:=h.cat.tinj ht hu e1;subst etu;exact⟨rfl,h.key_inj ht hr hs (rowK_inj (t:=t) (h.fit t ht r hr).2 (h.fit t hu s hs).2 e)⟩
 · exact(row_ix (Prod.mk.inj (h1.symm.trans h2)).1).elim
 · exact(row_ix (Prod.mk.inj (h2.symm.trans h1)).1).elim
 · obtain⟨e1,e2,_⟩:=ix_eq h ht hu hr hs hx hy hxt hyu (Prod.mk.inj (h1.symm.trans h2)).1;exact⟨e1,e2⟩
def entR_nodup(h:DB c ps D){t:Tab}(ht:t∈c.ts){r:List Val}(hr:r∈D t.n):(entR c t r).Nodup:=by
 refine List.nodup_cons.2 ⟨fun hm=> ?_,?_⟩
 · obtain⟨a,ha,e⟩:=mM hm;obtain⟨x,hx,rfl⟩:=mM ha;exact row_ix (Prod.mk.inj e).1.symm
 · have hn:c.is.Pairwise (fun x y=>x.n≠y.n):=(List.pairwise_map.1 h.cat.xn).imp (fun{a b} hlt e=>by rw[e] at hlt;exact List.lt_irrefl _ hlt);have hf:(c.is.filter (wW t)).Pairwise (fun x y=>x.n≠y.n):=hn.sublist List.filter_sublist;rw[cG,List.map_map];refine List.pairwise_map.2 (hf.imp_of_mem (fun{x y} hx hy hne e=> ?_));obtain⟨hx1,hx2⟩:=List.mem_filter.1 hx;obtain⟨hy1,hy2⟩:=List.mem_filter.1 hy;exact hne (by rw[(ix_eq h ht ht hr hr hx1 hy1 hx2 hy2 (Prod.mk.inj e).1).2.2])
def ent_nodup(h:DB c ps D):(c.ts.flatMap (entT c D)).Nodup:=by
 refine List.pairwise_flatMap.2 ⟨fun t ht=> ?_,?_⟩
 · refine List.pairwise_flatMap.2 ⟨fun r hr=>entR_nodup h ht hr,?_⟩;refine(h.nodup ht).imp_of_mem (fun{r s} hr hs hne x hx y hy e=> ?_);subst e;exact hne (ent_inj h ht ht hr hs hx hy).2
 · have hn:c.ts.Pairwise (fun x y=>x.n≠y.n):=(List.pairwise_map.1 h.cat.tn).imp (fun{a b} hlt e=>by rw[e] at hlt;exact List.lt_irrefl _ hlt);refine hn.imp_of_mem (fun{t u} ht hu hne x hx y hy e=> ?_);subst e;obtain⟨r,hr,hx⟩:=List.mem_flatMap.1 hx;obtain⟨s,hs,hy⟩:=List.mem_flatMap.1 hy;exact hne (by rw[(ent_inj h ht hu hr hs hx hy).1])
def size_ent(h:DB c ps D):Ez ps=(c.ts.flatMap (entT c D)).length:=by
 rw[rV ((eQ ps).1 h.good).1];refine Nat.le_antisymm (Bj _ _ (qy (pf h.good)) (fun x hx=> ?_)) (Bj _ _ (ent_nodup h) (fun x hx=> ?_))
 · obtain⟨a,b⟩:=x;obtain⟨t,ht,r,hr,hx⟩:=(h.mem a b).1 hx;refine List.mem_flatMap.2 ⟨t,ht,List.mem_flatMap.2 ⟨r,hr,?_⟩⟩;rcases hx with⟨rfl,rfl⟩|⟨h1,rfl⟩
   · exact List.mem_cons_self ..
   · exact List.mem_cons_of_mem _ (List.mem_map.2 ⟨a,h1,rfl⟩)
 · obtain⟨t,ht,hx⟩:=List.mem_flatMap.1 hx;obtain⟨r,hr,hx⟩:=List.mem_flatMap.1 hx;obtain⟨a,b⟩:=x;refine(h.mem a b).2 ⟨t,ht,r,hr,?_⟩;rcases List.mem_cons.1 hx with hx|hx
   · obtain⟨rfl,rfl⟩:=Prod.mk.inj hx;exact .inl ⟨rfl,rfl⟩
   · obtain⟨a',ha,e⟩:=mM hx;obtain⟨rfl,rfl⟩:=Prod.mk.inj e;exact .inr ⟨ha,rfl⟩
def ix_there(h:DB c ps D){t:Tab}(ht:t∈c.ts){x:Idx}(hx:x∈c.is)(e:x.tb=t.n):wW t x=true∧0≤aU t x.co∧(aU t x.co).toNat<t.cols.length∧ ∀r∈D t.n,(getM ps (eE x.n (r.getD (aU t x.co).toNat af) (r.getD 0 af))).2=true:=by
 obtain⟨_,h1,h2⟩:=h.cat.idx x hx;obtain⟨i1,i2⟩:=bX h1;have et:=h.cat.tinj i1 ht (i2.trans e);rw[et] at h2;have on:wW t x=true:=by simp[wW,e,h2]
 refine⟨on,h2,It h2,fun r hr=> ?_⟩;refine(IF h.good).2 ⟨[],(h.mem _ _).2 ⟨t,ht,r,hr,.inr ⟨List.mem_map.2 ⟨x,List.mem_filter.2 ⟨hx,on⟩,rfl⟩,rfl⟩⟩⟩
def ix_off{t:Tab}{x:Idx}(e:x.tb≠t.n):wW t x=false:=by simp[wW,e]
end
variable [Errs]
def topIndexes_any(l:List Str)(hl:l.length≤140737488355328):CallG cA prog 14 [.iv (.sl (l.map Str.c))] [] [] [] (aB true):=by
 have hg:=play_ok l;have k1:=play_any l hl;generalize playM l=g at*
 have kc:=catalog_all g hg;have kt:=qI g hg;obtain⟨c1,c2,c3⟩:=cat_wide hg;obtain⟨p1,p2,p3⟩:=vg hg;obtain⟨_,D,hd⟩:=hg;have hsz:=size_ent hd.db;have hsf:=rV ((eQ g.ps).1 hd.db.good).1;have kz:=size_any g.ps C C;obtain⟨c,ps,n⟩:=g;dsimp only at*
 have hb3: ∀i,((c.ts.take i).flatMap (entT c D)).length≤4000:=fun i=>by
  refine Nat.le_trans ?_ (Nat.le_trans (Nat.le_of_eq (hsz.symm.trans hsf)) p3);conv=>rhs;rw[←List.take_append_drop i c.ts]
  rw[List.flatMap_append,gV];omega
 have hil:=hd.db.cat.il;refine iG func14 ntmps14 (fun w0 E0 hG=> ?_);(repeat' first|intro hb hp|refine ac [1010] rfl hG k1 fS .nil rfl rfl rfl rfl ?_|refine ac [] rfl hG kc fS B1 rfl rfl rfl rfl ?_|refine ac [] rfl hG kt fS B1 rfl rfl rfl rfl ?_|refine am ?_|refine ak ?_ ?_|fail)
 clear k1 kc kt;refine ae (ι:=Nat×Nat) (fun i=>⟨[(32,aI (i.1:Int)),(31,aI ((c.ts.map Tab.c).length:Int)),(30,.iv (.sl (c.ts.map Tab.c))),(7,aI (i.2:Int)),(5,.ptr 5 0),(6,.ptr 6 0)],[(5,⟨47,.l (c.c.map .iv)⟩),(6,⟨51,.l [.iv (.sl (ps.map Pg.c))]⟩)],[]⟩) (fun i=>c.ts.length - i.1) (fun i=>((c.ts.take i.1).flatMap (entT c D)).length=i.2) (i0:=(0,0)) ?_ U ?_
 · exact wL
 rintro ⟨i,a⟩ hI K hK;dsimp only at hI hK⊢;have ha:=hb3 i;rw[hI] at ha;cases hx:c.ts[i]? with
 |none=>
  have hlt:=fa (l:=c.ts.map Tab.c) (bf hx);rw[bc hx,←hsz] at hI;have q:((a:Int)==(Ez ps:Int))=true:=by rw[hI];simp
  clear hK;refine wz ?_;all_goals exact L.ends U U (Sub.of_eq (congrArg (fun b=>aB b) q)) wK
 |some t=>
  have hlt:=eZ (l:=c.ts.map Tab.c) (cq (f:=Tab.c) hx);have hlt':=eP hx;have ht:=gE hx;have g1:(c.ts.map Tab.c)[((i:Nat):Int).toNat]?=some t.c:=by rw[iN,gP,hx];rfl
  have htn:t.n.length≤140737488355328:=by have:=fA (hd.db.cat.tname ht);omega
  have ka:=oY t.n htn;have kr:=pk ps t (ei t.n) C hd.db.small htn (by simp[ei]);have hpm:=gR hd.db ht;have hcl:=c3 t ht;have h30:=hd.few t ht;have hst:((c.ts.take (i+1)).flatMap (entT c D)).length=a+((D t.n).length+(c.is.filter (wW t)).length*(D t.n).length):=by
   rw[dg hx,List.flatMap_append,gV,hI,List.flatMap_cons,List.flatMap_nil,List.append_nil,entT_len]
  have hrm: ∀r∈ci ps t (ei t.n),r∈D t.n:=fun r hr=>hpm.mem_iff.1 hr
  have hrl:=hpm.length_eq;generalize ci ps t (ei t.n)=R at*
  have hRl:((R.map ai).length:Int)=(R.length:Int):=by rw[lM]
  refine wz ?_;clear ka kr hlt g1;refine ae (ι:=Nat×Nat) (fun j=>⟨[(49,aI (j.1:Int)),(48,aI ((c.is.map Idx.c).length:Int)),(47,.iv (.sl (c.is.map Idx.c))),(9,.ptr 9 0),(10,.iv (.sl (R.map ai))),(32,aI (i:Int)),(31,aI ((c.ts.map Tab.c).length:Int)),(30,.iv (.sl (c.ts.map Tab.c))),(7,aI (j.2:Int)),(5,.ptr 5 0),(6,.ptr 6 0)],[(9,⟨57,.l (t.c.map .iv)⟩),(5,⟨47,.l (c.c.map .iv)⟩),(6,⟨51,.l [.iv (.sl (ps.map Pg.c))]⟩)],[]⟩) (fun j=>c.is.length - j.1) (fun j=>a+R.length+((c.is.take j.1).filter (wW t)).length*R.length=j.2) (i0:=(0,a+R.length)) ?_ sP ?_
  · exact Wk.mk' kK (wG (wG (wG (wF (wG (wF (wF (wF (.cons U (Sub.of_eq (congrArg (fun k:Int=>AV.iv (I k)) (by rw[hRl];exact(Int.natCast_add _ _).symm))) F2))))))))) B3 .nil
  rintro ⟨j,b⟩ hJ K2 hK2;dsimp only at hJ hK2⊢;have hfl:((c.is.take j).filter (wW t)).length≤4:=Nat.le_trans (List.length_filter_le ..) (by rw[lT];omega);have hbb:b≤4150:=by
   have:((c.is.take j).filter (wW t)).length*R.length≤4*30:=Nat.mul_le_mul hfl C;omega
  cases hy:c.is[j]? with
  |none=>
   have hlt:=fa (l:=c.is.map Idx.c) (bf hy);rw[bc hy] at hJ;clear hK2;refine wz ?_;exact hK _ (i+1,b) (by dsimp only;rw[hst,←hrl];omega) oD wK
  |some x=>
   have hlt:=eZ (l:=c.is.map Idx.c) (cq (f:=Idx.c) hy);have hlt2:=eP hy;have hxm:=gE hy;have g1:(c.is.map Idx.c)[((j:Nat):Int).toNat]?=some x.c:=by rw[iN,gP,hy];rfl
   have hstep:((c.is.take (j+1)).filter (wW t)).length=((c.is.take j).filter (wW t)).length+(if wW t x=true then 1 else 0):=by
    rw[dg hy,List.filter_append,gV];by_cases e:wW t x=true<;>simp[e]
   clear hK;by_cases hxt:x.tb=t.n
   case neg=>
    have q:(x.tb !=t.n)=true:=by simpa using hxt
    rw[ix_off hxt,if_neg dD] at hstep;refine wz ?_;exact hK2 _ (j+1,b) (by dsimp only;rw[hstep];exact hJ) oD wL
   have q:(x.tb !=t.n)=false:=by simpa using hxt
   obtain⟨on,hc0,hcl2,hget⟩:=ix_there hd.db ht hxm hxt;rw[if_pos on] at hstep;have kf:=eJ t x.co C;have hxn:x.n.length≤140737488355328:=by have:=fA (hd.db.cat.idx x hxm).1;omega
   have hbs:((c.is.take (j+1)).filter (wW t)).length*R.length=((c.is.take j).filter (wW t)).length*R.length+R.length:=by rw[hstep,Nat.add_mul,Nat.one_mul]
   refine wz ?_;refine ae (ι:=Nat) (fun k=>⟨[(68,aI (k:Int)),(67,aI ((R.map ai).length:Int)),(66,.iv (.sl (R.map ai))),(12,.ptr 12 0),(13,aI (aU t x.co)),(49,aI (j:Int)),(48,aI ((c.is.map Idx.c).length:Int)),(47,.iv (.sl (c.is.map Idx.c))),(9,.ptr 9 0),(10,.iv (.sl (R.map ai))),(32,aI (i:Int)),(31,aI ((c.ts.map Tab.c).length:Int)),(30,.iv (.sl (c.ts.map Tab.c))),(7,aI ((b+R.length:Nat):Int)),(5,.ptr 5 0),(6,.ptr 6 0)],[(12,⟨67,.l (x.c.map .iv)⟩),(9,⟨57,.l (t.c.map .iv)⟩),(5,⟨47,.l (c.c.map .iv)⟩),(6,⟨51,.l [.iv (.sl (ps.map Pg.c))]⟩)],[]⟩) (fun k=>R.length - k) (fun _=>True) (i0:=0) ?_ trivial ?_
   · exact Wk.mk' kK (wG (wG (wG (wF (wG (wF (wF (wF (wF (wF (wF (wF (wF (.cons U (Sub.of_eq (congrArg (fun k:Int=>AV.iv (I k)) (by rw[hRl];exact(Int.natCast_add _ _).symm))) F2)))))))))))))) B4 .nil
   intro k _ K3 hK3;cases hz:R[k]? with
   |none=>
    have hlt3:=fa (l:=R.map ai) (bf hz);clear hK3;refine wz ?_;exact hK2 _ (j+1,b+R.length) (by dsimp only;rw[hbs];omega) oD wL
   |some r=>
    have hlt3:=eZ (l:=R.map ai) (cq (f:=ai) hz);have hlt4:=eP hz;have hrD:=hrm r (gE hz);have hfit:=(hd.db.fit t ht r hrD).1;have hwd:=(hd.db.cat.wide ht).1;have g2:(R.map ai)[((k:Nat):Int).toNat]?=some (ai r):=by rw[iN,gP,hz];rfl
    have g3:(r.map Val.c)[(aU t x.co).toNat]?=some (r.getD (aU t x.co).toNat af).c:=by
     rw[gP,List.getD_eq_getElem?_getD,gG C];rfl
    have g4:(r.map Val.c)[(0:Int).toNat]?=some (r.getD 0 af).c:=by
     cases r with
     |nil=>simp at hfit;omega
     |cons a r=>rfl
    have ki:=rh x.n (r.getD (aU t x.co).toNat af) (r.getD 0 af) hxn;have kg:=zL ps (eE x.n (r.getD (aU t x.co).toNat af) (r.getD 0 af)) C;rw[hget r hrD] at kg;have hcr:(aU t x.co)<((r.map Val.c).length:Int):=by rw[lM];omega
    clear hK2 kf;refine wz ?_;exact hK3 _ (k+1) trivial C wL
end Go.Proofs.Y
