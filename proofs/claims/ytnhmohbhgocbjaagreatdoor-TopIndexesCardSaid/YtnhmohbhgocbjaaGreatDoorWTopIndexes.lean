/- Lemmas towards the law. Conditions: each one says its own. -/
import Derived.Test.YtnhmohbhgocbjaaGreatDoorZU16
set_option linter.all false
set_option maxHeartbeats 64000000
set_option maxRecDepth 100000
namespace Go.Proofs.Y
open Go Go.Abs
instance:A0 Tryz.prog 41:=⟨kR⟩
end Go.Proofs.Y
namespace Go.Proofs.Y
open Go.Abs Go.Proofs.Tryz
attribute [local irreducible] L Code.wp bodyPost Exit.then Exit.inBlock
def size_any(ps:List Pg)(hl:ps.length<=140737488355328)(hs:DW ps<=140737488355328):CallA prog 41 [.agg [.iv (.sl (ps.map Pg.c))]] [] [] [] (aI (DW ps:Int)):=by
 refine iA func41 ntmps41 (fun w0 E0=> ?_);refine wz ?_;refine ae (ι:=Nat×Nat) (fun i=>⟨[(9,aI (i.1:Int)),(8,aI ((ps.map Pg.c).length:Int)),(7,.iv (.sl (ps.map Pg.c))),(3,aI (i.2:Int))],[],[]⟩) (fun i=>ps.length - i.1) (fun i=>i.2+DW (ps.drop i.1)=DW ps) (i0:=(0,0)) ?_ sP ?_
 · exact df
 rintro ⟨i,n⟩ hi K hK;dsimp only at hi|-;cases T:ps[i]? with
 |none=>
  have ad:=gc (l:=ps.map Pg.c) (bz T);rw[oF T] at hi;refine wz ?_;all_goals refine aU ?_
  rw[<-hi];rfl
 |some p=>
  have ad:=fZ (l:=ps.map Pg.c) (cM T);have aR:=fM T;rw[fu T] at hi;obtain⟨ks,vs⟩:=p;simp only[DW] at hi;have hb:(n:Int)+((ks.map Str.c).length:Int)<=9223372036854775807:=by simp;omega
  have ar: -9223372036854775808<=(n:Int)+((ks.map Str.c).length:Int):=C;(repeat' first|intro hb hp|refine LW.is (ag U (iU U U ar hb) ?_)|refine am ?_|refine al ?_ ?_|fail)
  refine hK _ (i+1,n+ks.length) oD oD (Wk.mk' kK (wF (wF (wF (.cons U (Sub.of_eq (congrArg (fun z=>aI z) ?_)) .nil)))) .nil .nil);simp
end Go.Proofs.Y
namespace Go.Proofs.Y
open Go.Abs
def rowK_inj{t:A4}{r r':List A3}(h1:r.all au=true)(h2:r'.all au=true)(h:jD t r=jD t r'):r.getD 0 af=r'.getD 0 af:=
 AS (bC h1 0) (bC h2 0) (List.append_cancel_left h)
end Go.Proofs.Y
namespace Go.Proofs.Y
open Go.Abs Go.Proofs.Tryz
attribute [local irreducible] L Code.wp bodyPost Exit.then Exit.inBlock
def copyIdx_any(es:List (List IV))(hk: ∀e∈es,e.length=3)(hl:es.length<=1000000):
 CallA prog 49 [.iv (.sl es)] [] [] [] (.iv (.sl es)):=by
 by_cases T:es= []
 · subst T;refine iA func49 ntmps49 (fun w0 E0=> ?_);(repeat' first|intro hb hp|apply mu;rfl;rfl;rfl;rintro (_|_)|(refine LW.is ?_;first|apply eA;rfl;rfl;rfl;rfl;rfl|apply ag;rfl;apply tH;rfl;exact Sub.bslE _ _;rfl)|refine am ?_|refine al ?_ ?_|fail)
   all_goals(apply L.ends;rfl;rfl;(first|exact Sub.nils|exact Sub.emp);exact wL)
 · have hm:es.length<=maxLen:=by rw[fJ];omega
   have hb:es.length*48<=140737488355328:=C;refine iA func49 ntmps49 (fun w0 E0=> ?_);(repeat' first|intro hb hp|(refine LW.is ?_;first|apply ag;rfl;apply jZ;rfl;rfl;exact T|apply eA;rfl;rfl;rfl;rfl;rfl|apply kC 1000;rfl;rfl;rfl;exact hk;exact T;exact hm;exact hb;rfl)|refine am ?_|refine al ?_ ?_|fail)
   all_goals(refine L.pubS 1000 2 (es:=es) (k:=3) U U hk dD T U U .here ?_)
   all_goals(apply L.ends;rfl;rfl;exact fR;exact wL)
def catalog_any{gs:aw}(c:B0)(ps:List Pg)(n:Int)(a0:c.ts.length<=1000)(a1:c.is.length<=1000)(ad: ∀t∈c.ts,t.cols.length<=1000):
 CallG gs prog 23 [.ptr 1010 0] [(1010,ca c ps n)] [(1010,ca c ps n)] [] (.agg (c.c.map .iv)):=by
 have kx:=copyIdx_any (c.is.map A7.c) (fun e he=>by obtain⟨y,_,rfl⟩:=mM he;rfl) (by rw[lM];omega);refine iG func23 ntmps23 (fun w0 E0 hG=> ?_);refine wz ?_;refine L.adoptB 3 108 57 2 U sP U U (.cons .here (.cons .same .nil)) ?_;refine ae (ι:=Nat) (fun i=>⟨[(22,aI (i:Int)),(21,aI ((c.ts.map A4.c).length:Int)),(20,.iv (.sl (c.ts.map A4.c))),(2,.ptr 2 0),(3,.ptr 3 0)],
  [(1010,ca c ps n),(2,⟨47,.l [.nils,.nils]⟩),(3,⟨47,.l [.row 108 ((c.ts.take i).map A4.c),.iv (.sl (c.is.map A7.c))]⟩)],[(108,⟨57,2⟩)]⟩) (fun i=>c.ts.length - i) (fun i=>True) (i0:=0) ?_ trivial ?_
 · exact wL
 intro i _ K hK;cases hx:c.ts[i]? with
 |none=>
  have ar:=gc (l:=c.ts.map A4.c) (bz hx);rw[br hx];clear hK;refine wz ?_;all_goals(apply L.ends;rfl;rfl;exact Sub.agg (.cons (Sub.row _ _) fS);exact wL)
 |some t=>
  have ar:=fZ (l:=c.ts.map A4.c) (cM (f:=A4.c) hx);have aR:=fM hx;have a2:=ad t (gE hx);have g1:(c.ts.map A4.c)[((i:Nat):Int).toNat]?=some [S t.n,.sl (t.cols.map B8.c)]:=by rw[iN,gP,hx];rfl
  have n1:(c.ts.take (i+1)).map A4.c=(c.ts.take i).map A4.c++ [[S t.n,.sl (t.cols.map B8.c)]]:=by rw[dv hx,pA];rfl
  have l1:((c.ts.take i).map A4.c).length=i:=by simp;omega
  have k1: ∀e∈(c.ts.take i).map A4.c,e.length=2:=fun e he=>by obtain⟨y,_,rfl⟩:=mM he;rfl
  have kc:=Lf (t.cols.map B8.c) (fun e he=>by obtain⟨y,_,rfl⟩:=mM he;rfl) (by rw[lM];omega);generalize (c.ts.take i).map A4.c=es at*
  clear ad;(repeat' first|intro hb hp|(refine LW.is ?_;first|apply bJ;rfl;rfl;rfl;rfl;exact k1;(first|exact T U|exact bB U bV);(simp[maxLen,ah,l1];omega);(simp[ah,l1];omega);rfl;rfl)|refine am ?_|refine al ?_ ?_|fail)
  refine L.onlyS [22,21,20,2,3] [1010,2,3] U ?_;refine Ca 3 34 108 U sP U U U (.cons .row (.cons .same .nil)) ?_;refine hK _ (i+1) trivial C (Wk.mk' kK F5 (wB (wB (.cons U U (Subs.cons (Sub.of_eq (congrArg (AV.row 108) n1.symm)) fS) .nil))) (.cons U .nil))
end Go.Proofs.Y
namespace Go.Proofs.Y
open Go.Abs Go.Proofs.Tryz
attribute [local irreducible] L Code.wp bodyPost Exit.then Exit.inBlock
variable [C3]
def cat_wide{g:C0}(h:B6 g):g.cat.ts.length<=1000/\g.cat.is.length<=1000/\ ∀t∈g.cat.ts,t.cols.length<=1000:=by
 obtain⟨_,D,T⟩:=h;have h1:=T.db.cat.tl;have h2:=T.db.cat.il;exact⟨by omega,by omega,fun t ht=>by have:=T.db.cat.wide ht;omega⟩
def catalog_all(g:C0)(h:B6 g):CallG cH prog 23 [.ptr 1010 0] [(1010,g.b)] [(1010,g.b)] [] (.agg (g.cat.c.map .iv)):=by
 obtain⟨h1,h2,h3⟩:=cat_wide h;exact catalog_any g.cat g.ps g.n h1 h2 h3
def quiet_any{gs:aw}(x:Str)(r:D3):CallG gs prog 16 ([.ptr 1010 0,.agg [aS x],r.av] ++ []) [] [] [] (aB true):=by
 refine iG func16 ntmps16 (fun w0 E0 T=> ?_);refine wz ?_;all_goals exact L.ends U U sE wK
def playGo(g:C0)(l:List Str):C0:=l.foldl (fun g x=>(fz g x).1) g
def playM(l:List Str):C0:=playGo eng0 (l.take 40)
def playGo_ok: ∀(l:List Str) {g:C0},B6 g->B6 (playGo g l)
 | [],_,h=>h
 |x::l,g,h=>playGo_ok l (la h x)
def play_ok(l:List Str):B6 (playM l):=playGo_ok _ tW
def play_any(l:List Str)(hl:l.length<=140737488355328):
 CallG cH prog 15 [.iv (.sl (l.map Str.c)),.fn 16 []] [] [(1010,(playM l).b)] [] (.tup [.ptr 1010 0,aB true]):=by
 have ka:=FU;have kn:=Er (gs:=cH);generalize hZ:playM l=Z;refine iG func15 ntmps15 (fun w0 E0 hG=> ?_);(repeat' first|intro hb hp|refine ac [1010] rfl hG kn .nil .nil rfl rfl rfl rfl ?_|refine am ?_|refine al ?_ ?_|fail)
 refine ae (ι:=Nat×C0) (fun i=>⟨[(7,aI (i.1:Int)),(0,.iv (.sl (l.map Str.c))),(1,.fn 16 []),(6,.ptr 1010 0)],[(1010,i.2.b)],[]⟩) (fun i=>l.length - i.1) (fun i=>B6 i.2/\i.1<=40/\playGo i.2 ((l.take 40).drop i.1)=Z) (i0:=(0,eng0)) ?_ ⟨tW,by decide,hZ⟩ ?_
 · exact wL
 rintro ⟨i,g⟩ ⟨hg,hi,T⟩ K hK;dsimp only at hg hi T hK;by_cases ar:i<40
 case neg=>
  have q2:decide ((i:Int)<40)=false:=decide_eq_false C;rw[dL (by rw[lT];omega)] at T;have T:g=Z:=T;subst T;clear hK;by_cases a2:i<l.length
  · have q1:decide ((i:Int)<((l.map Str.c).length:Int))=true:=decide_eq_true (by rw[lM];omega);refine wz ?_;all_goals exact L.ends U U fR wK
  · have q1:decide ((i:Int)<((l.map Str.c).length:Int))=false:=decide_eq_false (by rw[lM];omega);refine wz ?_;all_goals exact L.ends U U fR wK
 have q2:decide ((i:Int)<40)=true:=decide_eq_true C;cases hx:l[i]? with
 |none=>
  have q1:=gc (l:=l.map Str.c) (bz hx);rw[dL (by rw[lT];have:=gO hx;omega)] at T;have T:g=Z:=T;subst T;clear hK;refine wz ?_;all_goals exact L.ends U U fR wK
 |some x=>
  have q1:=fZ (l:=l.map Str.c) (cM (f:=Str.c) hx);have a1:=fM hx;have g1:(l.map Str.c)[((i:Nat):Int).toNat]?=some [S x]:=by rw[iN,gP,hx];rfl
  have ad:(l.take 40)[i]?=some x:=by rw[List.getElem?_take,if_pos ar];exact hx
  have aR:(l.take 40).drop i=x::(l.take 40).drop (i+1):=fu ad;rw[aR] at T;have kd:=oI g hg x;have a0:=la hg x;have kq:=quiet_any (gs:=cH) x (fz g x).2;(repeat' first|intro hb hp|refine ac [] rfl hG kd fS B1 rfl rfl rfl rfl ?_|refine DR.is (eY (f:=16) U hG U kq U .nil U U U ?_)|refine am ?_|refine al ?_ ?_|fail)
  exact hK _ (i+1,(fz g x).1) ⟨a0,by omega,T⟩ oD wL
end Go.Proofs.Y
namespace Go.Proofs.Y
open Go.Abs Go.Proofs.Tryz
attribute [local irreducible] L Code.wp bodyPost Exit.then Exit.inBlock
def entT(c:B0)(D:Str->List (List A3))(t:A4):List Pr:=(D t.n).flatMap (fun r=>(jD t r,de r)::(cE t r c.is).map (fun a=>(a,([]:Str))))
def flatMap_len{α β:Type}{f:α->List β}{k:Nat}: ∀{l:List α},(∀x∈l,(f x).length=k)->(l.flatMap f).length=l.length*k
 | [],_=>by simp
 |x::l,h=>by
  rw[List.flatMap_cons,gV,h x (List.mem_cons_self ..),flatMap_len (fun y T=>h y (List.mem_cons_of_mem _ T)),lC,Nat.add_mul];omega
def entT_len(c:B0)(D:Str->List (List A3))(t:A4):(entT c D t).length=(D t.n).length+(c.is.filter (wo t)).length*(D t.n).length:=by
 rw[entT,flatMap_len (k:=(c.is.filter (wo t)).length+1) (fun r _=>by rw[lC,lM,cE,lM]),Nat.mul_add,Nat.mul_one,Nat.mul_comm];omega
def pair_inj{α β:Type}{f:α->β}: ∀{l:List α},l.Pairwise (fun a b=>f a≠f b)-> ∀a∈l,∀b∈l,f a=f b->a=b
 |x::l,h,a,ha,b,hb,e=>by
  obtain⟨h1,h2⟩:=List.pairwise_cons.1 h;rcases List.mem_cons.1 ha with e1|T<;>rcases List.mem_cons.1 hb with e2|ad
  · rw[e1,e2]
  · rw[e1] at e;exact absurd e (h1 b ad)
  · rw[e2] at e;exact absurd e.symm (h1 a T)
  · exact pair_inj h2 a T b ad e
section
variable {c:B0}{ps:List Pg}{D:Str->List (List A3)}
def DB.key_inj(h:DB c ps D){t:A4}(ht:t∈c.ts){r s:List A3}(hr:r∈D t.n)(hs:s∈D t.n)(e:r.getD 0 af=s.getD 0 af):r=s:=pair_inj (h.dis t ht) r hr s hs e
def row_ix{t:A4}{r s:List A3}{u:A4}{x:A7}(h:jD t r=iz u s x):False:=by
 have:=congrArg List.head? h;simp[jD,ap,dm,iz,eE,aO] at this
def ix_eq(h:DB c ps D){t u:A4}(ht:t∈c.ts)(hu:u∈c.ts){r s:List A3}(hr:r∈D t.n)(hs:s∈D u.n){x y:A7}(hx:x∈c.is)(hy:y∈c.is)(T:wo t x=true)(ad:wo u y=true)(e:iz t r x=iz u s y):t=u/\r=s/\x=y:=by
 have g1:=(h.fit t ht r hr).2;have g2:=(h.fit u hu s hs).2;rw[iz,iz,eE,eE,AT (bC g1 _) (bC g1 0),AT (bC g2 _) (bC g2 0)] at e;obtain⟨e1,e2⟩:=qZ (h.cat.idx x hx).1 (h.cat.idx y hy).1 e;have ar:=h.cat.xinj hx hy e1;subst ar;simp only[wo,aE,beq_iff_eq] at T ad;have aR:=h.cat.tinj ht hu (T.1.symm.trans ad.1);subst aR;obtain⟨_,e3⟩:=ql (bC g1 _) (bC g2 _) e2;obtain⟨e4,_⟩:=ql (x:= []) (y:= []) (bC g1 0) (bC g2 0) (by simpa using e3);exact⟨rfl,h.key_inj ht hr hs e4,rfl⟩
def entR(c:B0)(t:A4)(r:List A3):List Pr:=(jD t r,de r)::(cE t r c.is).map (fun a=>(a,([]:Str)))
def mem_entR{t:A4}{r:List A3}{z:Pr}(h:z∈entR c t r):z=(jD t r,de r)\/ ∃x∈c.is,wo t x=true/\z=(iz t r x,[]):=by
 rcases List.mem_cons.1 h with h|h
 · exact .inl h
 · obtain⟨a,ha,rfl⟩:=mM h;obtain⟨x,T,rfl⟩:=mM ha;obtain⟨h1,h2⟩:=List.mem_filter.1 T;exact .inr ⟨x,h1,h2,rfl⟩
def ent_inj(h:DB c ps D){t u:A4}(ht:t∈c.ts)(hu:u∈c.ts){r s:List A3}(hr:r∈D t.n)(hs:s∈D u.n){z:Pr}(h1:z∈entR c t r)(h2:z∈entR c u s):t=u/\r=s:=by
 rcases mem_entR h1 with h1|⟨x,hx,T,h1⟩<;>rcases mem_entR h2 with h2|⟨y,hy,ad,h2⟩
 · have e:=(Prod.mk.inj (h1.symm.trans h2)).1;rw[jD,jD,ap,ap] at e;obtain⟨e1,e2⟩:=xg (h.cat.tname ht) (h.cat.tname hu) e;have ar:=h.cat.tinj ht hu e1;subst ar;exact⟨rfl,h.key_inj ht hr hs (rowK_inj (t:=t) (h.fit t ht r hr).2 (h.fit t hu s hs).2 e)⟩
 · exact(row_ix (Prod.mk.inj (h1.symm.trans h2)).1).elim
 · exact(row_ix (Prod.mk.inj (h2.symm.trans h1)).1).elim
 · obtain⟨e1,e2,_⟩:=ix_eq h ht hu hr hs hx hy T ad (Prod.mk.inj (h1.symm.trans h2)).1;exact⟨e1,e2⟩
def entR_nodup(h:DB c ps D){t:A4}(ht:t∈c.ts){r:List A3}(hr:r∈D t.n):(entR c t r).Nodup:=by
 refine List.nodup_cons.2 ⟨fun hm=> ?_,?_⟩
 · obtain⟨a,ha,e⟩:=mM hm;obtain⟨x,hx,rfl⟩:=mM ha;exact row_ix (Prod.mk.inj e).1.symm
 · have hn:c.is.Pairwise (fun x y=>x.n≠y.n):=(List.pairwise_map.1 h.cat.xn).imp (fun{a b} T e=>by rw[e] at T;exact List.lt_irrefl _ T);have hf:(c.is.filter (wo t)).Pairwise (fun x y=>x.n≠y.n):=hn.sublist List.filter_sublist;rw[cE,List.map_map];refine List.pairwise_map.2 (hf.imp_of_mem (fun{x y} hx hy ad e=> ?_));obtain⟨ar,aR⟩:=List.mem_filter.1 hx;obtain⟨a0,a1⟩:=List.mem_filter.1 hy;exact ad (by rw[(ix_eq h ht ht hr hr ar a0 aR a1 (Prod.mk.inj e).1).2.2])
def ent_nodup(h:DB c ps D):(c.ts.flatMap (entT c D)).Nodup:=by
 refine List.pairwise_flatMap.2 ⟨fun t ht=> ?_,?_⟩
 · refine List.pairwise_flatMap.2 ⟨fun r hr=>entR_nodup h ht hr,?_⟩;refine(h.nodup ht).imp_of_mem (fun{r s} hr hs T x hx y hy e=> ?_);subst e;exact T (ent_inj h ht ht hr hs hx hy).2
 · have hn:c.ts.Pairwise (fun x y=>x.n≠y.n):=(List.pairwise_map.1 h.cat.tn).imp (fun{a b} ad e=>by rw[e] at ad;exact List.lt_irrefl _ ad);refine hn.imp_of_mem (fun{t u} ht hu T x hx y hy e=> ?_);subst e;obtain⟨r,hr,hx⟩:=List.mem_flatMap.1 hx;obtain⟨s,hs,hy⟩:=List.mem_flatMap.1 hy;exact T (by rw[(ent_inj h ht hu hr hs hx hy).1])
def size_ent(h:DB c ps D):DW ps=(c.ts.flatMap (entT c D)).length:=by
 rw[rC ((eO ps).1 h.good).1];refine Nat.le_antisymm (AL _ _ (qn (oV h.good)) (fun x T=> ?_)) (AL _ _ (ent_nodup h) (fun x T=> ?_))
 · obtain⟨a,b⟩:=x;obtain⟨t,ht,r,hr,T⟩:=(h.mem a b).1 T;refine List.mem_flatMap.2 ⟨t,ht,List.mem_flatMap.2 ⟨r,hr,?_⟩⟩;rcases T with⟨rfl,rfl⟩|⟨h1,rfl⟩
   · exact List.mem_cons_self ..
   · exact List.mem_cons_of_mem _ (List.mem_map.2 ⟨a,h1,rfl⟩)
 · obtain⟨t,ht,T⟩:=List.mem_flatMap.1 T;obtain⟨r,hr,T⟩:=List.mem_flatMap.1 T;obtain⟨a,b⟩:=x;refine(h.mem a b).2 ⟨t,ht,r,hr,?_⟩;rcases List.mem_cons.1 T with T|T
   · obtain⟨rfl,rfl⟩:=Prod.mk.inj T;exact .inl ⟨rfl,rfl⟩
   · obtain⟨a',ha,e⟩:=mM T;obtain⟨rfl,rfl⟩:=Prod.mk.inj e;exact .inr ⟨ha,rfl⟩
def ix_there(h:DB c ps D){t:A4}(ht:t∈c.ts){x:A7}(T:x∈c.is)(e:x.tb=t.n):wo t x=true/\0<=aV t x.co/\(aV t x.co).toNat<t.cols.length/\ ∀r∈D t.n,(getM ps (eE x.n (r.getD (aV t x.co).toNat af) (r.getD 0 af))).2=true:=by
 obtain⟨_,h1,h2⟩:=h.cat.idx x T;obtain⟨i1,i2⟩:=bU h1;have et:=h.cat.tinj i1 ht (i2.trans e);rw[et] at h2;have on:wo t x=true:=by simp[wo,e,h2]
 refine⟨on,h2,HV h2,fun r hr=> ?_⟩;refine(Ig h.good).2 ⟨[],(h.mem _ _).2 ⟨t,ht,r,hr,.inr ⟨List.mem_map.2 ⟨x,List.mem_filter.2 ⟨T,on⟩,rfl⟩,rfl⟩⟩⟩
def ix_off{t:A4}{x:A7}(e:x.tb≠t.n):wo t x=false:=by simp[wo,e]
end
variable [C3]
def topIndexes_any(l:List Str)(hl:l.length<=140737488355328):CallG cH prog 14 [.iv (.sl (l.map Str.c))] [] [] [] (aB true):=by
 have hg:=play_ok l;have k1:=play_any l hl;generalize playM l=g at*
 have kc:=catalog_all g hg;have kt:=zW g hg;obtain⟨c1,c2,c3⟩:=cat_wide hg;obtain⟨p1,p2,p3⟩:=AF hg;obtain⟨_,D,hd⟩:=hg;have a0:=size_ent hd.db;have ba:=rC ((eO g.ps).1 hd.db.good).1;have kz:=size_any g.ps C C;obtain⟨c,ps,n⟩:=g;dsimp only at*
 have bh: ∀i,((c.ts.take i).flatMap (entT c D)).length<=4000:=fun i=>by
  refine Nat.le_trans ?_ (Nat.le_trans (Nat.le_of_eq (a0.symm.trans ba)) p3);conv=>rhs;rw[<-List.take_append_drop i c.ts]
  rw[List.flatMap_append,gV];omega
 have b3:=hd.db.cat.il;refine iG func14 ntmps14 (fun w0 E0 hG=> ?_);(repeat' first|intro hb hp|refine ac [1010] rfl hG k1 fS .nil rfl rfl rfl rfl ?_|refine ac [] rfl hG kc fS B1 rfl rfl rfl rfl ?_|refine ac [] rfl hG kt fS B1 rfl rfl rfl rfl ?_|refine am ?_|refine al ?_ ?_|fail)
 clear k1 kc kt;refine ae (ι:=Nat×Nat) (fun i=>⟨[(32,aI (i.1:Int)),(31,aI ((c.ts.map A4.c).length:Int)),(30,.iv (.sl (c.ts.map A4.c))),(7,aI (i.2:Int)),(5,.ptr 5 0),(6,.ptr 6 0)],[(5,⟨47,.l (c.c.map .iv)⟩),(6,⟨51,.l [.iv (.sl (ps.map Pg.c))]⟩)],[]⟩) (fun i=>c.ts.length - i.1) (fun i=>((c.ts.take i.1).flatMap (entT c D)).length=i.2) (i0:=(0,0)) ?_ U ?_
 · exact wL
 rintro ⟨i,a⟩ hI K hK;dsimp only at hI hK|-;have ha:=bh i;rw[hI] at ha;cases hx:c.ts[i]? with
 |none=>
  have ar:=gc (l:=c.ts.map A4.c) (bz hx);rw[br hx,<-a0] at hI;have q:((a:Int)==(DW ps:Int))=true:=by rw[hI];simp
  clear hK;refine wz ?_;all_goals exact L.ends U U (Sub.of_eq (congrArg (fun b=>aB b) q)) wK
 |some t=>
  have ar:=fZ (l:=c.ts.map A4.c) (cM (f:=A4.c) hx);have bS:=fM hx;have ht:=gE hx;have g1:(c.ts.map A4.c)[((i:Nat):Int).toNat]?=some t.c:=by rw[iN,gP,hx];rfl
  have a1:t.n.length<=140737488355328:=by have:=fw (hd.db.cat.tname ht);omega
  have ka:=oR t.n a1;have kr:=pb ps t (eh t.n) C hd.db.small a1 (by simp[eh]);have a2:=gR hd.db ht;have b4:=c3 t ht;have b5:=hd.few t ht;have bi:((c.ts.take (i+1)).flatMap (entT c D)).length=a+((D t.n).length+(c.is.filter (wo t)).length*(D t.n).length):=by
   rw[dv hx,List.flatMap_append,gV,hI,List.flatMap_cons,List.flatMap_nil,List.append_nil,entT_len]
  have bl: ∀r∈ci ps t (eh t.n),r∈D t.n:=fun r hr=>a2.mem_iff.1 hr
  have bm:=a2.length_eq;generalize ci ps t (eh t.n)=R at*
  have a3:((R.map ai).length:Int)=(R.length:Int):=by rw[lM]
  refine wz ?_;clear ka kr ar g1;refine ae (ι:=Nat×Nat) (fun j=>⟨[(49,aI (j.1:Int)),(48,aI ((c.is.map A7.c).length:Int)),(47,.iv (.sl (c.is.map A7.c))),(9,.ptr 9 0),(10,.iv (.sl (R.map ai))),(32,aI (i:Int)),(31,aI ((c.ts.map A4.c).length:Int)),(30,.iv (.sl (c.ts.map A4.c))),(7,aI (j.2:Int)),(5,.ptr 5 0),(6,.ptr 6 0)],[(9,⟨57,.l (t.c.map .iv)⟩),(5,⟨47,.l (c.c.map .iv)⟩),(6,⟨51,.l [.iv (.sl (ps.map Pg.c))]⟩)],[]⟩) (fun j=>c.is.length - j.1) (fun j=>a+R.length+((c.is.take j.1).filter (wo t)).length*R.length=j.2) (i0:=(0,a+R.length)) ?_ sP ?_
  · exact Wk.mk' kK (wG (wG (wG (wF (wG (wF (wF (wF (.cons U (Sub.of_eq (congrArg (fun k:Int=>AV.iv (I k)) (by rw[a3];exact(Int.natCast_add _ _).symm))) F2))))))))) B3 .nil
  rintro ⟨j,b⟩ hJ K2 ad;dsimp only at hJ ad|-;have bp:((c.is.take j).filter (wo t)).length<=4:=Nat.le_trans (List.length_filter_le ..) (by rw[lT];omega);have b6:b<=4150:=by
   have:((c.is.take j).filter (wo t)).length*R.length<=4*30:=Nat.mul_le_mul bp C;omega
  cases hy:c.is[j]? with
  |none=>
   have ar:=gc (l:=c.is.map A7.c) (bz hy);rw[br hy] at hJ;clear ad;refine wz ?_;exact hK _ (i+1,b) (by dsimp only;rw[bi,<-bm];omega) oD wK
  |some x=>
   have ar:=fZ (l:=c.is.map A7.c) (cM (f:=A7.c) hy);have bW:=fM hy;have a4:=gE hy;have g1:(c.is.map A7.c)[((j:Nat):Int).toNat]?=some x.c:=by rw[iN,gP,hy];rfl
   have T:((c.is.take (j+1)).filter (wo t)).length=((c.is.take j).filter (wo t)).length+(if wo t x=true then 1 else 0):=by
    rw[dv hy,List.filter_append,gV];by_cases e:wo t x=true<;>simp[e]
   clear hK;by_cases aR:x.tb=t.n
   case neg=>
    have q:(x.tb !=t.n)=true:=by simpa using aR
    rw[ix_off aR,if_neg dD] at T;refine wz ?_;exact ad _ (j+1,b) (by dsimp only;rw[T];exact hJ) oD wL
   have q:(x.tb !=t.n)=false:=by simpa using aR
   obtain⟨on,b7,b1,a5⟩:=ix_there hd.db ht a4 aR;rw[if_pos on] at T;have kf:=eI t x.co C;have bP:x.n.length<=140737488355328:=by have:=fw (hd.db.cat.idx x a4).1;omega
   have bR:((c.is.take (j+1)).filter (wo t)).length*R.length=((c.is.take j).filter (wo t)).length*R.length+R.length:=by rw[T,Nat.add_mul,Nat.one_mul]
   refine wz ?_;refine ae (ι:=Nat) (fun k=>⟨[(68,aI (k:Int)),(67,aI ((R.map ai).length:Int)),(66,.iv (.sl (R.map ai))),(12,.ptr 12 0),(13,aI (aV t x.co)),(49,aI (j:Int)),(48,aI ((c.is.map A7.c).length:Int)),(47,.iv (.sl (c.is.map A7.c))),(9,.ptr 9 0),(10,.iv (.sl (R.map ai))),(32,aI (i:Int)),(31,aI ((c.ts.map A4.c).length:Int)),(30,.iv (.sl (c.ts.map A4.c))),(7,aI ((b+R.length:Nat):Int)),(5,.ptr 5 0),(6,.ptr 6 0)],[(12,⟨67,.l (x.c.map .iv)⟩),(9,⟨57,.l (t.c.map .iv)⟩),(5,⟨47,.l (c.c.map .iv)⟩),(6,⟨51,.l [.iv (.sl (ps.map Pg.c))]⟩)],[]⟩) (fun k=>R.length - k) (fun _=>True) (i0:=0) ?_ trivial ?_
   · exact Wk.mk' kK (wG (wG (wG (wF (wG (wF (wF (wF (wF (wF (wF (wF (wF (.cons U (Sub.of_eq (congrArg (fun k:Int=>AV.iv (I k)) (by rw[a3];exact(Int.natCast_add _ _).symm))) F2)))))))))))))) B4 .nil
   intro k _ K3 a6;cases hz:R[k]? with
   |none=>
    have a7:=gc (l:=R.map ai) (bz hz);clear a6;refine wz ?_;exact ad _ (j+1,b+R.length) (by dsimp only;rw[bR];omega) oD wL
   |some r=>
    have a7:=fZ (l:=R.map ai) (cM (f:=ai) hz);have b2:=fM hz;have a8:=bl r (gE hz);have a9:=(hd.db.fit t ht r a8).1;have b8:=(hd.db.cat.wide ht).1;have g2:(R.map ai)[((k:Nat):Int).toNat]?=some (ai r):=by rw[iN,gP,hz];rfl
    have g3:(r.map A3.c)[(aV t x.co).toNat]?=some (r.getD (aV t x.co).toNat af).c:=by
     rw[gP,List.getD_eq_getElem?_getD,gG C];rfl
    have g4:(r.map A3.c)[(0:Int).toNat]?=some (r.getD 0 af).c:=by
     cases r with
     |nil=>simp at a9;omega
     |cons a r=>rfl
    have ki:=qQ x.n (r.getD (aV t x.co).toNat af) (r.getD 0 af) bP;have kg:=zj ps (eE x.n (r.getD (aV t x.co).toNat af) (r.getD 0 af)) C;rw[a5 r a8] at kg;have b9:(aV t x.co)<((r.map A3.c).length:Int):=by rw[lM];omega
    clear ad kf;refine wz ?_;exact a6 _ (k+1) trivial C wL
end Go.Proofs.Y
