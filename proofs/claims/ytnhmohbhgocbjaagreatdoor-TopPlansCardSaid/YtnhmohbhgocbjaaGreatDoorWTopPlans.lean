/- Lemmas towards the law. Conditions: each one says its own. -/
import Derived.Test.YtnhmohbhgocbjaaGreatDoorZU16
set_option linter.all false
set_option maxHeartbeats 64000000
set_option maxRecDepth 100000
namespace Go.Proofs.Y
open Go Go.Abs
instance:E9 Tryz.prog 47 0 0:=⟨kR⟩
instance:E9 Tryz.prog 47 1 1:=⟨kR⟩
end Go.Proofs.Y
namespace Go.Abs
section
variable {P:Program}{c:C7}{st:St}{fn:Func}{res:AV}{rs:List ResultVar}{y z u:IV}{cs:List AV}
variable {bx':List (Nat×A5)}
end
end Go.Abs
namespace Go.Proofs.Y
open Go.Abs
attribute [local irreducible] L Code.wp bodyPost Exit.then Exit.inBlock
def eqSl_iff: ∀{l m:List Str},wt l m=true↔l=m
 | [],[] =>by simp[wt]
 | [],_::_=>by simp[wt]
 |_::_,[] =>by simp[wt]
 |a::l,b::m=>by simp[wt,eqSl_iff]
end Go.Proofs.Y
namespace Go.Proofs.Y
open Go.Abs Go.Proofs.Tryz
attribute [local irreducible] L Code.wp bodyPost Exit.then Exit.inBlock
def copyIdx_any(es:List (List IV))(hk: ∀e∈es,e.length=3)(hl:es.length<=1000000):
 CallA prog 49 [.iv (.sl es)] [] [] [] (.iv (.sl es)):=by
 by_cases T:es= []
 · subst T;refine iA func49 ntmps49 (fun w0 E0=> ?_);(repeat' first|intro hb hp|apply mu;rfl;rfl;rfl;rintro (_|_)|(refine LW.is ?_;first|apply eA;rfl;rfl;rfl;rfl;rfl|apply ag;rfl;apply tH;rfl;exact Sub.bslE _ _;rfl)|refine am ?_|refine al ?_ ?_|fail)
   all_goals(apply L.ends;rfl;rfl;(first|exact Sub.nils|exact Sub.emp);exact wL)
 · have hm:es.length<=maxLen:=by rw[fJ];omega
   have hb:es.length*48<=140737488355328:=C;refine iA func49 ntmps49 (fun w0 E0=> ?_);(repeat' first|intro hb hp|(refine LW.is ?_;first|apply ag;rfl;apply jZ;rfl;rfl;exact T|apply eA;rfl;rfl;rfl;rfl;rfl|apply kC 1000;rfl;rfl;rfl;exact hk;exact T;exact hm;exact hb;rfl)|refine am ?_|refine al ?_ ?_|fail)
   all_goals(refine L.pubS 1000 2 (es:=es) (k:=3) U U hk dD T U U .here ?_)
   all_goals(apply L.ends;rfl;rfl;exact fR;exact wL)
def catalog_any{gs:aw}(c:B0)(ps:List Pg)(n:Int)(a0:c.ts.length<=1000)(a1:c.is.length<=1000)(ad: ∀t∈c.ts,t.cols.length<=1000):
 CallG gs prog 23 [.ptr 1010 0] [(1010,ca c ps n)] [(1010,ca c ps n)] [] (.agg (c.c.map .iv)):=by
 have kx:=copyIdx_any (c.is.map A7.c) (fun e he=>by obtain⟨y,_,rfl⟩:=mM he;rfl) (by rw[lM];omega);refine iG func23 ntmps23 (fun w0 E0 hG=> ?_);refine wz ?_;refine L.adoptB 3 108 57 2 U sP U U (.cons .here (.cons .same .nil)) ?_;refine ae (ι:=Nat) (fun i=>⟨[(22,aI (i:Int)),(21,aI ((c.ts.map A4.c).length:Int)),(20,.iv (.sl (c.ts.map A4.c))),(2,.ptr 2 0),(3,.ptr 3 0)],
  [(1010,ca c ps n),(2,⟨47,.l [.nils,.nils]⟩),(3,⟨47,.l [.row 108 ((c.ts.take i).map A4.c),.iv (.sl (c.is.map A7.c))]⟩)],[(108,⟨57,2⟩)]⟩) (fun i=>c.ts.length - i) (fun i=>True) (i0:=0) ?_ trivial ?_
 · exact wL
 intro i _ K hK;cases hx:c.ts[i]? with
 |none=>
  have ar:=gc (l:=c.ts.map A4.c) (bz hx);rw[br hx];clear hK;refine wz ?_;all_goals(apply L.ends;rfl;rfl;exact Sub.agg (.cons (Sub.row _ _) fS);exact wL)
 |some t=>
  have ar:=fZ (l:=c.ts.map A4.c) (cM (f:=A4.c) hx);have aR:=fM hx;have a2:=ad t (gE hx);have g1:(c.ts.map A4.c)[((i:Nat):Int).toNat]?=some [S t.n,.sl (t.cols.map B8.c)]:=by rw[iN,gP,hx];rfl
  have n1:(c.ts.take (i+1)).map A4.c=(c.ts.take i).map A4.c++ [[S t.n,.sl (t.cols.map B8.c)]]:=by rw[dv hx,pA];rfl
  have l1:((c.ts.take i).map A4.c).length=i:=by simp;omega
  have k1: ∀e∈(c.ts.take i).map A4.c,e.length=2:=fun e he=>by obtain⟨y,_,rfl⟩:=mM he;rfl
  have kc:=Lf (t.cols.map B8.c) (fun e he=>by obtain⟨y,_,rfl⟩:=mM he;rfl) (by rw[lM];omega);generalize (c.ts.take i).map A4.c=es at*
  clear ad;(repeat' first|intro hb hp|(refine LW.is ?_;first|apply bJ;rfl;rfl;rfl;rfl;exact k1;(first|exact T U|exact bB U bV);(simp[maxLen,ah,l1];omega);(simp[ah,l1];omega);rfl;rfl)|refine am ?_|refine al ?_ ?_|fail)
  refine L.onlyS [22,21,20,2,3] [1010,2,3] U ?_;refine Ca 3 34 108 U sP U U U (.cons .row (.cons .same .nil)) ?_;refine hK _ (i+1) trivial C (Wk.mk' kK F5 (wB (wB (.cons U U (Subs.cons (Sub.of_eq (congrArg (AV.row 108) n1.symm)) fS) .nil))) (.cons U .nil))
def sameRows_any(R:List (List A3))(hl:R.length<=100000000)(hr: ∀r∈R,r.length<=100000000):CallA prog 22 [.iv (.sl (R.map ai)),.iv (.sl (R.map ai))] [] [] [] (aB true):=by
 have q0:((((R.map ai).length:Nat):Int) !=(((R.map ai).length:Nat):Int))=false:=by simp
 refine iA func22 ntmps22 (fun w0 E0=> ?_);refine wz ?_;refine ae (ι:=Nat) (fun i=>⟨[(14,aI (i:Int)),(13,aI ((R.map ai).length:Int)),(0,.iv (.sl (R.map ai))),(1,.iv (.sl (R.map ai)))],[],[]⟩) (fun i=>R.length - i) (fun i=>True) (i0:=0) ?_ trivial ?_
 · exact wL
 intro i _ K hK;cases T:R[i]? with
 |none=>
  have aR:=gc (l:=R.map ai) (bz T);clear hK;refine wz ?_;all_goals refine aU ?_
  all_goals rfl
 |some x=>
  have aR:=fZ (l:=R.map ai) (cM (f:=ai) T);have a1:=fM T;have a2:=hr x (gE T);have g1:(R.map ai)[((i:Nat):Int).toNat]?=some [.sl (x.map A3.c)]:=by rw[iN,gP,T];rfl
  have q1:((((x.map A3.c).length:Nat):Int) !=(((x.map A3.c).length:Nat):Int))=false:=by simp
  clear hr q0;refine wz ?_;refine ae (ι:=Nat) (fun j=>⟨[(33,aI (j:Int)),(32,aI ((x.map A3.c).length:Int)),(5,aI (i:Int)),(14,aI (i:Int)),(13,aI ((R.map ai).length:Int)),(0,.iv (.sl (R.map ai))),(1,.iv (.sl (R.map ai)))],[],[]⟩) (fun j=>x.length - j) (fun j=>True) (i0:=0) ?_ trivial ?_
  · exact wL
  intro j _ K2 ad;cases hy:x[j]? with
  |none=>
   have ar:=gc (l:=x.map A3.c) (bz hy);clear ad;refine wz ?_;refine hK _ (i+1) trivial C ?_;exact wL
  |some v=>
   have ar:=fZ (l:=x.map A3.c) (cM (f:=A3.c) hy);have a0:=fM hy;have g2:(x.map A3.c)[((j:Nat):Int).toNat]?=some [I v.k,I v.n,S v.s]:=by rw[iN,gP,hy];rfl
   have q2:(!((v.k==v.k) && ((v.n==v.n) && ((v.s==v.s) && true))))=false:=by simp
   clear hK;refine wz ?_;refine ad _ (j+1) trivial C ?_;exact wL
def sameReply_any(r:D3)(hl:r.rows.length<=100000000)(hr: ∀x∈r.rows,x.length<=100000000):CallA prog 31 [r.av,r.av] [] [] [] (aB true):=by
 have k:=sameRows_any r.rows hl hr;have T:(r.code==r.code)=true:=by simp
 have q2:(r.n==r.n)=true:=by simp
 refine iA func31 ntmps31 (fun w0 E0=> ?_);refine wz ?_;all_goals refine aU ?_
 all_goals rfl
end Go.Proofs.Y
namespace Go.Proofs.Y
open Go.Abs Go.Proofs.Tryz
attribute [local irreducible] L Code.wp bodyPost Exit.then Exit.inBlock
variable [C3]
def cat_wide{g:C0}(h:B6 g):g.cat.ts.length<=1000/\g.cat.is.length<=1000/\ ∀t∈g.cat.ts,t.cols.length<=1000:=by
 obtain⟨_,D,T⟩:=h;have h1:=T.db.cat.tl;have h2:=T.db.cat.il;exact⟨by omega,by omega,fun t ht=>by have:=T.db.cat.wide ht;omega⟩
def catalog_all(g:C0)(h:B6 g):CallG cH prog 23 [.ptr 1010 0] [(1010,g.b)] [(1010,g.b)] [] (.agg (g.cat.c.map .iv)):=by
 obtain⟨h1,h2,h3⟩:=cat_wide h;exact catalog_any g.cat g.ps g.n h1 h2 h3
def quiet_any{gs:aw}(x:Str)(r:D3):CallG gs prog 16 ([.ptr 1010 0,.agg [aS x],r.av] ++ []) [] [] [] (aB true):=by
 refine iG func16 ntmps16 (fun w0 E0 T=> ?_);refine wz ?_;all_goals exact L.ends U U sE wK
def playGo(g:C0)(l:List Str):C0:=l.foldl (fun g x=>(fz g x).1) g
def playM(l:List Str):C0:=playGo eng0 (l.take 40)
def playGo_ok: ∀(l:List Str) {g:C0},B6 g->B6 (playGo g l)
 | [],_,h=>h
 |x::l,g,h=>playGo_ok l (la h x)
def play_ok(l:List Str):B6 (playM l):=playGo_ok _ tW
def play_any(l:List Str)(hl:l.length<=140737488355328):
 CallG cH prog 15 [.iv (.sl (l.map Str.c)),.fn 16 []] [] [(1010,(playM l).b)] [] (.tup [.ptr 1010 0,aB true]):=by
 have ka:=FU;have kn:=Er (gs:=cH);generalize hZ:playM l=Z;refine iG func15 ntmps15 (fun w0 E0 hG=> ?_);(repeat' first|intro hb hp|refine ac [1010] rfl hG kn .nil .nil rfl rfl rfl rfl ?_|refine am ?_|refine al ?_ ?_|fail)
 refine ae (ι:=Nat×C0) (fun i=>⟨[(7,aI (i.1:Int)),(0,.iv (.sl (l.map Str.c))),(1,.fn 16 []),(6,.ptr 1010 0)],[(1010,i.2.b)],[]⟩) (fun i=>l.length - i.1) (fun i=>B6 i.2/\i.1<=40/\playGo i.2 ((l.take 40).drop i.1)=Z) (i0:=(0,eng0)) ?_ ⟨tW,by decide,hZ⟩ ?_
 · exact wL
 rintro ⟨i,g⟩ ⟨hg,hi,T⟩ K hK;dsimp only at hg hi T hK;by_cases ar:i<40
 case neg=>
  have q2:decide ((i:Int)<40)=false:=decide_eq_false C;rw[dL (by rw[lT];omega)] at T;have T:g=Z:=T;subst T;clear hK;by_cases a2:i<l.length
  · have q1:decide ((i:Int)<((l.map Str.c).length:Int))=true:=decide_eq_true (by rw[lM];omega);refine wz ?_;all_goals exact L.ends U U fR wK
  · have q1:decide ((i:Int)<((l.map Str.c).length:Int))=false:=decide_eq_false (by rw[lM];omega);refine wz ?_;all_goals exact L.ends U U fR wK
 have q2:decide ((i:Int)<40)=true:=decide_eq_true C;cases hx:l[i]? with
 |none=>
  have q1:=gc (l:=l.map Str.c) (bz hx);rw[dL (by rw[lT];have:=gO hx;omega)] at T;have T:g=Z:=T;subst T;clear hK;refine wz ?_;all_goals exact L.ends U U fR wK
 |some x=>
  have q1:=fZ (l:=l.map Str.c) (cM (f:=Str.c) hx);have a1:=fM hx;have g1:(l.map Str.c)[((i:Nat):Int).toNat]?=some [S x]:=by rw[iN,gP,hx];rfl
  have ad:(l.take 40)[i]?=some x:=by rw[List.getElem?_take,if_pos ar];exact hx
  have aR:(l.take 40).drop i=x::(l.take 40).drop (i+1):=fu ad;rw[aR] at T;have kd:=oI g hg x;have a0:=la hg x;have kq:=quiet_any (gs:=cH) x (fz g x).2;(repeat' first|intro hb hp|refine ac [] rfl hG kd fS B1 rfl rfl rfl rfl ?_|refine DR.is (eY (f:=16) U hG U kq U .nil U U U ?_)|refine am ?_|refine al ?_ ?_|fail)
  exact hK _ (i+1,(fz g x).1) ⟨a0,by omega,T⟩ oD wL
end Go.Proofs.Y
namespace Go.Proofs.Y
open Go.Abs
attribute [local irreducible] L Code.wp bodyPost Exit.then Exit.inBlock
def MI(g:C0)(x:Str):(fz g x).1.n<=g.n+1/\g.n<=(fz g x).1.n:=by
 unfold fz;split
 · exact⟨by dsimp only;omega,by dsimp only;omega⟩
 split
 · exact⟨by dsimp only;omega,by dsimp only;omega⟩
 split
 · exact⟨by dsimp only;omega,by dsimp only;omega⟩
 · exact⟨by dsimp only;omega,by dsimp only;omega⟩
def AE: ∀(l:List Str) (g:C0),(playGo g l).n<=g.n+l.length
 | [],g=>by show g.n<=_;omega
 |x::l,g=>by
  have h1:=AE l (fz g x).1;have h2:=(MI g x).1;have e:playGo g (x::l)=playGo (fz g x).1 l:=rfl;rw[e,lC];omega
def Lw(l:List Str):(playM l).n<=40:=by
 have:=AE (l.take 40) eng0;have e:eng0.n=0:=rfl;rw[lT] at this;rw[playM];omega
def Ag(c:B0)(ps:List Pg)(x:Str):B0×List Pg×D3:=
 if(cj x).2≠0 then(c,ps,⟨(cj x).2,0,[]⟩)
 else match ib c ps ln 0 (cj x).1 with
  | .error e=>(c,ps,⟨e.1,e.2,[]⟩)
  | .ok r=>r
def zr{c:B0}{ps:List Pg}{n:Int}{x:Str}(h:n<150):fz ⟨c,ps,n⟩ x=(⟨(Ag c ps x).1,(Ag c ps x).2.1,n+1⟩,(Ag c ps x).2.2):=by
 have h1: ¬150<=n:=C;unfold fz Ag;dsimp only;rw[if_neg h1];by_cases h2:(cj x).2≠0
 · rw[if_pos h2,if_pos h2]
 · rw[if_neg h2,if_neg h2];cases ib c ps ln 0 (cj x).1<;>rfl
def Md{g:C0}{x:Str}(hn:g.n<150)(he:(cj x).2≠0):(fz g x).2.code=(cj x).2:=by
 unfold fz;rw[if_neg C,if_pos he]
def Fh(s:A9)(w:Nat)(J:List (List A3)):(Al s w J).length<=J.length/\ ∀r∈Al s w J,r.length=s.out.length:=by
 refine⟨?_,fun r hr=> ?_⟩
 · rw[Al,lM];refine Nat.le_trans (m:=((J.filter (bL s.wh)).mergeSort (cL (dc s w))).length) ?_ (by rw[List.length_mergeSort];exact List.length_filter_le ..);unfold qN;split
   · rw[lT];omega
   · exact Nat.le_refl _
 · obtain⟨x,_,rfl⟩:=mM hr;rw[yQ,lM]
def ym(r:D3):Prop:=r.rows.length<=1000000/\ ∀x∈r.rows,x.length<=1000000
def my(a b:Int):ym ⟨a,b,[]⟩:=⟨by simp,by simp⟩
def Fl{c:B0}{ps:List Pg}{D:Str->List (List A3)}(h:EI c ps D){s b:A9}(hs:D8 s)(hb:aJ c s=(b,0)):ym (cK c ps b).rep:=by
 obtain⟨hg,a4,hp⟩:=ee hb;have a5:=(eD hp).1;by_cases h7:b.kind=7
 · have T:=He C hp;rw[cK,if_neg C,if_neg C,if_neg C,if_neg C,if_neg C,if_pos h7];have a3:=T.len;have a1: ∀m∈s.frm,(ab c m).2=true:=fun m hm=>by
    obtain⟨i,hi⟩:=List.getElem?_of_mem hm;exact T.tab i m hi
   have a6:lU (s.frm.map fun n=>(ab c n).1)<=8:=Nat.le_trans (wc h.db.cat a1) C;have a7:=T.outL;have a8:=hs.out;obtain⟨n0,ad⟩: ∃n0,s.frm[0]?=some n0:=⟨_,gG C⟩
   have hm:=(bU (T.tab 0 n0 ad)).1;have ar:b.frm.getD 0 [] =n0:=by rw[T.frm,List.getD_eq_getElem?_getD,ad];rfl
   obtain⟨f1,f2,f3,_⟩:=jX h.db hm b.wh;have a9:=h.few _ hm;have ba:b.frm.length=s.frm.length:=by rw[T.frm]
   obtain⟨s1,s2⟩:=Fh b (ab c n0).1.cols.length (og c ps b (ci ps (ab c n0).1 (bO c (ab c n0).1 0 b.wh)));refine⟨?_,fun x hx=> ?_⟩
   · show(jM c ps b).length<=1000000;rw[jM,ar];refine Nat.le_trans s1 ?_;unfold og;split
     · rename_i h2;obtain⟨n1,aR⟩: ∃n1,s.frm[1]?=some n1:=⟨_,gG C⟩
       have a0:=(bU (T.tab 1 n1 aR)).1;have a2:b.frm.getD 1 [] =n1:=by rw[T.frm,List.getD_eq_getElem?_getD,aR];rfl
       have bh:=h.few _ a0;rw[a2];refine Nat.le_trans (kY (k:=30) (fun x hx=> ?_)) C;rw[lM];have:=(rq h.db a0 x (bo x b.wh)).2.2.1;omega
     · omega
   · have hx:x∈jM c ps b:=hx;rw[jM,ar] at hx;have:=s2 x hx;omega
 · unfold cK;repeat' split
   all_goals first|exact my _ _|exact absurd (by assumption) h7
def vH: ∀(l:List A9) {c:B0} {ps:List Pg} {r:D3} {i:Int} {x:B0×List Pg×D3},(∃D,EI c ps D)->(∀s∈l,D8 s)->ym r->ib c ps r i l= .ok x->ym x.2.2
 | [],c,ps,r,i,x,_,_,h,T=>by
   rw[ib] at T;cases T;exact h
 |s::l,c,ps,r,i,x,⟨D,hd⟩,hs,h,T=>by
  rw[ib] at T;split at T
  · cases T
  split at T
  · cases T
  rename_i h1 _;have hb:aJ c s=((aJ c s).1,0):=Prod.ext U (Decidable.not_not.1 h1);exact vH l (rN hd hb) (fun s' ad=>hs s' (List.mem_cons_of_mem _ ad)) (Fl hd (hs s (List.mem_cons_self ..)) hb) T
def Bs{g:C0}(h:B6 g)(x:Str):ym (fz g x).2:=by
 unfold fz;split
 · exact my _ _
 split
 · exact my _ _
 split
 · exact my _ _
 · rename_i r hr;exact vH _ h.db (ut x) (my _ _) hr
variable [C3]
end Go.Proofs.Y
namespace Go.Proofs.Y
open Go.Abs
attribute [local irreducible] L Code.wp bodyPost Exit.then Exit.inBlock
def CA{c:B0}{ps:List Pg}{D:Str->List (List A3)}(h:EI c ps D){t:A4}(ht:t∈c.ts):
 (ci ps t (eh t.n)).length<=30/\(ci ps t (eh t.n)).Pairwise (fun r r'=>cA (r.getD 0 af) (r'.getD 0 af)= -1)/\ ∀r∈ci ps t (eh t.n),jK t r=true:=by
 have h1:=gR h.db ht;have h2:=(jb h.db ht (dm t.n) (eh t.n).hi (fun _=>true) (fun a h1 h2=>⟨h1,h2⟩) (fun r hr=>⟨fun _=>DH t.n (de [r.getD 0 af]),fun _=>rfl⟩)).2;refine⟨by rw[h1.length_eq];exact h.few t ht,h2,fun r hr=>h.fits t ht r (h1.mem_iff.1 hr)⟩
variable [C3]
end Go.Proofs.Y
namespace Go.Proofs.Y
open Go.Abs
def split_low{w:Str}(h0:w≠ [])(T:w.all iP=true){r:Str}(hr:(r.headD 0|>iP)=false):cW (w++r)=(cW r).map (w:: ·):=by
 cases w with
 |nil=>exact absurd U h0
 |cons c w=>
  simp only[List.all_cons,aE] at T;have hc: ¬(c=32\/c=10):=by
   rintro (rfl|rfl)
   · simp[iP] at T
   · simp[iP] at T
  have ad:((w++r).takeWhile iP)=w:=by
   clear h0 hc;obtain⟨_,T⟩:=T;induction w with
   |nil=>
    cases r with
    |nil=>rfl
    |cons a r=>simp at hr;simp[hr]
   |cons a w ih=>
    simp only[List.all_cons,aE] at T;rw[List.cons_append,List.takeWhile_cons,if_pos T.1,ih T.2]
  have ht:fc c (w++r)=some (w.length+1):=by
   unfold fc;rw[if_pos T.1,ad,Nat.add_comm]
  rw[List.cons_append,uj hc ht];simp
def split_sp(r:Str):cW (32::r)=cW r:=sJ (.inl U)
def split_semi(r:Str):cW (59::r)=(cW r).map ([59]:: ·):=by
 have:fc 59 r=some 1:=by unfold fc;rw[if_neg dD,if_neg dD,if_neg dD];decide
 rw[uj dD this];rfl
def named_low{s:Str}(h:bF s=true):s≠ [] /\s.all iP=true/\ ∀w∈words,s≠w:=by
 simp only[bF,aE,decide_eq_true_eq,Bool.not_eq_true',List.any_eq_false,beq_iff_eq] at h;obtain⟨h1,h2,h3,h4⟩:=h;exact⟨fun e=>by rw[e] at h2;simp at h2,h1,fun w T e=>h4 w T e⟩
def at_one{w:Str}{x:List Str}{b:Bool}:ak ⟨w::x,b⟩ [w] =(true,⟨x,b⟩):=by
 unfold ak;dsimp only;rw[if_neg sP,if_pos (by rw[eqSl_iff];simp)];simp
def at_two{w u:Str}{x:List Str}{b:Bool}:ak ⟨w::u::x,b⟩ [w,u] =(true,⟨x,b⟩):=by
 unfold ak;dsimp only;rw[if_neg sP,if_pos (by rw[eqSl_iff];simp)];simp
def name_read{s:Str}(h:bF s=true){x:List Str}:aq ⟨s::x,false⟩=(s,⟨x,false⟩):=by
 have h0:=(named_low h).1;have e:(⟨s::x,false⟩:Rd).front=s:=rfl;unfold aq eB;rw[e,if_neg h0];simp[h]
def script_one{l:List Str}{s:A9}(h:fe ⟨l,false⟩=(s,⟨[[59]],false⟩))(hl:l≠ [])(n:Nat):fH (n+2) [] ⟨l,false⟩=([s],⟨[],false⟩):=by
 unfold fH;rw[if_neg (by simp[hl]),h];dsimp only;unfold aL;rw[at_one,if_pos U];unfold fH;rw[if_pos (.inl U)];rfl
def ps_one{t:Str}{l:List Str}{s:A9}(hs:cW t=some l)(hl:l≠ [])(ht:t.length<=1500)(h:fe ⟨l,false⟩=(s,⟨[[59]],false⟩)):cj t=([s],0):=by
 have hn:l.length+1=(l.length - 1)+2:=by have:=gU hl;omega
 unfold cj nF;rw[if_neg C,hs];dsimp only;rw[hn,script_one h hl,if_neg Bool.false_ne_true,if_neg sP]
def split_name{s:Str}(h:bF s=true){r:Str}(hr:(r.headD 0|>iP)=false):cW (s++r)=(cW r).map (s:: ·):=split_low (named_low h).1 (named_low h).2.1 hr
def split_one{w:UInt8}(h1: ¬(w=32\/w=10))(h2:iP w=false)(h3:lb w=false)(h4:w≠39)(h5:0<=Lib.indexByte DX w)(r:Str):cW (w::r)=(cW r).map ([w]:: ·):=by
 have:fc w r=some 1:=by unfold fc;rw[if_neg (by rw[h2];decide),if_neg (by rw[h3];decide),if_neg h4,if_pos h5]
 rw[uj h1 this];rfl
def named_len8{t:Str}(ht:bF t=true):t.length<=8:=by simp only[bF,aE,decide_eq_true_eq] at ht;exact ht.2.2.1
def rise_uniq{α:Type}{R:α->α->Prop}(ha: ∀a b,R a b-> ¬R b a): ∀{l m:List α},l.Pairwise R->m.Pairwise R->(∀x,x∈l↔x∈m)->l=m
 | [],[],_,_,_=>rfl
 | [],b::m,_,_,h=>by have:=(h b).2 (List.mem_cons_self ..);cases this
 |a::l,[],_,_,h=>by have:=(h a).1 (List.mem_cons_self ..);cases this
 |a::l,b::m,h1,h2,h=>by
  obtain⟨p1,p2⟩:=List.pairwise_cons.1 h1;obtain⟨q1,q2⟩:=List.pairwise_cons.1 h2;have e:a=b:=by
   rcases List.mem_cons.1 ((h a).1 (List.mem_cons_self ..)) with e|h3
   · exact e
   rcases List.mem_cons.1 ((h b).2 (List.mem_cons_self ..)) with e|h4
   · exact e.symm
   · exact absurd (q1 a h3) (ha _ _ (p1 b h4))
  subst e;have hi: ¬R a a:=fun k=>ha a a k k
  rw[rise_uniq ha p2 q2 (fun x=>⟨fun T=> ?_,fun T=> ?_⟩)]
  · rcases List.mem_cons.1 ((h x).1 (List.mem_cons_of_mem _ T)) with e|k
    · subst e;exact absurd (p1 x T) hi
    · exact k
  · rcases List.mem_cons.1 ((h x).2 (List.mem_cons_of_mem _ T)) with e|k
    · subst e;exact absurd (q1 x T) hi
    · exact k
section
variable {c:B0}{ps:List Pg}{D:Str->List (List A3)}
def chosen_rise(h:DB c ps D){t:A4}(ht:t∈c.ts)(e:Ex):(cG c ps t e).Pairwise (fun x y=>rW x y<0):=by
 obtain⟨_,P,hp,_⟩:=BL h ht [] e;have hd:(ci ps t (bO c t 0 e)).Pairwise (fun r r'=>r.getD 0 af≠r'.getD 0 af):=(hp.pairwise_iff (fun k=>Ne.symm k)).2 ((h.dis t ht).filter _);have T:(cG c ps t e).Pairwise (fun r r'=>r.getD 0 af≠r'.getD 0 af):=((List.mergeSort_perm _ _).pairwise_iff (fun k=>Ne.symm k)).2 (hd.filter _);have hs:(cG c ps t e).Pairwise (fun x y=>cL rW x y=true):=List.pairwise_mergeSort (le:=cL rW)
  (fun a b c h1 h2=>by
    simp only[cL,Bool.not_eq_true',decide_eq_false_iff_not] at h1 h2|-;have:=ord_keyF.tr a b c (by have:=ord_keyF.anti a b;omega) (by have:=ord_keyF.anti b c;omega);have:=ord_keyF.anti a c;omega)
  (fun a b=>by
    have:=ord_keyF.anti a b;simp only[cL,Bool.or_eq_true,Bool.not_eq_true',decide_eq_false_iff_not];omega) _
 refine(T.and hs).imp (fun{a b} k=> ?_);obtain⟨k1,k2⟩:=k;simp only[cL,Bool.not_eq_true',decide_eq_false_iff_not] at k2;have:=ord_keyF.anti a b;have:rW a b≠0:=fun k3=>k1 (nz k3)
 omega
def key_asym(a b:List A3)(h:rW a b<0): ¬rW b a<0:=by have:=ord_keyF.anti a b;omega
end
def getD_in(a b c:List A3){k:Nat}(h:a.length<=k)(h2:k - a.length<b.length):(a++(b++c)).getD k af=b.getD (k - a.length) af:=by
 rw[List.getD_eq_getElem?_getD,List.getD_eq_getElem?_getD,List.getElem?_append_right h,gL h2]
def choose_go2{c:B0}{ps:List Pg}{D:Str->List (List A3)}{t:A4}(h:DB c ps D)(ht:t∈c.ts)(pre:List A3){Hold:List A3->Prop}: ∀(l:List Ex),(∀p∈l,(bk p).2.2≠0-> ∀r∈D t.n,Hold r-> ∃q,rm (aC (pre++(r++q)) p)=1)->
 ∀(b:Way) (r:Int),wH t (D t.n) ps Hold b->wH t (D t.n) ps Hold (zy c t pre.length l b r)
 | [],_,b,_,hb=>hb
 |p::l,hl,b,rk,hb=>by
  rw[zy];have ih:=choose_go2 h ht pre l (fun q hq=>hl q (by simp[hq]));split
  · exact ih b rk hb
  rename_i hs;simp only[not_or,Int.not_lt,Int.not_le] at hs;obtain⟨s1,s2,s3⟩:=hs;have T: ∀r∈D t.n,Hold r->H0 (bk p).2.1 (r.getD ((bk p).1 - pre.length).toNat af) (bk p).2.2:=fun r hr hh=>by
   have ar:=(h.fit t ht r hr).1;obtain⟨q,hq⟩:=hl p sP s1 r hr hh;have:=Dw hq s1 C
   rwa [getD_in _ _ _ C C,show(bk p).1.toNat - pre.length=((bk p).1 - pre.length).toNat by omega] at this
  split
  · rename_i hv;exact FE h ht (fun r hr hh=>(T r hr hh).v0 hv)
  · refine ih _ _ ?_;have gv:=Dx s1;generalize aR:((bk p).1 - pre.length).toNat=k at T;have hk:(bk p).1 - (pre.length:Int)=(k:Int):=C;rw[hk] at s3|-;have ad:k<t.cols.length:=C;unfold gI;split
    · rename_i a;have k0:k=0:=C;subst k0;exact Kl h ht gv (fun r hr hh=>(T r hr hh).eq a.1.2)
    split
    · rename_i a;exact zo h ht ad gv (fun r hr hh=>(T r hr hh).eq a.1) c.is (fun x hx=>hx) b rk hb
    split
    · rename_i a;have k0:k=0:=C;subst k0;exact Kj h ht gv (fun r hr hh=>(T r hr hh).lt a.1.2)
    split
    · rename_i a;have k0:k=0:=C;subst k0;exact Kk h ht gv (fun r hr hh=>(T r hr hh).gt a.1.2)
    · exact hb
def choose_fine2{c:B0}{ps:List Pg}{D:Str->List (List A3)}{t:A4}(h:DB c ps D)(ht:t∈c.ts)(e:Ex):wH t (D t.n) ps (fun r=> ∃q,HW e (r++q)=true) (bO c t 0 e):=by
 refine choose_go2 h ht [] (cQ e) (fun p hp ad r hr T=> ?_) _ _ (Bl h ht);obtain⟨q,T⟩:=T;simp only[HW,Bool.or_eq_true,beq_iff_eq] at T;rcases T with h0|T
 · obtain⟨op,v,s,name,n,l⟩:=e;have h0:op=0:=h0;subst h0;rw[gW v s name n (fun e=>by have:=e.1;omega),List.mem_singleton] at hp;subst hp;exact absurd (by simp[bk,Ex.op_mk]) ad
 · exact⟨q,qf _ e T p hp⟩
def known_eval(x y:List A3): ∀e:Ex,aC (x++y) (bo x e)=aC (x++y) e
 | .mk op v s name n l=>by
   have T: ∀e∈l,aC (x++y) (bo x e)=aC (x++y) e:=fun e he=>known_eval x y e
   rw[mK];split
   · rename_i h;obtain⟨rfl,h1,h2⟩:=h;rw[eP,eP,oC,jo,if_pos U,uH,if_pos h1,gL C,List.getD_eq_getElem?_getD]
   · rw[eP,eP,List.map_map];congr 1
     exact List.map_congr_left (fun e he=>T e he)
 decreasing_by
  all_goals
   have:=List.sizeOf_lt_of_mem he;simp;omega
def known_op(x:List A3)(e:Ex):((bo x e).op==0)=(e.op==0):=by
 obtain⟨op,v,s,name,n,l⟩:=e;rw[mK];split
 · rename_i h;rw[Ex.op_mk,Ex.op_mk,h.1];rfl
 · rfl
def known_holds(x y:List A3)(e:Ex):bL (bo x e) (x++y)=bL e (x++y):=by
 unfold bL;rw[known_op,known_eval]
structure Tw (c c':B0) (ps ps':List Pg):Prop where
 ts:c'.ts=c.ts
 db: ∃D,EI c ps D/\EI c' ps' D
def find_same{c c':B0}(h:c'.ts=c.ts)(n:Str):ab c' n=ab c n:=by unfold ab;rw[h]
def good_cat{c:B0}{ps:List Pg}{D:Str->List (List A3)}(h:EI c ps D):dI c=true:=(sa c).2 h.db.cat
def bind_same{c c':B0}{ps ps':List Pg}(h:Tw c c' ps ps'){s:A9}(hk:s.kind≠2):aJ c' s=aJ c s:=by
 obtain⟨ht,D,h1,h2⟩:=h;have T:gh c' s=gh c s:=by unfold gh;rw[good_cat h1,good_cat h2]
 have hF:ab c'=ab c:=funext (find_same ht);have hp:eL c' s=eL c s:=by
  unfold eL px iH ce;rw[if_neg hk,if_neg hk,hF,ht]
 unfold aJ;rw[T,hp]
section
variable {c c':B0}{ps ps':List Pg}{D:Str->List (List A3)}
def keyMem(h:DB c ps D){t:A4}(k:Str)(hk:k.headD 0≠120):(getM ps k).2=true↔ ∃u∈c.ts,∃r∈D u.n,k=jD u r:=by
 rw[Ig h.good];constructor
 · rintro ⟨v,T⟩;obtain⟨u,hu,r,hr,h1|h1⟩:=(h.mem _ _).1 T
   · exact⟨u,hu,r,hr,h1.1⟩
   · obtain⟨x,hx,rfl⟩:=mM h1.1;exact absurd U hk
 · rintro ⟨u,hu,r,hr,h1⟩;exact⟨de r,(h.mem _ _).2 ⟨u,hu,r,hr,.inl ⟨h1,rfl⟩⟩⟩
def get_same(T:c'.ts=c.ts)(h:DB c ps D)(h':DB c' ps' D){t:A4}(n:Str)(v:A3):(getM ps' (ap n v)).2=(getM ps (ap n v)).2:=by
 have hh:(ap n v).headD 0≠120:=by show(114:UInt8)≠120;decide
 have a:=keyMem h (t:=t) (ap n v) hh;have b:=keyMem h' (t:=t) (ap n v) hh;rw[T] at b;exact Bool.eq_iff_iff.2 (b.trans a.symm)
def rows_len_same(T:c'.ts=c.ts)(h:DB c ps D)(h':DB c' ps' D){t:A4}(ht:t∈c.ts):(ci ps' t (eh t.n)).length=(ci ps t (eh t.n)).length:=by
 rw[(gR h ht).length_eq,(gR h' (T▸ht)).length_eq]
def add_twin(ar:c'.ts=c.ts)(h:EI c ps D)(h':EI c' ps' D){t:A4}(ht:t∈c.ts){row:List A3}(hl:row.length=t.cols.length)(aR: ∀(i:Nat) (cl:B8),t.cols[i]?=some cl->tQ cl.t (row.getD i af)):
 (jG c' ps' t row).2=(jG c ps t row).2/\ ∃D',EI c (jG c ps t row).1 D'/\EI c' (jG c' ps' t row).1 D':=by
 have a0:t∈c'.ts:=ar▸ht;have eg:=get_same ar h.db h'.db (t:=t) t.n (row.getD 0 af);have el:=rows_len_same ar h.db h'.db ht;by_cases hf:zn t row=false
 · unfold jG;rw[if_pos hf,if_pos hf];exact⟨rfl,D,h,h'⟩
 by_cases hk:(getM ps (ap t.n (row.getD 0 af))).2=true
 · unfold jG;rw[if_neg hf,if_neg hf,eg,if_pos hk,if_pos hk];exact⟨rfl,D,h,h'⟩
 by_cases T:30<=(ci ps t (eh t.n)).length
 · unfold jG;rw[if_neg hf,if_neg hf,eg,if_neg hk,if_neg hk,el,if_pos T,if_pos T];exact⟨rfl,D,h,h'⟩
 unfold jG;rw[if_neg hf,if_neg hf,eg,if_neg hk,if_neg hk,el,if_neg T,if_neg T];have ad:=Kg (h.db.cat.tabs t ht) hl aR (by simpa using hf);have one: ∀{c:B0} {ps:List Pg},EI c ps D->t∈c.ts->(getM ps (ap t.n (row.getD 0 af))).2=false->(ci ps t (eh t.n)).length<30->EI c (lp ps c t row) (yv D t.n (D t.n++ [row])):=fun{c ps} h ht hk T=>by
  have hp:=gR h.db ht;refine⟨h.db.put ht (sh ad) (Fv h.db ht hk),fun u hu=> ?_,fun u hu r hr=> ?_⟩
  · by_cases e:u.n=t.n
    · rw[e,cq,gV];have:=hp.length_eq;simp only[lC,List.length_nil];omega
    · rw[fk e];exact h.few u hu
  · by_cases e:u.n=t.n
    · have e':=h.db.cat.tinj hu ht e;subst e';rw[cq] at hr;rcases mA hr with hr|hr
      · exact h.fits u hu r hr
      · rw[List.mem_singleton.1 hr];exact ad
    · rw[fk e] at hr;exact h.fits u hu r hr
 exact⟨rfl,_,one h ht (by simpa using hk) C,one h' a0 (by rw[eg];simpa using hk) C⟩
def addGo_twin(T:c'.ts=c.ts){t:A4}(ht:t∈c.ts): ∀(l:List (List A3)) {ps ps':List Pg},(∃D,EI c ps D/\EI c' ps' D)->(∀r∈l,r.length=t.cols.length/\ ∀(i:Nat) (cl:B8),t.cols[i]?=some cl->tQ cl.t (r.getD i af))->
 (iL c' t ps' l).2=(iL c t ps l).2/\ ∃D,EI c (iL c t ps l).1 D/\EI c' (iL c' t ps' l).1 D
 | [],ps,ps',h,_=>⟨rfl,h⟩
 |r::l,ps,ps',⟨D,h,h'⟩,hl=>by
  have hr:=hl r (List.mem_cons_self ..);obtain⟨a1,a2⟩:=add_twin T h h' ht hr.1 hr.2;by_cases k:(jG c ps t r).2=0
  · rw[BX k,BX (by rw[a1];exact k)];exact addGo_twin T ht l a2 (fun r' ad=>hl r' (List.mem_cons_of_mem _ ad))
  · rw[BY k,BY (by rw[a1];exact k)];exact⟨a1,a2⟩
def chosen_same(T:c'.ts=c.ts)(h:DB c ps D)(h':DB c' ps' D){t:A4}(ht:t∈c.ts)(e:Ex):cG c' ps' t e=cG c ps t e:=
 rise_uniq key_asym (chosen_rise h' (T▸ht) e) (chosen_rise h ht e) (fun x=>by rw[nA h' (T▸ht),nA h ht])
def rows_same(ad:c'.ts=c.ts)(h:EI c ps D)(h':EI c' ps' D){t:A4}(ht:t∈c.ts):ci ps' t (eh t.n)=ci ps t (eh t.n):=by
 have T:t∈c'.ts:=ad▸ht;obtain⟨_,r1,_⟩:=CA h ht;obtain⟨_,r2,_⟩:=CA h' T;refine rise_uniq (R:=fun x y=>cA (x.getD 0 af) (y.getD 0 af)= -1) (fun a b k=> ?_) r2 r1 (fun x=>by rw[(gR h.db ht).mem_iff,(gR h'.db T).mem_iff]);have:=ord_cmpM.anti (a.getD 0 af) (b.getD 0 af);omega
def rows_nodup(h:DB c ps D){t:A4}(ht:t∈c.ts){W:Way}{Hold:List A3->Prop}(T:wH t (D t.n) ps Hold W):(ci ps t W).Pairwise (fun r r'=>r.getD 0 af≠r'.getD 0 af):=by
 obtain⟨_,P,hp,_⟩:=T;exact(hp.pairwise_iff (fun k=>Ne.symm k)).2 ((h.dis t ht).filter _)
def ne_nodup{l:List (List A3)}(h:l.Pairwise (fun r r'=>r.getD 0 af≠r'.getD 0 af)):l.Nodup:=h.imp (fun{a b} k e=>k (by rw[e]))
def sort_same{le:List A3->List A3->Bool}{l l':List (List A3)}(T:E4 le l)(hp:l.Perm l'):l.mergeSort le=l'.mergeSort le:=by
 have m1:=List.mergeSort_perm l le;have m2:=List.mergeSort_perm l' le;refine List.Perm.eq_of_pairwise (le:=fun x y=>le x y=true) (fun a b ha hb h1 h2=>T.anti a (m1.mem_iff.1 ha) b (hp.mem_iff.2 (m2.mem_iff.1 hb)) h1 h2) (List.pairwise_mergeSort (fun a b c=>T.tr a b c) T.tot l) (List.pairwise_mergeSort (fun a b c=>T.tr a b c) T.tot l') ?_;exact m1.trans (hp.trans m2.symm)
structure Two (c:B0) (ps:List Pg) (D:Str->List (List A3)) (t u:A4) (e:Ex) (J:List (List A3)):Prop where
 mem: ∀z,z∈J.filter (bL e)↔(∃x∈D t.n,∃y∈D u.n,z=x++y)/\bL e z=true
 nd:J.Nodup
def app_inj{x y T y2:List A3}(hl:x.length=T.length)(h:x++y=T++y2):x=T/\y=y2:=List.append_inj h hl
def two_of(h:DB c ps D){t u:A4}(ht:t∈c.ts)(hu:u∈c.ts)(e:Ex):Two c ps D t u e ((ci ps t (bO c t 0 e)).flatMap (fun x=>(ci ps u (bO c u (x.length:Int) (bo x e))).map (x++ ·))):=by
 have f1:=choose_fine2 h ht e;have n1:=rows_nodup h ht f1;obtain⟨_,P,hp,hP⟩:=f1;have hx: ∀x∈ci ps t (bO c t 0 e),x∈D t.n:=fun x k=>(List.mem_filter.1 (hp.mem_iff.1 k)).1
 refine⟨fun z=> ?_,?_⟩
 · rw[List.mem_filter];constructor
   · rintro ⟨k1,T⟩;obtain⟨x,kx,k3⟩:=List.mem_flatMap.1 k1;obtain⟨y,ky,rfl⟩:=mM k3;exact⟨⟨x,hx x kx,y,(rq h hu x (bo x e)).2.1 y ky,rfl⟩,T⟩
   · rintro ⟨⟨x,kx,y,ky,rfl⟩,T⟩;refine⟨List.mem_flatMap.2 ⟨x,hp.mem_iff.2 (List.mem_filter.2 ⟨kx,hP x kx ⟨y,T⟩⟩),List.mem_map.2 ⟨y,(rq h hu x (bo x e)).2.2.2 y ky (by rw[known_holds];exact T),rfl⟩⟩,T⟩
 · rw[List.nodup_iff_pairwise_ne,List.pairwise_flatMap];refine⟨fun x kx=> ?_,n1.imp_of_mem (fun{a b} ka kb k z hz z2 ad e2=> ?_)⟩
   · rw[List.pairwise_map];exact(ne_nodup (rows_nodup h hu (BL h hu x (bo x e)))).imp (fun{a b} k e2=>k (List.append_cancel_left e2))
   · obtain⟨y,_,rfl⟩:=mM hz;obtain⟨y2,_,rfl⟩:=mM ad;have ar:=(h.fit t ht a (hx a ka)).1;have aR:=(h.fit t ht b (hx b kb)).1;exact k (by rw[(app_inj C e2).1])
def select_same(ad:c'.ts=c.ts)(h:EI c ps D)(h':EI c' ps' D){s b:A9}(hS:Sel c s b):jM c' ps' b=jM c ps b:=by
 have bm: ∀m∈s.frm,(ab c m).2=true:=fun m hm=>by
  obtain⟨i,hi⟩:=List.getElem?_of_mem hm;exact hS.tab i m hi
 have bl:=hS.len;obtain⟨n0,a3⟩: ∃n0,s.frm[0]?=some n0:=⟨_,gG C⟩
 have hm:=(bU (hS.tab 0 n0 a3)).1;have ar:(ab c n0).1∈c'.ts:=ad▸hm;have a8:b.frm.getD 0 [] =n0:=by rw[hS.frm,List.getD_eq_getElem?_getD,a3];rfl
 have wide:=h.db.cat.wide hm;unfold jM;rw[find_same ad,a8];unfold Al;have a9:((og c' ps' b (ci ps' (ab c n0).1 (bO c' (ab c n0).1 0 b.wh))).filter (bL b.wh)).mergeSort (cL (dc b (ab c n0).1.cols.length))=((og c ps b (ci ps (ab c n0).1 (bO c (ab c n0).1 0 b.wh))).filter (bL b.wh)).mergeSort (cL (dc b (ab c n0).1.cols.length)):=by
  symm
  by_cases h2:s.frm.length=2
  · obtain⟨n1,a4⟩: ∃n1,s.frm[1]?=some n1:=⟨_,gG C⟩
    have aR:=(bU (hS.tab 1 n1 a4)).1;have a5:(ab c n1).1∈c'.ts:=ad▸aR;have a6:b.frm.getD 1 [] =n1:=by rw[hS.frm,List.getD_eq_getElem?_getD,a4];rfl
    have T:b.frm.length=2:=by rw[hS.frm];exact h2
    have k1:=two_of h.db hm aR b.wh;have k2:=two_of h'.db ar a5 b.wh;have e1:og c ps b (ci ps (ab c n0).1 (bO c (ab c n0).1 0 b.wh))=(ci ps (ab c n0).1 (bO c (ab c n0).1 0 b.wh)).flatMap (fun x=>(ci ps (ab c n1).1 (bO c (ab c n1).1 (x.length:Int) (bo x b.wh))).map (x++ ·)):=by rw[og,if_pos T,a6]
    have e2:og c' ps' b (ci ps' (ab c n0).1 (bO c' (ab c n0).1 0 b.wh))=(ci ps' (ab c n0).1 (bO c' (ab c n0).1 0 b.wh)).flatMap (fun x=>(ci ps' (ab c n1).1 (bO c' (ab c n1).1 (x.length:Int) (bo x b.wh))).map (x++ ·)):=by rw[og,if_pos T,a6,find_same ad]
    rw[e1,e2];have hp:=(List.perm_ext_iff_of_nodup (k1.nd.filter (bL b.wh)) (k2.nd.filter (bL b.wh))).2 (fun z=>by rw[k1.mem,k2.mem]);refine sort_same (xu (fun z hz z2 a0 a1 a2=> ?_)) hp;obtain⟨x,hx,y,hy,rfl⟩:=((k1.mem z).1 hz).1;obtain⟨x2,a7,y2,ba,rfl⟩:=((k1.mem z2).1 a0).1;have l1:=(h.db.fit _ hm x hx).1;have l2:=(h.db.fit _ hm x2 a7).1;have a2:=a2 C;have g0: ∀(x y:List A3),x.length=(ab c n0).1.cols.length->(x++y).getD 0 af=x.getD 0 af/\(x++y).getD (ab c n0).1.cols.length af=y.getD 0 af:=fun x y hl=>by
     refine⟨?_,?_⟩
     · rw[List.getD_eq_getElem?_getD,List.getD_eq_getElem?_getD,gL C]
     · rw[List.getD_eq_getElem?_getD,List.getD_eq_getElem?_getD,List.getElem?_append_right C,hl,Nat.sub_self]
    rw[(g0 x y l1).1,(g0 x2 y2 l2).1] at a1;rw[(g0 x y l1).2,(g0 x2 y2 l2).2] at a2;rw[sq (h.db.dis _ hm) hx a7 a1,sq (h.db.dis _ aR) hy ba a2]
  · have T:b.frm.length≠2:=by rw[hS.frm];exact h2
    rw[og,if_neg T,og,if_neg T];obtain⟨_,f2,_,f4⟩:=jX h.db hm b.wh;obtain⟨_,bh,_,bi⟩:=jX h'.db ar b.wh;have d1:=ne_nodup (rows_nodup h.db hm (BL h.db hm [] b.wh));have d2:=ne_nodup (rows_nodup h'.db ar (BL h'.db ar [] b.wh));have hp:=(List.perm_ext_iff_of_nodup (d1.filter (bL b.wh)) (d2.filter (bL b.wh))).2 (fun z=>by
     rw[List.mem_filter,List.mem_filter];exact⟨fun k=>⟨bi z (f2 z k.1) k.2,k.2⟩,fun k=>⟨f4 z (bh z k.1) k.2,k.2⟩⟩)
    refine sort_same (xu (fun z hz z2 a0 a1 _=> ?_)) hp;exact sq (h.db.dis _ hm) (f2 z (List.mem_filter.1 hz).1) (f2 z2 (List.mem_filter.1 a0).1) a1
 rw[a9]
def one_twin(T:c'.ts=c.ts)(h:EI c ps D)(h':EI c' ps' D){s b:A9}(ba:s.kind≠2)(hb:aJ c s=(b,0))(a7:aJ c' s=(b,0)):
 (cK c' ps' b).rep=(cK c ps b).rep/\(cK c' ps' b).e=(cK c ps b).e/\Tw (cK c ps b).cat (cK c' ps' b).cat (cK c ps b).ps (cK c' ps' b).ps:=by
 obtain⟨hg,a8,hp⟩:=ee hb;have hW:=qt hb;have a4:=qt a7;have hk:=eD hp;have bh:=hk.1;have hF:=find_same T;by_cases h1:s.kind=1
 · have a1:=uL (.inl h1) hp;subst a1;have e: ∀(c:B0) (ps:List Pg),cK c ps b=⟨bD c b,ps,ln,0⟩:=fun c ps=>by simp[cK,h1]
   rw[e,e];rw[eL,if_pos h1] at hp;have he:=(Prod.mk.inj hp).2;unfold px at he;split at he
   · cases he
   split at he
   · cases he
   rename_i hn;have a2: ∀c:B0,(bD c b).ts=c.ts.take (aX (c.ts.map A4.n) b.name)++⟨b.name,b.cols⟩::c.ts.drop (aX (c.ts.map A4.n) b.name):=fun c=>by simp[bD,h1]
   have ad: ∀t∈c.ts,t.n≠b.name:=findT_none.1 (by simpa using hn);have one: ∀{c:B0} {ps:List Pg},EI c ps D->C5 (bD c b)->(∀t∈c.ts,t.n≠b.name)->EI (bD c b) ps (yv D b.name []):=fun{c ps} h hW ad=>by
    have T: ∀t,t∈(bD c b).ts↔t=⟨b.name,b.cols⟩\/t∈c.ts:=fun t=>by rw[a2];exact ins_mem
    refine⟨h.db.create hW T (by simp[bD,h1]) ad,fun t ht=> ?_,fun t ht r hr=> ?_⟩
    · rcases(T t).1 ht with rfl|ar
      · rw[cq];simp
      · rw[fk (ad t ar)];exact h.few t ar
    · rcases(T t).1 ht with rfl|ar
      · rw[cq] at hr;cases hr
      · rw[fk (ad t ar)] at hr;exact h.fits t ar r hr
   exact⟨rfl,rfl,by show(bD c' b).ts=(bD c b).ts;rw[a2,a2,T],_,one h hW.good ad,one h' a4.good (T▸ad)⟩
 by_cases h3:s.kind=3
 · have a1:=uL (.inr (.inr h3)) hp;subst a1;have e: ∀(c:B0) (ps:List Pg),cK c ps b=⟨bD c b,cg (c:=c) (t:=(ab c b.name).1) (ci ps (ab c b.name).1 (eh (ab c b.name).1.n)) ps,ln,0⟩:=fun c ps=>by simp[cK,h3]
   rw[e,e,hF];rw[eL,if_neg C,if_neg C,if_pos h3] at hp;have he:=(Prod.mk.inj hp).2;cases hf:(ab c b.name).2 with
   |false=>rw[hf] at he;simp at he
   |true=>
    obtain⟨hm,hn⟩:=bU hf;have one: ∀{c:B0} {ps:List Pg} {t:A4},EI c ps D->C5 (bD c b)->t∈c.ts->t.n=b.name->EI (bD c b) (cg c t (ci ps t (eh t.n)) ps) (yv D b.name []):=fun{c ps t} h hW hm hn=>by
     have a5:=gR h.db hm;have hE:=h.drops hm (R:=ci ps t (eh t.n)) (L':= []) (fun r hr=>a5.mem_iff.1 hr) (fun r=>⟨fun h=>(by cases h),fun h=>absurd (a5.mem_iff.2 h.1) h.2⟩) (List.nil_sublist _);rw[hn] at hE;have T: ∀t,t∈(bD c b).ts↔t∈c.ts/\t.n≠b.name:=fun t=>by simp[bD,h3]
     rw[hn];exact⟨hE.db.drop hW T (fun x=>by simp[bD,h3]) (cq _ _ _),fun t ht=>hE.few t ((T t).1 ht).1,fun t ht=>hE.fits t ((T t).1 ht).1⟩
    exact⟨rfl,rfl,by show(bD c' b).ts=(bD c b).ts;simp[bD,h3,T],_,one h hW.good hm hn,one h' a4.good (T▸hm) hn⟩
 by_cases h7:s.kind=7
 · have e: ∀(c:B0) (ps:List Pg),cK c ps b=⟨c,ps,⟨0,0,jM c ps b⟩,0⟩:=fun c ps=>by
    rw[cK,if_neg C,if_neg C,if_neg C,if_neg C,if_neg C,if_pos C]
   rw[e,e,select_same T h h' (He h7 hp)];exact⟨rfl,rfl,T,D,h,h'⟩
 have bi:=sd (py hb).1;have a0:s.kind=4\/s.kind=5\/s.kind=6:=C;have hC:=zx a0 hp;have hU:=Cn a0 hb;obtain⟨hm,hn⟩:=bU hC.tab;have a3:b.table=s.table:=by rw[hC.eq]
 by_cases h4:s.kind=4
 · have e: ∀(c:B0) (ps:List Pg),cK c ps b=⟨c,(nH c ps (ab c b.table).1 b).1,⟨0,if(nH c ps (ab c b.table).1 b).2=0 then(b.rows.length:Int) else 0,[]⟩,(nH c ps (ab c b.table).1 b).2⟩:=fun c ps=>by
    rw[cK,if_neg C,if_neg C,if_pos C]
   rw[e,e,hF,a3];have k:=addGo_twin T hm (b.rows.map fun r=>r.map (aC [])) ⟨D,h,h'⟩ (fun r hr=>by
    obtain⟨r',a6,rfl⟩:=mM hr;rw[hC.eq] at a6;obtain⟨r0,aR,rfl⟩:=mM a6;have h0:=mS hC.rowsE _ (List.mem_map_of_mem (f:=fun r=>(eH (ab c s.table).1 r).2) aR);obtain⟨h5,h6⟩:=Au h0 (fun e he=>a8 e (by
     simp only[dq,List.mem_append];exact .inl (.inl (.inr (List.mem_flatten.2 ⟨r0,aR,he⟩)))))
    exact⟨by rw[lM];exact h5,h6⟩)
   have k1:(nH c' ps' (ab c s.table).1 b).2=(nH c ps (ab c s.table).1 b).2:=k.1;rw[k1];exact⟨rfl,rfl,T,k.2⟩
 by_cases h5:s.kind=5
 · have e: ∀(c:B0) (ps:List Pg),cK c ps b=⟨c,cg c (ab c b.table).1 (cG c ps (ab c b.table).1 b.wh) ps,⟨0,((cG c ps (ab c b.table).1 b.wh).length:Int),[]⟩,0⟩:=fun c ps=>by
    rw[cK,if_neg C,if_neg C,if_neg C,if_pos C]
   have e1:=chosen_same T h.db h'.db hm b.wh;have i1:=h.drop_chosen hm b.wh;have i2:=h'.drop_chosen (t:=(ab c s.table).1) (T▸hm) b.wh;rw[e,e,hF,a3,e1];rw[e1] at i2;exact⟨rfl,rfl,T,_,i1,i2⟩
 · have e: ∀(c:B0) (ps:List Pg),cK c ps b=⟨c,(ru c ps (ab c b.table).1 b (cG c ps (ab c b.table).1 b.wh)).1,⟨0,if(ru c ps (ab c b.table).1 b (cG c ps (ab c b.table).1 b.wh)).2=0 then((cG c ps (ab c b.table).1 b.wh).length:Int) else 0,[]⟩,(ru c ps (ab c b.table).1 b (cG c ps (ab c b.table).1 b.wh)).2⟩:=fun c ps=>by
    rw[cK,if_neg C,if_neg C,if_neg C,if_neg C,if_pos C]
   have e1:=chosen_same T h.db h'.db hm b.wh;have i1:=h.drop_chosen hm b.wh;have i2:=h'.drop_chosen (t:=(ab c s.table).1) (T▸hm) b.wh;rw[e,e,hF,a3,e1];rw[e1] at i2;have k:=addGo_twin T hm ((cG c ps (ab c s.table).1 b.wh).map (cP (ab c s.table).1 b.sets)) ⟨_,i1,i2⟩ (fun r hr=>by
    obtain⟨r0,aR,rfl⟩:=mM hr;have a9:=((nA h.db hm b.wh r0).1 aR).1;exact DS hU (h.fits _ hm r0 a9))
   have k1:(ru c' ps' (ab c s.table).1 b (cG c ps (ab c s.table).1 b.wh)).2=(ru c ps (ab c s.table).1 b (cG c ps (ab c s.table).1 b.wh)).2:=k.1;rw[k1];exact⟨rfl,rfl,T,k.2⟩
end
def doGo_twin: ∀(l:List A9) {c c':B0} {ps ps':List Pg} (r:D3) (i:Int),Tw c c' ps ps'->(∀s∈l,s.kind≠2)->
 (match ib c ps r i l,ib c' ps' r i l with
 | .error e,.error e'=>e=e'
 | .ok x,.ok T=>x.2.2=T.2.2/\Tw x.1 T.1 x.2.1 T.2.1
 |_,_=>False)
 | [],c,c',ps,ps',r,i,h,_=>by
   rw[ib,ib];exact⟨rfl,h⟩
 |s::l,c,c',ps,ps',r,i,h,hk=>by
  have hb:=bind_same h (hk s (List.mem_cons_self ..));rw[ib,ib,hb];by_cases h1:(aJ c s).2≠0
  · rw[if_pos h1,if_pos h1]
  rw[if_neg h1,if_neg h1];have h0:=Decidable.not_not.1 h1;obtain⟨ad,D,d1,d2⟩:=h;obtain⟨t1,t2,t3⟩:=one_twin ad d1 d2 (hk s (List.mem_cons_self ..)) (b:=(aJ c s).1) (Prod.ext U h0) (by rw[hb];exact Prod.ext U h0);rw[t1,t2];by_cases h2:(cK c ps (aJ c s).1).e≠0
  · rw[if_pos h2,if_pos h2]
  rw[if_neg h2,if_neg h2];exact doGo_twin l _ _ t3 (fun s' ar=>hk s' (List.mem_cons_of_mem _ ar))
end Go.Proofs.Y
namespace Go.Proofs.Y
open Go.Abs Go.Proofs.Tryz
attribute [local irreducible] L Code.wp bodyPost Exit.then Exit.inBlock
def zS:Str:= [122,122,122,122,122,122,122,122]
def zS_named:bF zS=true:=by first|rfl|kernel_rfl|simp[bF,zS,iP,words]
def mkS(t c:Str):A9:={ia with kind:=2,name:=zS,table:=t,col:=c}
def at_not2{a w:Str}{x:List Str}{b:Bool}{u:Str}(h:w≠u):ak ⟨a::w::x,b⟩ [a,u] =(false,⟨a::w::x,b⟩):=by
 unfold ak;dsimp only;split
 · rfl
 · rw[if_neg];intro e;rw[eqSl_iff] at e;simp at e;exact h e
def ps_mark{t c:Str}(ht:bF t=true)(hc:bF c=true):cj ([99,114,101,97,116,101,32,105,110,100,101,120,32] ++zS++ [32,111,110,32] ++t++ [32,40] ++c++ [41,59])=([mkS t c],0):=by
 have e:([99,114,101,97,116,101,32,105,110,100,101,120,32] ++zS++ [32,111,110,32] ++t++ [32,40] ++c++ [41,59])=bq++32::(ew++32::(zS++32::(wON++32::(t++32::40::(c++41::59:: []))))):=by simp[bq,ew,wON]
 have T: ∀r,cW (40::r)=(cW r).map ([40]:: ·):=split_one dD dD dD dD dD;have ad: ∀r,cW (41::r)=(cW r).map ([41]:: ·):=split_one dD dD dD dD dD;have hs:cW ([99,114,101,97,116,101,32,105,110,100,101,120,32] ++zS++ [32,111,110,32] ++t++ [32,40] ++c++ [41,59])=some [bq,ew,zS,wON,t,[40],c,[41],[59]]:=by
  rw[e,split_low dD dD U,split_sp,split_low dD dD U,split_sp,split_name zS_named U,split_sp,split_low dD dD U,split_sp,split_name ht U,split_sp,T,split_name hc U,ad,split_semi,rB];rfl
 have n1:=named_len8 ht;have n2:=named_len8 hc;refine ps_one hs sP (by simp[zS];omega) ?_;unfold fe;rw[at_not2 dD,if_neg Bool.false_ne_true,at_two,if_pos U];unfold rH qE;rw[name_read zS_named];dsimp only;unfold aL;rw[at_one,if_pos U,name_read ht];dsimp only;unfold tO aL;rw[name_read ht];dsimp only;rw[at_one,if_pos U,name_read hc];dsimp only;rw[at_one,if_pos U];rfl
def mark_twin{c:B0}{ps:List Pg}{D:Str->List (List A3)}(h:EI c ps D){b s:A9}(hb:aJ c s=(b,0))(h2:s.kind=2):Tw c (cK c ps b).cat ps (cK c ps b).ps/\(cK c ps b).e=0/\(cK c ps b).rep=ln:=by
 obtain⟨hg,aR,hp⟩:=ee hb;have hW:=qt hb;have ar:=uL (.inr (.inl h2)) hp;subst ar;have e:cK c ps b=⟨bD c b,AN (bD c b) ps (ab c b.table).1,ln,0⟩:=by simp[cK,h2]
 rw[e];rw[eL,if_neg C,if_pos h2] at hp;have he:=(Prod.mk.inj hp).2;unfold va at he;split at he
 · cases he
 split at he
 · cases he
 rename_i ht;simp only[not_or,Bool.not_eq_false,Int.not_lt] at ht;obtain⟨hm,hn⟩:=bU ht.1;have T:(bD c b).ts=c.ts:=by simp[bD,h2]
 refine⟨⟨T,D,h,h.db.mark hW.good (x:=⟨b.name,b.table,b.col⟩) T (fun y=> ?_) hm hn.symm (fun r=>(gR h.db hm).mem_iff),fun t ad=>h.few t (T▸ad),fun t ad=>h.fits t (T▸ad)⟩,rfl,rfl⟩;have:(bD c b).is=c.is.take (aX (c.is.map A7.n) b.name)++⟨b.name,b.table,b.col⟩::c.is.drop (aX (c.is.map A7.n) b.name):=by simp[bD,h2]
 rw[this];exact ins_mem
def plans_law{g:C0}(hg:B6 g)(hn:g.n+2<150){t c:Str}(ht:bF t=true)(hc:bF c=true){Z:C0×D3}(hZ:fz g ([99,114,101,97,116,101,32,105,110,100,101,120,32] ++zS++ [32,111,110,32] ++t++ [32,40] ++c++ [41,59])=Z)(h0:Z.2.code=0)(x:Str):
 ((cj x).2≠0->(fz g x).2.code=(cj x).2/\(fz Z.1 x).2.code=(cj x).2)/\
 ((cj x).2=0->(∀s∈(cj x).1,s.kind≠2)->(fz Z.1 x).2=(fz g x).2/\(fz Z.1 x).1.cat.ts=(fz g x).1.cat.ts/\ ∀u∈(fz g x).1.cat.ts,ci (fz Z.1 x).1.ps u (eh u.n)=ci (fz g x).1.ps u (eh u.n)):=by
 obtain⟨cat,ps,n⟩:=g;obtain⟨_,D,hd⟩:=hg;dsimp only at hn hd;have hX:=ps_mark ht hc;rw[zr C] at hZ;have hw: ∃T ps',Tw cat T ps ps'/\Z=(⟨T,ps',n+1⟩,ln):=by
  unfold Ag at hZ;rw[hX] at hZ;dsimp only at hZ;rw[if_neg sP,ib] at hZ;by_cases hb:(aJ cat (mkS t c)).2=0
  · obtain⟨k1,k2,k3⟩:=mark_twin hd (b:=(aJ cat (mkS t c)).1) (s:=mkS t c) (Prod.ext U hb) U;rw[if_neg (fun k=>k hb),k2,if_neg (fun k=>k U),ib,k3] at hZ;exact⟨_,_,k1,hZ.symm⟩
  · rw[if_pos hb] at hZ;subst hZ;exact absurd h0 hb
 obtain⟨T,ps',ad,rfl⟩:=hw;refine⟨fun he=>⟨Md oD he,Md oD he⟩,fun he hk=> ?_⟩;have key:=doGo_twin (cj x).1 ln 0 ad hk;rw[zr (show n<150 by omega),zr (show n+1<150 by omega)];unfold Ag;rw[if_neg (fun k=>k he),if_neg (fun k=>k he)];have ar: ∀{c c':B0} {p p':List Pg},Tw c c' p p'->c'.ts=c.ts/\ ∀u∈c.ts,ci p' u (eh u.n)=ci p u (eh u.n):=fun{c c' p p'} k=>by
  obtain⟨a,E,e1,e2⟩:=k;exact⟨a,fun u hu=>rows_same a e1 e2 hu⟩
 cases h1:ib cat ps ln 0 (cj x).1 with
 |error e1=>
  cases h2:ib T ps' ln 0 (cj x).1 with
  |error e2=>
   rw[h1,h2] at key;dsimp only at key|-;subst key;exact⟨rfl,ar ad⟩
  |ok r2=>rw[h1,h2] at key;exact key.elim
 |ok r1=>
  cases h2:ib T ps' ln 0 (cj x).1 with
  |error e2=>rw[h1,h2] at key;exact key.elim
  |ok r2=>
   rw[h1,h2] at key;dsimp only at key|-;exact⟨key.1.symm,ar key.2⟩
variable [C3]
def topPlans_any(l:List Str)(hl:l.length<=140737488355328)(x t c:Str)(a5:t.length<=140737488355328)(bW:c.length<=140737488355328):
 CallG cH prog 6 [.iv (.sl (l.map Str.c)),aS x,aS t,aS c] [] [] [] (aB true):=by
 have hg:=play_ok l;have hn:=Lw l;have k1:=play_any l hl;have k2:=(play_any l hl).sws [(1010,1011)] (args2:= [.iv (.sl (l.map Str.c)),.fn 16 []]) (bx2:= []) (bx2':= [(1011,(playM l).b)]) (tk2':= []) (res2:= .tup [.ptr 1011 0,aB true]) U U U U U;generalize playM l=g at*
 have kt:=Cc (jd t a5);have kc:=Cc (jd c bW);refine iG func6 ntmps6 (fun w0 E0 T=> ?_);cases ht:bF t with
 |false=>
  rw[ht] at kt;(repeat' first|intro hb hp|refine ac [1010] rfl T k1 fS .nil rfl rfl rfl rfl ?_|refine ac [1011] rfl T k2 fS .nil rfl rfl rfl rfl ?_|refine LW.is (dK (ha:=rfl) U T kt U ?_)|refine am ?_|refine al ?_ ?_|fail)
  all_goals exact L.ends U U sE wK
 |true=>
 rw[ht] at kt;cases hc:bF c with
 |false=>
  rw[hc] at kc;(repeat' first|intro hb hp|refine ac [1010] rfl T k1 fS .nil rfl rfl rfl rfl ?_|refine ac [1011] rfl T k2 fS .nil rfl rfl rfl rfl ?_|(refine LW.is ?_;first|refine dK (ha:=rfl) U T kt U ?_|refine dK (ha:=rfl) U T kc U ?_)|refine am ?_|refine al ?_ ?_|fail)
  all_goals exact L.ends U U sE wK
 |true=>
 rw[hc] at kc;have a4:=catalog_all g hg;obtain⟨c1,c2,c3⟩:=cat_wide hg;have b9:(g.cat.is.map A7.c).length<=1000:=by rw[lM];exact c2
 have n1:=named_len8 ht;have n2:=named_len8 hc;have cb:zS.length=8:=rfl;(repeat' first|intro hb hp|refine ac [1010] rfl T k1 fS .nil rfl rfl rfl rfl ?_|refine ac [1011] rfl T k2 fS .nil rfl rfl rfl rfl ?_|refine ac [] rfl T a4 fS B1 rfl rfl rfl rfl ?_|(refine LW.is ?_;first|refine dK (ha:=rfl) U T kt U ?_|refine dK (ha:=rfl) U T kc U ?_)|refine am ?_|refine al ?_ ?_|fail)
 clear k1 k2 kt kc a4;refine ae (ι:=Nat) (fun i=>⟨[(52,aI (i:Int)),(51,aI ((g.cat.is.map A7.c).length:Int)),(50,.iv (.sl (g.cat.is.map A7.c))),(13,aS zS),(11,.ptr 1011 0),(9,.ptr 1010 0),(3,aS c),(2,aS t),(1,aS x)],[(1010,g.b),(1011,g.b)],[]⟩) (fun i=>g.cat.is.length - i) (fun _=>True) (i0:=0) ?_ trivial ?_
 · exact wL
 intro i _ K hK;cases hx:g.cat.is[i]? with
 |some bh=>
  have a5:=fZ (l:=g.cat.is.map A7.c) (cM (f:=A7.c) hx);have b8:=fM hx;have g1:(g.cat.is.map A7.c)[((i:Nat):Int).toNat]?=some bh.c:=by rw[iN,gP,hx];rfl
  cases hz:(bh.n==zS) with
  |true=>
   clear hK;refine wz ?_;all_goals exact L.ends U U sE wK
  |false=>
   refine wz ?_;exact hK _ (i+1) trivial C wL
 |none=>
 have a5:=gc (l:=g.cat.is.map A7.c) (bz hx);clear hK;have kd:=(oI g hg ([99,114,101,97,116,101,32,105,110,100,101,120,32] ++zS++ [32,111,110,32] ++t++ [32,40] ++c++ [41,59])).sws [(1010,1011)] (args2:= [.ptr 1011 0,.agg [aS ([99,114,101,97,116,101,32,105,110,100,101,120,32] ++zS++ [32,111,110,32] ++t++ [32,40] ++c++ [41,59])]]) (bx2:= [(1011,g.b)]) (bx2':= [(1011,(fz g ([99,114,101,97,116,101,32,105,110,100,101,120,32] ++zS++ [32,111,110,32] ++t++ [32,40] ++c++ [41,59])).1.b)]) (tk2':= []) (res2:=(fz g ([99,114,101,97,116,101,32,105,110,100,101,120,32] ++zS++ [32,111,110,32] ++t++ [32,40] ++c++ [41,59])).2.av) U U U U U;have bi:=la hg ([99,114,101,97,116,101,32,105,110,100,101,120,32] ++zS++ [32,111,110,32] ++t++ [32,40] ++c++ [41,59]);have ar:=fun h0=>plans_law hg C ht hc U h0 x
 generalize fz g ([99,114,101,97,116,101,32,105,110,100,101,120,32] ++zS++ [32,111,110,32] ++t++ [32,40] ++c++ [41,59])=Z1 at*
 by_cases h0:Z1.2.code=0
 case neg=>
  have q:(Z1.2.code !=0)=true:=by simpa using h0
  clear ar;(repeat' first|intro hb hp|refine ac [] rfl T kd fS B1 rfl rfl rfl rfl ?_|refine am ?_|refine al ?_ ?_|fail)
  all_goals exact L.ends U U sE wK
 have q0:(Z1.2.code !=0)=false:=by rw[h0];rfl
 obtain⟨a6,a7⟩:=ar h0;clear ar;have kp:=uu x;have b1:=ur x;have a0:=oI g hg x;have aR:=la hg x;have bl:=Bs hg x;have a3:=(oI Z1.1 bi x).sws [(1010,1011)] (args2:= [.ptr 1011 0,.agg [aS x]]) (bx2:= [(1011,Z1.1.b)]) (bx2':= [(1011,(fz Z1.1 x).1.b)]) (tk2':= []) (res2:=(fz Z1.1 x).2.av) U U U U U;have a8:=la bi x;generalize cj x=P at*
 obtain⟨S,e⟩:=P;dsimp only at kp b1 a6 a7;generalize fz g x=A at*
 obtain⟨ga,ra⟩:=A;generalize fz Z1.1 x=B at*
 obtain⟨gb,bm⟩:=B;dsimp only at*
 (repeat' first|intro hb hp|refine ac [] rfl T kd fS B1 rfl rfl rfl rfl ?_|refine dK (ha:=rfl) U T kp U ?_|refine am ?_|refine al ?_ ?_|fail)
 clear kd kp;refine ae (ι:=Nat) (fun i=>⟨[(82,aI (i:Int)),(81,aI ((S.map A9.cs).length:Int)),(80,.iv (.sl (S.map A9.cs))),(17,aI e),(11,.ptr 1011 0),(9,.ptr 1010 0),(1,aS x)],[(1010,g.b),(1011,Z1.1.b)],[]⟩) (fun i=>S.length - i) (fun i=> ∀s∈S.take i,s.kind≠2) (i0:=0) ?_ sP ?_
 · exact wL
 intro j hj K2 a9;cases hy:S[j]? with
 |some s=>
  have bp:=fZ (l:=S.map A9.cs) (cM (f:=A9.cs) hy);have b2:=fM hy;have g1:(S.map A9.cs)[((j:Nat):Int).toNat]?=some s.cs:=by rw[iN,gP,hy];rfl
  clear a0 a3;by_cases h2:s.kind=2
  · have q:(s.kind==2)=true:=by rw[h2];rfl
    clear a9;refine wz ?_;all_goals exact L.ends U U sE wK
  · have q:(s.kind==2)=false:=by simpa using h2
    refine wz ?_;exact a9 _ (j+1) (fun y ad=>by
     rw[dv hy] at ad;rcases mA ad with ad|ad
     · exact hj y ad
     · rw[List.mem_singleton.1 ad];exact h2) C wL
 |none=>
 have bp:=gc (l:=S.map A9.cs) (bz hy);rw[br hy] at hj;clear a9;by_cases he:e=0
 case neg=>
  have q:(e !=0)=true:=by simpa using he
  obtain⟨a1,a2⟩:=a6 he;have q1:(ra.code==e)=true:=by rw[a1];simp
  have q2:(bm.code==e)=true:=by rw[a2];simp
  (repeat' first|intro hb hp|refine ac [] rfl T a0 fS B1 rfl rfl rfl rfl ?_|refine ac [] rfl T a3 fS B1 rfl rfl rfl rfl ?_|refine am ?_|refine al ?_ ?_|fail)
  all_goals exact L.ends U U (by first|exact sE|exact Sub.of_eq (congrArg (fun b=>aB b) q2)) wK
 subst he;obtain⟨e1,e2,e3⟩:=a7 U hj;subst e1;clear a6 a7;have kr:=sameReply_any bm (by have:=bl.1;omega) (fun y hy=>by have:=bl.2 y hy;omega);have bP:=catalog_all ga aR;obtain⟨d1,d2,d3⟩:=cat_wide aR;have cc:(ga.cat.ts.map A4.c).length<=1000:=by rw[lM];exact d1
 (repeat' first|intro hb hp|refine ac [] rfl T a0 fS B1 rfl rfl rfl rfl ?_|refine ac [] rfl T a3 fS B1 rfl rfl rfl rfl ?_|refine ac [] rfl T bP fS B1 rfl rfl rfl rfl ?_|refine am ?_|refine al ?_ ?_|fail)
 clear a0 a3 kr bP;have b3:=zW ga aR;have b4:=(zW gb a8).sws [(1010,1011)] (args2:= [.ptr 1011 0]) (bx2:= [(1011,gb.b)]) (bx2':= [(1011,gb.b)]) (tk2':= []) (res2:= .agg [.iv (.sl (gb.ps.map Pg.c))]) U U U U U;obtain⟨p1,_,_⟩:=AF aR;obtain⟨p2,_,_⟩:=AF a8;obtain⟨_,D,hD⟩:=aR;obtain⟨_,D2,b5⟩:=a8;refine ae (ι:=Nat) (fun i=>⟨[(124,aI (i:Int)),(123,aI ((ga.cat.ts.map A4.c).length:Int)),(122,.iv (.sl (ga.cat.ts.map A4.c))),(11,.ptr 1011 0),(9,.ptr 1010 0)],[(1010,ga.b),(1011,gb.b)],[]⟩) (fun i=>ga.cat.ts.length - i) (fun _=>True) (i0:=0) ?_ trivial ?_
 · exact wL
 intro k _ K3 bR;cases hw:ga.cat.ts[k]? with
 |none=>
  have bS:=gc (l:=ga.cat.ts.map A4.c) (bz hw);clear bR;refine wz ?_;all_goals exact L.ends U U sE wK
 |some u=>
  have bS:=fZ (l:=ga.cat.ts.map A4.c) (cM (f:=A4.c) hw);have b6:=fM hw;have hu:=gE hw;have g1:(ga.cat.ts.map A4.c)[((k:Nat):Int).toNat]?=some u.c:=by rw[iN,gP,hw];rfl
  have ba:u.n.length<=140737488355328:=by have:=fw (hD.db.cat.tname hu);omega
  have kA:=oR u.n ba;have ch:=pb ga.ps u (eh u.n) C hD.db.small ba (by simp[eh]);have b7:=pb gb.ps u (eh u.n) C b5.db.small ba (by simp[eh]);rw[e3 u hu] at b7;obtain⟨r1,_,r3⟩:=CA hD hu;have cR:=d3 u hu;have kS:=sameRows_any (ci ga.ps u (eh u.n)) C (fun r hr=>by
   have:=(sh (r3 r hr)).1;omega)
  generalize ci ga.ps u (eh u.n)=R at*
  (repeat' first|intro hb hp|(refine DR.is ?_;first|refine BC U T b3 U U U U U ?_|refine BC U T b4 U U U U U ?_)|refine am ?_|refine al ?_ ?_|fail)
  exact bR _ (k+1) trivial C wL
end Go.Proofs.Y
