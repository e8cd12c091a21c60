/- Lemmas towards the law. Conditions: each one says its own. -/
import Derived.Test.YtnhmohbhgocbjaaGreatDoorZT17
import Derived.Test.YtnhmohbhgocbjaaGreatDoorZT18
import Derived.LaidMore
import Derived.MakeChecks
import Derived.Stop.LaidErr
import Derived.Lib.LaidTab
set_option linter.all false
set_option maxHeartbeats 64000000
set_option maxRecDepth 100000
namespace Go.Proofs.Y
open Go.Abs Go.Proofs.Tryz
attribute [local irreducible] L Code.wp bodyPost Exit.then Exit.inBlock
def cP(t:Tab)(l:List Ast)(row:List Val):List Val:=l.foldl (fun own x=>own.set (aU t x.co).toNat (aC row x.e)) row
def Et{t:Tab}{row:List Val}: ∀(l:List Ast) (own:List Val),(l.foldl (fun own x=>own.set (aU t x.co).toNat (aC row x.e)) own).length=own.length
 | [],_=>rfl
 |x::l,own=>by rw[List.foldl_cons,Et l];simp
def kC{t:Tab}{l:List Ast}{row:List Val}:(cP t l row).length=row.length:=Et l row
def rM(c:Cat)(ps:List Pg)(t:Tab)(s:Stm)(R:List (List Val)):List Pg×Int:=iM c t (cg c t R ps) (R.map (cP t s.sets))
def CJ{gs:au}(c:Cat)(ps:List Pg)(n:Int)(t:Tab)(s:Stm)(R:List (List Val))(IP:List Pg→Prop)(h0:IP (cg c t R ps))(hI: ∀ps,IP ps→SzP ps)
 (hst: ∀ps,IP ps→ ∀r∈R,IP (jI c ps t (cP t s.sets r)).1) (hD: ∀i,(cg c t (R.take i) ps).length≤1000000)
 (hc:SzC c) (ht:SzT t) (hw:1≤t.cols.length) (hRl:R.length≤1000000) (hr: ∀r∈R,r.length=t.cols.length) (hsl:s.sets.length≤1000000)
 (hset: ∀x∈s.sets,0≤aU t x.co∧aU t x.co<(t.cols.length:Int)∧x.e.Ok)
 (kc:CallG gs prog 96 [.ptr 1010 0,.agg (t.c.map .iv),.agg (s.wh.cs.map .iv)] [(1010,bQ c ps n)] ((1010,bQ c ps n)::CB 1000 R) [] (Fc 1000 R)):
 CallG gs prog 97 [.ptr 1010 0,.agg (s.cs.map .iv),.agg (t.c.map .iv)] [(1010,bQ c ps n)] [(1010,bQ c (rM c ps t s R).1 n)] []
  (.tup [wT 0 (if(rM c ps t s R).2=0 then(R.length:Int) else 0),aI (rM c ps t s R).2]):=by
 unfold rM;generalize hZ:iM c t (cg c t R ps) (R.map (cP t s.sets))=Z;have htl:=ht.tl;have hil:=hc.il;refine iG func97 ntmps97 (fun w0 E0 hG=> ?_);apply L.tail (ι:=Unit) (fun _=>⟨[(25,aI 0),(24,aI (R.length:Int)),(23,.iv (.sl (R.map ai))),(8,.iv (.sl (R.map ai))),(9,.nils),(0,.ptr 1010 0),(4,.ptr 4 0),(5,.ptr 5 0),(6,.ptr 6 0)],
  [(1010,bQ c ps n),(4,⟨80,.l (s.cs.map .iv)⟩),(5,⟨57,.l (t.c.map .iv)⟩),(6,⟨69,.l [aI 0,aI 0,.nils]⟩)],[]⟩) (fun _=>True)
 · intro tailA;by_cases hRe:R= []
   · rw[hRe] at kc;(repeat' first|intro hb hp|refine ac [] rfl hG kc fS B1 rfl rfl rfl rfl ?_|refine am ?_|refine ak ?_ ?_|fail)
     exact tailA () _ trivial (Wk.mk' kK (wG (.cons U (Sub.of_eq (by rw[hRe];rfl)) (.cons U (by rw[hRe];exact Sub.nils) (.cons U (by rw[hRe];exact Sub.nils) F5)))) B4 .nil)
   · rw[oE hRe,mi hRe] at kc;have hne':R.map ai≠ []:=fun h=>hRe (List.map_eq_nil_iff.1 h)
     have rR:=jD R;have hRl':(R.map ai).length=R.length:=lM _;have hmt:((1010,bQ c ps n):: [(1000,bv R)]).all (fun p=>AV.mentsIn ([1000] ++ [1010]) p.2.cs)=true:=by
      have:=cZ (L:= [1000] ++ [1010]) (l:=R) (id:=1000);simp only[List.all_cons,List.all_nil,Bool.and_true] at this;simp only[List.all_cons,List.all_nil,Bool.and_true,this,Bool.and_true];rfl
     (repeat' first|intro hb hp|apply ac [1000];rfl;exact hG;exact kc;exact fS;exact B1;rfl;rfl;exact hmt;rfl;refine LW.mk ?_;refine L.pubS 1000 22 (es:=R.map ai) (k:=1) U U rR dD hne' hRl' U .here ?_;refine LW.out ?_|refine am ?_|refine ak ?_ ?_|fail)
     exact tailA () _ trivial (Wk.mk' kK (wG (.cons U (Sub.of_eq (congrArg (fun k:Nat=>aI (k:Int)) hRl')) (wG (wG F5)))) B4 .nil)
 intro _ _;clear kc;refine L.adopt 9 (s:=9) (t:=35) (k:=1) U U U ?_;refine ae (ι:=Nat) (fun i=>⟨[(25,aI (i:Int)),(24,aI (R.length:Int)),(23,.iv (.sl (R.map ai))),(8,.iv (.sl (R.map ai))),(9,.row 9 (((R.take i).map (cP t s.sets)).map ai)),(0,.ptr 1010 0),(4,.ptr 4 0),(5,.ptr 5 0),(6,.ptr 6 0)],
  [(1010,bQ c (cg c t (R.take i) ps) n),(4,⟨80,.l (s.cs.map .iv)⟩),(5,⟨57,.l (t.c.map .iv)⟩),(6,⟨69,.l [aI 0,aI 0,.nils]⟩)],[(9,⟨35,1⟩)]⟩) (fun i=>R.length - i) (fun i=>True) (i0:=0) ?_ trivial ?_
 · exact wL
 intro i _ K hK;cases hx:R[i]? with
 |none=>
  have q:decide ((i:Int)<(R.length:Int))=false:=decide_eq_false (by have:=gO hx;omega);rw[bc hx];clear hK hD;have hnl:(R.map (cP t s.sets)).length≤1000000:=by rw[lM];exact hRl
  have hadd: ∀q,IP q→ ∀r∈R.map (cP t s.sets),CallG gs prog 120 [.ptr 1010 0,.agg (t.c.map .iv),.iv (.sl (r.map Val.c))] [(1010,bQ c q n)] [(1010,bQ c (jI c q t r).1 n)] [] (aI (jI c q t r).2)∧IP (jI c q t r).1:=fun q hq r hr'=>by
   obtain⟨r0,h1,rfl⟩:=mM hr';have hl:=hr r0 h1;exact⟨Fo (gs:=gs) c q n t _ hc ht (hI q hq).len (hI q hq).sm (by rw[kC];exact hl) (fun h=>by have h2:=congrArg List.length h;rw[kC,hl,List.length_nil] at h2;omega),hst q hq r0 h1⟩
  have hRm:((R.map ai).length:Int)=(R.length:Int):=by rw[lM]
  generalize cg c t R ps=ps1 at*
  generalize hnx:R.map (cP t s.sets)=nx at*
  clear hst hr hset hI;refine wz ?_;refine ae (ι:=Nat×List Pg) (fun i=>⟨[(70,aI (i.1:Int)),(69,aI ((nx.map ai).length:Int)),(68,.iv (.sl (nx.map ai))),(8,.iv (.sl (R.map ai))),(0,.ptr 1010 0),(5,.ptr 5 0),(6,.ptr 6 0)],
   [(1010,bQ c i.2 n),(5,⟨57,.l (t.c.map .iv)⟩),(6,⟨69,.l [aI 0,aI 0,.nils]⟩)],[]⟩) (fun i=>nx.length - i.1) (fun i=>IP i.2∧iM c t i.2 (nx.drop i.1)=Z) (i0:=(0,ps1)) ?_ ⟨h0,hZ⟩ ?_
  · exact(Wk.mk' kK (wG (wG (.cons U (Sub.row _ _) F4))) B3 .nil)
  rintro ⟨i,qs⟩ ⟨hi,hJ⟩ K hK;dsimp only at hi hJ hK;cases hy:nx[i]? with
  |none=>
   have hlt:=fa (l:=nx.map ai) (bf hy);rw[dL (gO hy)] at hJ;subst hJ;clear hK;show L _ _ _;rw[show(iM c t qs []).2=0 from rfl,show(iM c t qs []).1=qs from rfl,if_pos U,←hRm];refine wz ?_;all_goals exact L.ends U U (Sub.tup (.cons (Sub.agg (.cons sE (.cons sE (.cons Sub.nils .nil)))) (.cons sE .nil))) wK
  |some r=>
   have hlt:=eZ (l:=nx.map ai) (cq (f:=ai) hy);have hlt':=eP hy;have g1:(nx.map ai)[((i:Nat):Int).toNat]?=some [.sl (r.map Val.c)]:=by rw[iN,gP,hy];rfl
   obtain⟨kadd,hst'⟩:=hadd qs hi r (gE hy);have hdr:nx.drop i=r::nx.drop (i+1):=eS hy;rw[hdr] at hJ;by_cases he:(jI c qs t r).2=0
   · rw[Cw he] at hJ;rw[he] at kadd;have q:((0:Int) !=0)=false:=rfl;(repeat' first|intro hb hp|refine ac [] rfl hG kadd fS B1 rfl rfl rfl rfl ?_|refine am ?_|refine ak ?_ ?_|fail)
     exact hK _ (i+1,(jI c qs t r).1) ⟨hst',hJ⟩ oD wK
   · rw[Cx he] at hJ;subst hJ;rw[if_neg he];have q:((jI c qs t r).2 !=0)=true:=by simpa using he
     clear hK;generalize jI c qs t r=A at*
     obtain⟨A1,A2⟩:=A;dsimp only at kadd q⊢;(repeat' first|intro hb hp|refine ac [] rfl hG kadd fS B1 rfl rfl rfl rfl ?_|refine am ?_|refine ak ?_ ?_|fail)
     all_goals exact L.ends U U (Sub.tup (.cons (Sub.agg (.cons sE (.cons sE (.cons Sub.nils .nil)))) (.cons sE .nil))) wK
 |some r=>
  have hlt':=eP hx;have q:decide ((i:Int)<(R.length:Int))=true:=decide_eq_true C;have hm:=gE hx;have hrl:=hr r hm;have hi:=hD i;have g1:(R.map ai)[((i:Nat):Int).toNat]?=some [.sl (r.map Val.c)]:=by rw[iN,gP,hx];rfl
  have hstep:cg c t (R.take (i+1)) ps=gZ (cg c t (R.take i) ps) c t r:=mW _ hx ps;have n1:((R.take (i+1)).map (cP t s.sets)).map ai=((R.take i).map (cP t s.sets)).map ai++ [[.sl ((cP t s.sets r).map Val.c)]]:=by rw[dg hx,pA,pA];rfl
  have l1:(((R.take i).map (cP t s.sets)).map ai).length=i:=by simp;omega
  have k1: ∀e∈((R.take i).map (cP t s.sets)).map ai,e.length=1:=jD _;generalize cg c t (R.take i) ps=q1 at*
  generalize ((R.take i).map (cP t s.sets)).map ai=es at*
  have kd:=sK q1 c t r C C ht.tn C C hc.inn;rw[←hstep] at kd;have hvl:(r.map Val.c).length=r.length:=lM _;have hrne:r.map Val.c≠ []:=fun h=>by rw[h] at hvl;simp at hvl;omega
  have kcl:=DS (r.map Val.c) (vc3 r) hrne (by rw[hvl,maxLen];omega) (by rw[hvl];omega);rw[hvl] at kcl;have hcm: [(1000,(⟨41,.r (r.map Val.c).flatten 0⟩:Box))].all (fun p=>AV.mentsIn [1000] p.2.cs)=true:=Jr;clear hD hst h0 hI;(repeat' first|intro hb hp|refine ac [1000] rfl hG kcl.toG fS .nil rfl rfl hcm rfl ?_|refine am ?_|refine ak ?_ ?_|fail)
  refine ae (ι:=Nat) (fun j=>⟨[(48,aI (j:Int)),(47,aI ((s.sets.map Ast.c).length:Int)),(46,.iv (.sl (s.sets.map Ast.c))),(12,.bsh 1000 0 r.length 3),(11,.iv (.sl (r.map Val.c))),(25,aI (i:Int)),(24,aI (R.length:Int)),(23,.iv (.sl (R.map ai))),(8,.iv (.sl (R.map ai))),(9,.row 9 es),(0,.ptr 1010 0),(4,.ptr 4 0),(5,.ptr 5 0),(6,.ptr 6 0)],
   [(1010,bQ c (cg c t (R.take (i+1)) ps) n),(4,⟨80,.l (s.cs.map .iv)⟩),(5,⟨57,.l (t.c.map .iv)⟩),(6,⟨69,.l [aI 0,aI 0,.nils]⟩),(1000,⟨41,.r ((cP t (s.sets.take j) r).map Val.c).flatten 0⟩)],[(9,⟨35,1⟩)]⟩) (fun j=>s.sets.length - j) (fun j=>True) (i0:=0) ?_ trivial ?_
  · exact(Wk.mk' kK (wG (wG (wF (wF (wF (wF (wF F7))))))) B5 (.cons U .nil))
  intro j _ K2 hK2;cases hy:s.sets[j]? with
  |none=>
   have hlt2:=fa (l:=s.sets.map Ast.c) (bf hy);rw[bc hy];have hul:((cP t s.sets r).map Val.c).length=r.length:=by rw[lM,kC]
   have hune:(cP t s.sets r).map Val.c≠ []:=fun h=>by rw[h] at hul;simp at hul;omega
   clear hK2;refine L.pubS 1000 12 (es:=(cP t s.sets r).map Val.c) (k:=3) U U (vc3 _) dD hune hul U .here ?_;generalize (cP t s.sets r).map Val.c=us at*
   (repeat' first|intro hb hp|(refine LW.is ?_;first|refine bC U U U U k1 (by first|exact len_chunks U|exact bz U bK) (by simp[maxLen,ah,l1];omega) (by simp[ah,l1];omega) U U ?_)|refine am ?_|refine ak ?_ ?_|fail)
   refine L.onlyS [25,24,23,8,9,0,4,5,6] [1010,4,5,6] U ?_;refine L.retok 9 66 9 U U U U ?_;exact hK _ (i+1) trivial C (Wk.mk' kK (wF (wF (wF (wF (.cons U (Sub.of_eq (congrArg (AV.row 9) n1.symm)) F4))))) B4 (.cons U .nil))
  |some x=>
   have hlt2:=eZ (l:=s.sets.map Ast.c) (cq (f:=Ast.c) hy);have hlt2':=eP hy;obtain⟨hx0,hx1,hxo⟩:=hset x (gE hy);have g2:(s.sets.map Ast.c)[((j:Nat):Int).toNat]?=some (S x.co::x.e.cs):=by rw[iN,gP,hy];rfl
   have kv:=lg r x.e hxo;rw[aN] at kv;have kf:=eJ t x.co C;have hus:cP t (s.sets.take (j+1)) r=(cP t (s.sets.take j) r).set (aU t x.co).toNat (aC r x.e):=mW _ hy r;have hul:(cP t (s.sets.take j) r).length=r.length:=kC;have hkl:(aU t x.co).toNat<r.length:=C;have hk1:aU t x.co<(r.length:Int):=C;have ho:(0+(aU t x.co).toNat)*3=(aU t x.co).toNat*3:=by rw[Nat.zero_add]
   rw[←hul] at hkl;have hset':((cP t (s.sets.take j) r).map Val.c).set (aU t x.co).toNat [I (aC r x.e).k,I (aC r x.e).n,S (aC r x.e).s] =((cP t (s.sets.take j) r).set (aU t x.co).toNat (aC r x.e)).map Val.c:=by rw[List.map_set];rfl
   rw[←hus] at hset';have hil2:(aU t x.co).toNat<((cP t (s.sets.take j) r).map Val.c).length:=by rw[lM];exact hkl
   generalize aC r x.e=v at*
   generalize aU t x.co=k at*
   have v3:=vc3 (cP t (s.sets.take j) r);generalize (cP t (s.sets.take j) r).map Val.c=us at*
   clear hK n1 l1 k1 hus hul hkl hset hstep;(repeat' first|intro hb hp|(refine DR.is ?_;first|refine bk U (az U U hx0 hk1 ho) ?_|refine dV (es:=us) (i:=k.toNat) (e:= [I v.k,I v.n,S v.s]) (er:=(cP t (s.sets.take (j+1)) r).map Val.c) U U U U U U v3 U hil2 hset' ?_)|refine am ?_|refine ak ?_ ?_|fail)
   exact hK2 _ (j+1) trivial C (Wk.mk' kK (wF (wF (wF (wF (wF (wF (wF F7))))))) B5 (.cons U .nil))
structure Rep where
 code:Int
 n:Int
 rows:List (List Val)
abbrev Rep.av(r:Rep):AV:= .agg [aI r.code,aI r.n,.iv (.sl (r.rows.map ai))]
abbrev Ny(r:Rep):Box:=⟨69,.l [aI r.code,aI r.n,.iv (.sl (r.rows.map ai))]⟩
def lr:Rep:=⟨0,0,[]⟩
def cJ(c:Cat)(ps:List Pg)(t:Tab)(e:Ex):List (List Val):=((ci ps t (bU c t 0 e)).filter (bM e)).mergeSort (cM sr)
def ow(c:Cat)(ps:List Pg)(s:Stm)(R:List (List Val)):List (List Val):=
 if s.frm.length=2 then R.flatMap (fun x=>(ci ps (ab c (s.frm.getD 1 [])).1 (bU c (ab c (s.frm.getD 1 [])).1 (x.length:Int) (br x s.wh))).map (x++ ·)) else R
def jO(c:Cat)(ps:List Pg)(s:Stm):List (List Val):=
 AI s (ab c (s.frm.getD 0 [])).1.cols.length (ow c ps s (ci ps (ab c (s.frm.getD 0 [])).1 (bU c (ab c (s.frm.getD 0 [])).1 0 s.wh)))
structure OneR where
 cat:Cat
 ps:List Pg
 rep:Rep
 e:Int
def cL(c:Cat)(ps:List Pg)(s:Stm):OneR:=
 if s.kind=2 then⟨bE c s,Bl (bE c s) ps (ab c s.table).1,lr,0⟩
 else if s.kind=3 then⟨bE c s,cg c (ab c s.name).1 (ci ps (ab c s.name).1 (ei (ab c s.name).1.n)) ps,lr,0⟩
 else if s.kind=4 then⟨c,(nO c ps (ab c s.table).1 s).1,⟨0,if(nO c ps (ab c s.table).1 s).2=0 then(s.rows.length:Int) else 0,[]⟩,(nO c ps (ab c s.table).1 s).2⟩
 else if s.kind=5 then⟨c,cg c (ab c s.table).1 (cJ c ps (ab c s.table).1 s.wh) ps,⟨0,((cJ c ps (ab c s.table).1 s.wh).length:Int),[]⟩,0⟩
 else if s.kind=6 then⟨c,(rM c ps (ab c s.table).1 s (cJ c ps (ab c s.table).1 s.wh)).1,⟨0,if(rM c ps (ab c s.table).1 s (cJ c ps (ab c s.table).1 s.wh)).2=0 then((cJ c ps (ab c s.table).1 s.wh).length:Int) else 0,[]⟩,(rM c ps (ab c s.table).1 s (cJ c ps (ab c s.table).1 s.wh)).2⟩
 else if s.kind=7 then⟨c,ps,⟨0,0,jO c ps s⟩,0⟩
 else⟨bE c s,ps,lr,0⟩
def ib:Cat→List Pg→Rep→Int→List Stm→Except (Int×Int) (Cat×List Pg×Rep)
 |c,ps,r,_,[] => .ok (c,ps,r)
 |c,ps,r,i,s::l=>
  if(aJ c s).2≠0 then .error ((aJ c s).2,i+1)
  else if(cL c ps (aJ c s).1).e≠0 then .error ((cL c ps (aJ c s).1).e,i+1)
  else ib (cL c ps (aJ c s).1).cat (cL c ps (aJ c s).1).ps (cL c ps (aJ c s).1).rep (i+1) l
structure Eng where
 cat:Cat
 ps:List Pg
 n:Int
abbrev Eng.b(g:Eng):Box:=bQ g.cat g.ps g.n
def fy(g:Eng)(x:Str):Eng×Rep:=
 if 150≤g.n then(g,⟨8,0,[]⟩)
 else if(cj x).2≠0 then(⟨g.cat,g.ps,g.n+1⟩,⟨(cj x).2,0,[]⟩)
 else match ib g.cat g.ps lr 0 (cj x).1 with
  | .error e=>(⟨g.cat,g.ps,g.n+1⟩,⟨e.1,e.2,[]⟩)
  | .ok r=>(⟨r.1,r.2.1,g.n+1⟩,r.2.2)
def uK(x:Str):(cj x).1.length≤6:=by
 unfold cj;split
 · simp
 split
 · simp
 split
 · simp
 · dsimp only;omega
variable [Errs]
def MG(g:Eng)(x:Str)(hn0:0≤g.n)(I:Cat→List Pg→Prop)(h0:I g.cat g.ps)
 (hB: ∀c ps,I c ps→ ∀s∈(cj x).1,CallG cA prog 59 [.agg (c.c.map .iv),.agg (s.cs.map .iv)] [] [] [] (.tup [.agg ((aJ c s).1.cs.map .iv),aI (aJ c s).2]))
 (hO: ∀c ps,I c ps→ ∀s∈(cj x).1,(aJ c s).2=0→CallG cA prog 60 [.ptr 1010 0,.agg ((aJ c s).1.cs.map .iv)] [(1010,bQ c ps 0)]
    [(1010,bQ (cL c ps (aJ c s).1).cat (cL c ps (aJ c s).1).ps 0)] [] (.tup [(cL c ps (aJ c s).1).rep.av,aI (cL c ps (aJ c s).1).e])∧((cL c ps (aJ c s).1).e=0→I (cL c ps (aJ c s).1).cat (cL c ps (aJ c s).1).ps)):
 CallG cA prog 30 [.ptr 1010 0,.agg [aS x]] [(1010,g.b)] [(1010,(fy g x).1.b)] [] ((fy g x).2.av):=by
 obtain⟨c,ps,n⟩:=g;dsimp only at hn0 h0⊢;have ks:=uM x;have hll:=uK x;unfold fy;dsimp only;have q0:True:=trivial;refine iG func30 ntmps30 (fun w0 E0 hG=> ?_);by_cases hn:150≤n
 · rw[if_pos hn];have q:decide ((150:Int)≤n)=true:=decide_eq_true hn;refine wz ?_;all_goals exact L.ends U U (Sub.agg (.cons sE (.cons sE (.cons Sub.nils .nil)))) wK
 rw[if_neg hn];have q:decide ((150:Int)≤n)=false:=decide_eq_false hn;generalize cj x=S at*
 obtain⟨l,e⟩:=S;dsimp only at ks hB hO hll⊢;by_cases he:e=0
 case neg=>
  rw[if_pos he];have q1:(e !=0)=true:=by simpa using he
  (repeat' first|intro hb hp|refine dM (ha:=rfl) U hG ks U ?_|refine am ?_|refine ak ?_ ?_|fail)
  all_goals exact L.ends U U (Sub.agg (.cons sE (.cons sE (.cons Sub.nils .nil)))) wK
 rw[if_neg (fun h=>h he)];subst he;have q1:((0:Int) !=0)=false:=rfl;generalize hZ:ib c ps lr 0 l=Z;(repeat' first|intro hb hp|refine dM (ha:=rfl) U hG ks U ?_|refine am ?_|refine ak ?_ ?_|fail)
 refine ae (ι:=Nat×Cat×List Pg×Rep) (fun i=>⟨[(52,aI (i.1:Int)),(51,aI ((l.map Stm.cs).length:Int)),(50,.iv (.sl (l.map Stm.cs))),(0,.ptr 1010 0),(4,.ptr 4 0),(7,.ptr 7 0),(8,.ptr 8 0)],
  [(1010,bQ c ps (n+1)),(4,⟨69,.l [aI 0,aI 0,.nils]⟩),(7,bQ i.2.1 i.2.2.1 0),(8,Ny i.2.2.2)],[]⟩) (fun i=>l.length - i.1) (fun i=>I i.2.1 i.2.2.1∧ib i.2.1 i.2.2.1 i.2.2.2 (i.1:Int) (l.drop i.1)=Z) (i0:=(0,c,ps,lr)) ?_ ⟨h0,hZ⟩ ?_
 · exact Wk.mk' kK (wG (wG (wG F4))) (wB (wB (wB (.cons U U (.cons sE (.cons sE (.cons Sub.nils .nil))) .nil)))) .nil
 rintro ⟨i,c1,ps1,r1⟩ ⟨hi,hJ⟩ K hK;dsimp only at hi hJ hK;cases hx:l[i]? with
 |none=>
  have hlt:=fa (l:=l.map Stm.cs) (bf hx);rw[dL (gO hx),ib] at hJ;subst hJ;clear hK hB hO;dsimp only;refine wz ?_;all_goals exact L.ends U U sE wK
 |some s=>
  have hlt:=eZ (l:=l.map Stm.cs) (cq (f:=Stm.cs) hx);have hlt':=eP hx;have hm:=gE hx;have g1:(l.map Stm.cs)[((i:Nat):Int).toNat]?=some s.cs:=by rw[iN,gP,hx];rfl
  have kb:=hB c1 ps1 hi s hm;have hone:=hO c1 ps1 hi s hm;have hdr:l.drop i=s::l.drop (i+1):=eS hx;have hi0:(i:Int)+1=((i+1:Nat):Int):=C;rw[hdr,ib] at hJ;clear hB hO ks;generalize aJ c1 s=bs at*
  obtain⟨b,f⟩:=bs;dsimp only at kb hone hJ;by_cases hf:f=0
  case neg=>
   rw[if_pos hf] at hJ;subst hJ;clear hK hone;have q2:(f==0)=false:=by simpa using hf
   have q3:(f !=0)=true:=by simpa using hf
   dsimp only;(repeat' first|intro hb hp|refine dM (ha:=rfl) U hG kb U ?_|refine LW.is (ag U (iV U U C C) ?_)|refine am ?_|refine ak ?_ ?_|fail)
   all_goals exact L.ends U U (Sub.agg (.cons sE (.cons sE (.cons Sub.nils .nil)))) wK
  rw[if_neg (fun h=>h hf)] at hJ;subst hf;obtain⟨ko,hI'⟩:=hone U;have ko:=ko.sws [(1010,7)] (args2:= [.ptr 7 0,.agg (b.cs.map .iv)]) (bx2:= [(7,bQ c1 ps1 0)]) (bx2':= [(7,bQ (cL c1 ps1 b).cat (cL c1 ps1 b).ps 0)]) (tk2':= []) (res2:= .tup [(cL c1 ps1 b).rep.av,aI (cL c1 ps1 b).e]) U U U U U;have q2:((0:Int)==0)=true:=rfl;clear hone;generalize cL c1 ps1 b=o at*
  obtain⟨c2,ps2,r2,f2⟩:=o;dsimp only at ko hI' hJ;by_cases hf:f2=0
  case neg=>
   rw[if_pos hf] at hJ;subst hJ;clear hK;have q3:(f2 !=0)=true:=by simpa using hf
   dsimp only;(repeat' first|intro hb hp|refine dM (ha:=rfl) U hG kb U ?_|refine ac [] U hG ko fS B1 U U U U ?_|refine LW.is (ag U (iV U U C C) ?_)|refine am ?_|refine ak ?_ ?_|fail)
   all_goals exact L.ends U U (Sub.agg (.cons sE (.cons sE (.cons Sub.nils .nil)))) wK
  rw[if_neg (fun h=>h hf)] at hJ;subst hf;have q3:((0:Int) !=0)=false:=rfl;(repeat' first|intro hb hp|refine dM (ha:=rfl) U hG kb U ?_|refine ac [] U hG ko fS B1 U U U U ?_|refine LW.is (ag U (iV U U C C) ?_)|refine am ?_|refine ak ?_ ?_|fail)
  exact hK _ (i+1,c2,ps2,r2) ⟨hI' U,hi0▸hJ⟩ oD wK
end Go.Proofs.Y
namespace Go.Proofs.Y
open Go.Abs
def vp(n:Int):rG (dX n)=1↔n=1:=by
 unfold dX;split
 · rename_i h;rcases h with rfl|rfl<;>simp[rG]
 · rename_i h;constructor
   · intro e;simp[rG,af] at e
   · intro e;exact absurd (.inr e) h
def and_one{a b:Int}:Cv a b=1↔a=1∧b=1:=by
 unfold Cv;split
 · rename_i h;constructor
   · intro e;cases e
   · rintro ⟨rfl,rfl⟩;simp at h
 · split
   · rename_i h;simp[h]
   · rename_i h;constructor
     · intro e;cases e
     · intro e;exact absurd e h
def JL(a b:Val):rG (qg 7 a b)=1↔rG a=1∧rG b=1:=by
 rw[qg,if_pos U,vp,and_one]
def qr(row:List Val): ∀e:Ex,rG (aC row e)=1→ ∀p∈cQ e,rG (aC row p)=1
 | .mk op v s name n l,h=>by
   by_cases h7:op=7∧l.length=2
   · obtain⟨rfl,h2⟩:=h7
     match l,h2 with
     | [a,b],_=>
     rw[pu];rw[eR,jQ _ _ _ _ dD dD] at h;obtain⟨h1,h2⟩:=(JL _ _).1 h;intro p hp;rcases mA hp with hp|hp
     · exact qr row a h1 p hp
     · exact qr row b h2 p hp
   · rw[gW v s name n h7];intro p hp;rw[List.mem_singleton] at hp;rw[hp];exact h
structure Says (v u:Val) (op:Int):Prop where
 gv:aw v=true
 gu:aw u=true
 v0:v.k≠0
 eq:op=5→u=v
 lt:op=6→cD u v= -1
 gt:op= -1→cD v u= -1
def La{v w:Val}(hv:aw v=true)(hw:aw w=true)(h:cD v w<0):cD v w= -1:=by
 rcases zX hv hw with⟨_,h1⟩|⟨h1,_⟩|⟨h1,_⟩<;>rw[h1] at h⊢
 · exact absurd h dD
 · exact absurd h dD
def Jm{v w:Val}(hv:aw v=true)(hw:aw w=true)(h:cD v w=0):v=w:=by
 rcases zX hv hw with⟨h1,_⟩|⟨h1,_⟩|⟨h1,_⟩
 · exact h1
 · rw[h1] at h;cases h
 · rw[h1] at h;cases h
def ES(b:Bool):zu b=1↔b=true:=by cases b<;>simp[zu]
def Hi{op:Int}{a b:Val}(hop:op=5∨op=6)(h:rG (qg op a b)=1):aw a=true∧aw b=true∧a.k=b.k∧a.k≠0∧(op=5→a=b)∧(op=6→cD a b= -1):=by
 rw[qg,if_neg C,if_neg C] at h;split at h
 · simp[rG,af] at h
 · rename_i hn;simp only[not_or,Bool.not_eq_false,ne_eq,Decidable.not_not] at hn;obtain⟨n1,n2,n3,n4⟩:=hn;refine⟨n2,n3,n1,n4,fun e=> ?_,fun e=> ?_⟩
   · rw[if_pos e,vp,ES,beq_iff_eq] at h;exact Jm n2 n3 h
   · rw[if_neg C,if_pos e,vp,ES,decide_eq_true_eq] at h;exact La n2 n3 h
def yD(op:Int)(v:Val)(s name:Str)(n:Int)(a b:Ex):bo (.mk op v s name n [a,b])=if op≠5∧op≠6 then(-1,af,0) else if a.op=2∧b.op=1∧aw b.v=true then(a.n,b.v,op) else if a.op=1∧b.op=2∧aw a.v=true then(b.n,a.v,if op=5 then op else -1) else(-1,af,0):=by
 simp[bo,Ex.op_mk,Ex.l_mk];rfl
def yE{op:Int}{v:Val}{s name:Str}{n:Int}{l:List Ex}(h:l.length≠2):bo (.mk op v s name n l)=(-1,af,0):=by rw[bo,if_pos (.inr h)]
def EN(row:List Val): ∀{x:Ex},x.op=2→0≤x.n→aC row x=row.getD x.n.toNat af
 | .mk o w s n i l,hx,hn=>by
   have hx:o=2:=hx;have hi:0≤i:=hn;subst hx;rw[eR,oK,uZ,if_pos hi,List.getD_eq_getElem?_getD];rfl
def EU(row:List Val): ∀{x:Ex},x.op=1→aC row x=x.v
 | .mk o w s n i l,hx=>by
   have hx:o=1:=hx;subst hx;rw[eR,jp,if_pos U];rfl
def DZ{row:List Val}: ∀{e:Ex} (h:rG (aC row e)=1) (hop:(bo e).2.2≠0) (h0:0≤(bo e).1),Says (bo e).2.1 (row.getD (bo e).1.toNat af) (bo e).2.2
 | .mk op v s name n l,h,hop,h0=>by
   by_cases h2:l.length=2
   · match l,h2 with
     | [a,b],_=>
     rw[yD] at hop h0⊢;split at hop
     · exact absurd U hop
     rename_i hc;rw[if_neg hc] at h0⊢;have hop56:op=5∨op=6:=C;rw[eR,jQ _ _ _ _ C C] at h;obtain⟨g1,g2,g3,g4,g5,g6⟩:=Hi hop56 h;split at hop
     · rename_i c1;rw[if_pos c1] at h0⊢;obtain⟨c1,c2,c3⟩:=c1;have ea:=EN row c1 h0;have eb:=EU row c2;rw[ea,eb] at g5 g6;rw[ea] at g1 g3 g4;rw[eb] at g3;exact⟨c3,g1,fun e=>g4 (g3.trans e),g5,g6,fun e=>by have e:op= -1:=e;omega⟩
     · rename_i c1;rw[if_neg c1] at h0⊢;split at hop
       · rename_i c2;rw[if_pos c2] at h0⊢;obtain⟨c2,c3,c4⟩:=c2;have ea:=EU row c2;have eb:=EN row c3 h0;rw[ea,eb] at g5 g6;rw[eb] at g2 g3;rw[ea] at g3 g4;show Says a.v (row.getD b.n.toNat af) (if op=5 then op else -1);rcases hop56 with h5|h6
         · rw[if_pos h5];exact⟨c4,g2,g4,fun e=>(g5 h5).symm,fun e=>by omega,fun e=>by omega⟩
         · rw[if_neg C];exact⟨c4,g2,g4,fun e=>absurd e dD,fun e=>absurd e dD,fun _=>g6 h6⟩
       · exact absurd U hop
   · rw[yE h2] at hop;exact absurd U hop
def Ea: ∀{e:Ex},(bo e).2.2≠0→aw (bo e).2.1=true
 | .mk op v s name n l,hop=>by
   by_cases h2:l.length=2
   · match l,h2 with
     | [a,b],_=>
     rw[yD] at hop⊢;split at hop
     · exact absurd U hop
     rename_i c0;rw[if_neg c0];split at hop
     · rename_i c1;rw[if_pos c1];exact c1.2.2
     rename_i c1;rw[if_neg c1];split at hop
     · rename_i c2;rw[if_pos c2];exact c2.2.2
     · exact absurd U hop
   · rw[yE h2] at hop;exact absurd U hop
def BD(pre r:List Val)(i:Nat)(h:pre.length≤i):(pre++r).getD i af=r.getD (i - pre.length) af:=by
 rw[List.getD_eq_getElem?_getD,List.getD_eq_getElem?_getD,List.getElem?_append_right h]
def xg(t:Tab)(rows:List (List Val))(ps:List Pg)(Hold:List Val→Prop)(W:Way):Prop:=
 W.i.length≤8∧ ∃P:List Val→Bool,(ci ps t W).Perm (rows.filter P)∧ ∀r∈rows,Hold r→P r=true
section
variable {c:Cat}{ps:List Pg}{D:Str→List (List Val)}{t:Tab}{Hold:List Val→Prop}
def FN{a x y:Str}(h: ¬a<x)(k: ¬x<y): ¬a<y:=fun e=>by
 rcases Decidable.em (a=x) with rfl|hne
 · exact k e
 · exact k (dp (tri h hne) e)
def BI(h:DB c ps D)(ht:t∈c.ts):xg t (D t.n) ps Hold (ei t.n):=by
 refine⟨by simp[ei],fun _=>true,?_,fun _ _ _=>rfl⟩;exact(jc h ht (dn t.n) (ei t.n).hi (fun _=>true) (fun a h1 h2=>⟨h1,h2⟩) (fun r hr=>⟨fun _=>Ek t.n (de [r.getD 0 af]),fun _=>rfl⟩)).1
def Ge(h:DB c ps D)(ht:t∈c.ts)(hn: ∀r∈D t.n,¬Hold r):xg t (D t.n) ps Hold ⟨[],dn t.n,dn t.n⟩:=by
 refine⟨by simp,fun _=>false,?_,fun r hr hh=>absurd hh (hn r hr)⟩;exact(jc h ht (dn t.n) (dn t.n) (fun _=>false) (fun a h1 h2=>absurd h2 h1) (fun r hr=>by simp)).1
def po(n:Str)(v:Val): ¬ap n v<dn n∧ap n v<(ei n).hi:=Ek n (de [v])
def KN(h:DB c ps D)(ht:t∈c.ts){v:Val}(hv:aw v=true)(hh: ∀r∈D t.n,Hold r→r.getD 0 af=v):xg t (D t.n) ps Hold ⟨[],ap t.n v,ap t.n v++ [0]⟩:=by
 refine⟨by simp,fun r=>vEq (r.getD 0 af) v,?_,fun r hr k=>vEq_iff.2 (hh r hr k)⟩;refine(jc h ht _ _ _ (fun a h1 h2=> ?_) (fun r hr=> ?_)).1
 · rw[vo h1 h2];exact po t.n v
 · rw[vEq_iff];constructor
   · intro e;rw[jF,e];exact⟨List.lt_irrefl _,by
      have:ap t.n v++ [] <ap t.n v++ [0]:=by rw[mo];simp
      rwa [List.append_nil] at this⟩
   · rintro ⟨h1,h2⟩;have e:=vo h1 h2;exact Bq (bD (h.fit t ht r hr).2 0) hv (List.append_cancel_left e)
def EK{n:Str}{u v:Val}(hu:aw u=true)(hv:aw v=true):ap n u<ap n v↔cD u v= -1:=by
 rw[ap,ap,mo];exact EW hu hv
def KL(h:DB c ps D)(ht:t∈c.ts){v:Val}(hv:aw v=true)(hh: ∀r∈D t.n,Hold r→cD (r.getD 0 af) v= -1):xg t (D t.n) ps Hold ⟨[],dn t.n,ap t.n v⟩:=by
 refine⟨by simp,fun r=>decide (cD (r.getD 0 af) v= -1),?_,fun r hr k=>decide_eq_true (hh r hr k)⟩;refine(jc h ht _ _ _ (fun a h1 h2=>⟨h1,dp h2 (po t.n v).2⟩) (fun r hr=> ?_)).1;rw[decide_eq_true_eq,←EK (n:=t.n) (bD (h.fit t ht r hr).2 0) hv];exact⟨fun e=>⟨(po t.n _).1,e⟩,fun e=>e.2⟩
def KM(h:DB c ps D)(ht:t∈c.ts){v:Val}(hv:aw v=true)(hh: ∀r∈D t.n,Hold r→cD v (r.getD 0 af)= -1):xg t (D t.n) ps Hold ⟨[],ap t.n v++ [0],(ei t.n).hi⟩:=by
 refine⟨by simp,fun r=>decide (cD v (r.getD 0 af)= -1),?_,fun r hr k=>decide_eq_true (hh r hr k)⟩;have hlow: ¬ap t.n v++ [0] <dn t.n:=by
  rw[ap,List.append_assoc];exact Fl _ _
 refine(jc h ht _ _ _ (fun a h1 h2=>⟨FN h1 hlow,h2⟩) (fun r hr=> ?_)).1;rw[decide_eq_true_eq,←EK (n:=t.n) hv (bD (h.fit t ht r hr).2 0)];constructor
 · intro e;refine⟨fun e2=> ?_,(po t.n _).2⟩;have:=vo (List.lt_asymm e) e2;rw[this] at e;exact List.lt_irrefl _ e
 · rintro ⟨h1,_⟩;refine Decidable.byContradiction (fun hn=>h1 ?_);have h3:ap t.n v<ap t.n v++ [0]:=by
    have:ap t.n v++ [] <ap t.n v++ [0]:=by rw[mo];simp
    rwa [List.append_nil] at this
   rcases Decidable.em (jF t r=ap t.n v) with e|e
   · rw[e];exact h3
   · exact dp (tri hn (fun e2=>e e2.symm)) h3
def zP(h:DB c ps D)(ht:t∈c.ts){k:Nat}(hk:k<t.cols.length){v:Val}(hv:aw v=true)(hh: ∀r∈D t.n,Hold r→r.getD k af=v): ∀(l:List Idx),(∀x∈l,x∈c.is)→ ∀(b:Way) (r:Int),xg t (D t.n) ps Hold b→xg t (D t.n) ps Hold (zD t k v l b r).1
 | [],_,b,r,hb=>hb
 |x::l,hl,b,r,hb=>by
  rw[zD];split
  · rename_i hc;simp only[aE,beq_iff_eq,decide_eq_true_eq] at hc;have hx:=hl x sP;refine zP h ht hk hv hh l (fun y hy=>hl y (by simp[hy])) _ _ ⟨?_,fun r=>vEq (r.getD k af) v,HN h ht hx hc.1 hk hc.2.1 hv,fun r hr q=>vEq_iff.2 (hh r hr q)⟩;have:=(h.cat.idx x hx).1;simp only[bG,aE,decide_eq_true_eq] at this;exact this.2.2.1
  · exact zP h ht hk hv hh l (fun y hy=>hl y (by simp[hy])) b r hb
end
def yC{c:Cat}{ps:List Pg}{D:Str→List (List Val)}{t:Tab}(h:DB c ps D)(ht:t∈c.ts)(pre:List Val){Hold:List Val→Prop}: ∀(l:List Ex),(∀p∈l,(bo p).2.2≠0→ ∀r∈D t.n,Hold r→rG (aC (pre++r) p)=1)→
 ∀(b:Way) (r:Int),xg t (D t.n) ps Hold b→xg t (D t.n) ps Hold (zZ c t pre.length l b r)
 | [],_,b,_,hb=>hb
 |p::l,hl,b,rk,hb=>by
  rw[zZ];have ih:=yC h ht pre l (fun q hq=>hl q (by simp[hq]));split
  · exact ih b rk hb
  rename_i hs;simp only[not_or,Int.not_lt,Int.not_le] at hs;obtain⟨s1,s2,s3⟩:=hs;have says: ∀r∈D t.n,Hold r→Says (bo p).2.1 (r.getD ((bo p).1 - pre.length).toNat af) (bo p).2.2:=fun r hr hh=>by
   have hlen:=(h.fit t ht r hr).1;have:=DZ (hl p sP s1 r hr hh) s1 C
   rwa [BD _ _ _ C,show(bo p).1.toNat - pre.length=((bo p).1 - pre.length).toNat by omega] at this
  split
  · rename_i hv;exact Ge h ht (fun r hr hh=>(says r hr hh).v0 hv)
  · refine ih _ _ ?_;have gv:=Ea s1;generalize hkk:((bo p).1 - pre.length).toNat=k at says;have hk:(bo p).1 - (pre.length:Int)=(k:Int):=C;rw[hk] at s3⊢;have hk':k<t.cols.length:=C;unfold gI;split
    · rename_i a;have k0:k=0:=C;subst k0;exact KN h ht gv (fun r hr hh=>(says r hr hh).eq a.1.2)
    split
    · rename_i a;exact zP h ht hk' gv (fun r hr hh=>(says r hr hh).eq a.1) c.is (fun x hx=>hx) b rk hb
    split
    · rename_i a;have k0:k=0:=C;subst k0;exact KL h ht gv (fun r hr hh=>(says r hr hh).lt a.1.2)
    split
    · rename_i a;have k0:k=0:=C;subst k0;exact KM h ht gv (fun r hr hh=>(says r hr hh).gt a.1.2)
    · exact hb
def Iu(e:Ex)(row:List Val):Bool:=(e.op==0)||(rG (aC row e)==1)
def Ck{c:Cat}{ps:List Pg}{D:Str→List (List Val)}{t:Tab}(h:DB c ps D)(ht:t∈c.ts)(pre:List Val)(e:Ex):xg t (D t.n) ps (fun r=>Iu e (pre++r)=true) (bU c t pre.length e):=by
 refine yC h ht pre (cQ e) (fun p hp hop r hr hh=> ?_) _ _ (BI h ht);simp only[Iu,Bool.or_eq_true,beq_iff_eq] at hh;rcases hh with h0|hh
 · obtain⟨op,v,s,name,n,l⟩:=e;have h0:op=0:=h0;subst h0;rw[gW v s name n (fun e=>by have:=e.1;omega),List.mem_singleton] at hp;subst hp;exact absurd (by simp[bo,Ex.op_mk]) hop
 · exact qr _ e hh p hp
inductive Hgt:Nat→Ex→Prop
 |mk {n:Nat} {op:Int} {v:Val} {s name:Str} {i:Int} {l:List Ex} (h: ∀x∈l,Hgt n x):Hgt (n+1) (.mk op v s name i l)
def pw: ∀{n:Nat} {e:Ex},Hgt (n+1) e→(cQ e).length≤2 ^ n
 |n,.mk op v s name i l,h=>by
  by_cases h7:op=7∧l.length=2
  · obtain⟨rfl,h2⟩:=h7
    match l,h2 with
    | [a,b],_=>
    cases h with
    |mk h=>
     have ha:=h a sP;have hb:=h b sP;cases n with
     |zero=>cases ha
     |succ n=>
      rw[pu,gV,Nat.pow_succ];have:=pw ha;have:=pw hb;omega
  · rw[gW v s name i h7];exact Nat.one_le_two_pow
def vO: ∀(n:Nat) {e:Ex},bY (41 - (n:Int)) e=true→Hgt n e
 |0,.mk op v s name i l,h=>by
  rw[gD] at h;split at h
  · cases h
  · simp at h
 |n+1,.mk op v s name i l,h=>by
  rw[gD] at h;split at h
  · cases h
  · refine .mk (fun x hx=>vO n ?_);simp only[aE,Bool.not_eq_true'] at h;have:=List.any_eq_false.1 h.2.2 x hx;simp only[Bool.not_eq_true',Bool.not_eq_false] at this;rw[show(41 - ((n+1:Nat):Int))+1=41 - (n:Int) by omega] at this;exact this
def pX(ts:List Tab)(op:Int)(v:Val)(s name:Str)(n f:Int)(es:List Ex)(tys:List Int):(bV ts op v s name n f es tys).1=nilE∨(op=2∧(bV ts op v s name n f es tys).1= .mk op v s name (eF ts s name).1 es)∨(op≠2∧(bV ts op v s name n f es tys).1= .mk op v s name n es):=by
 unfold bV;repeat' split
 all_goals first
  |exact .inl U
  |(refine .inr (.inl ⟨?_,rfl⟩);assumption)
  |(refine .inr (.inr ⟨?_,rfl⟩);omega)
def wC(ts:List Tab): ∀(n:Nat) {e:Ex},Hgt (n+1) e→Hgt (n+1) (an ts e).1
 |n,.mk op v s name i l,h=>by
  cases h with
  |mk h=>
  rw[iL];have hl: ∀x∈l.map (fun x=>(an ts x).1),Hgt n x:=by
   intro x hx;obtain⟨y,hy,rfl⟩:=mM hx;cases n with
   |zero=>cases h y hy
   |succ n=>exact wC ts n (h y hy)
  rcases pX ts op v s name i (eG (l.map fun x=>(an ts x).2.2)) (l.map fun x=>(an ts x).1) (l.map fun x=>(an ts x).2.1) with e|⟨_,e⟩|⟨_,e⟩
  · rw[e];exact .mk (fun x hx=>by cases hx)
  · rw[e];exact .mk hl
  · rw[e];exact .mk hl
inductive Refs (m:Int):Ex→Prop
 |mk {op:Int} {v:Val} {s name:Str} {i:Int} {l:List Ex} (h0:op=2→0≤i∧i≤m) (h: ∀x∈l,Refs m x):Refs m (.mk op v s name i l)
def MI(t:Tab)(name:Str):aU t name≤t.cols.length:=(zG _ _).2.2
def sH(s name:Str): ∀(ts:List Tab) (a p k:Int),0≤a→p≤a→0≤(iE s name ts a p k).1∧(iE s name ts a p k).1≤a+lY ts
 | [],a,p,k,h,hp=>by
   rw[iE];split
   · simp[lY];omega
   · simp[lY];omega
 |t::ts,a,p,k,h,hp=>by
  have e:(lY (t::ts):Int)=t.cols.length+lY ts:=by simp[lY]
  rw[iE];have:=MI t name;split
  · split
    · simp only;omega
    · have:=sH s name ts (a+t.cols.length) (a+aU t name) (eT t (aU t name)) C C;omega
  · have:=sH s name ts (a+t.cols.length) p k C C;omega
def KP(ts:List Tab)(s name:Str):0≤(eF ts s name).1∧(eF ts s name).1≤lY ts:=by
 have:=sH s name ts 0 (-1) 0 C C;rw[Int.zero_add] at this;exact this
def sY(ts:List Tab): ∀e:Ex,Refs (lY ts) (an ts e).1
 | .mk op v s name i l=>by
   rw[iL];have hl: ∀x∈l.map (fun x=>(an ts x).1),Refs (lY ts) x:=by
    intro x hx;obtain⟨y,hy,rfl⟩:=mM hx;exact sY ts y
   rcases pX ts op v s name i (eG (l.map fun x=>(an ts x).2.2)) (l.map fun x=>(an ts x).1) (l.map fun x=>(an ts x).2.1) with e|⟨_,e⟩|⟨h2,e⟩
   · rw[e];exact .mk (fun h=>by cases h) (fun x hx=>by cases hx)
   · rw[e];exact .mk (fun _=>KP ts s name) hl
   · rw[e];exact .mk (fun h=>absurd h h2) hl
def nn{m:Int}: ∀{e:Ex},Refs m e→ ∀p∈cQ e,Refs m p
 | .mk op v s name i l,h=>by
   by_cases h7:op=7∧l.length=2
   · obtain⟨rfl,h2⟩:=h7
     match l,h2 with
     | [a,b],_=>
     cases h with
     |mk h0 h=>
      rw[pu];intro p hp;rcases mA hp with hp|hp
      · exact nn (h a sP) p hp
      · exact nn (h b sP) p hp
   · rw[gW v s name i h7];intro p hp;rw[List.mem_singleton] at hp;rw[hp];exact h
def wx{m:Int}(hm:0≤m){e:Ex}(h:Refs m e): -1≤(bo e).1∧(bo e).1≤m:=by
 obtain⟨op,v,s,name,i,l⟩:=e;cases h with
 |mk h0 h=>
 have href: ∀x∈l,x.op=2→0≤x.n∧x.n≤m:=fun x hx h2=>by
  have:=h x hx;cases this with
  |mk k0 _=>exact k0 h2
 unfold bo;split
 · simp only;omega
 · rename_i hc;simp only[not_or,Decidable.not_not] at hc;have h2:l.length=2:=hc.2
   match l,h2 with
   | [a,b],_=>
   split
   · rename_i c1;have:=href a sP c1.1;simp only[Ex.l_mk,List.getD_cons_zero];omega
   · split
     · rename_i c2;have:=href b sP c2.2.1;simp only[Ex.l_mk,List.getD_cons_zero,List.getD_cons_succ];omega
     · simp only;omega
def Ag{ts:List Tab}{e b:Ex}(hw:dO ts e=(b,0))(hg:e.op≠0→bY 1 e=true):(cQ b).length≤549755813888∧ ∀p∈cQ b,-1≤(bo p).1∧(bo p).1≤lY ts:=by
 unfold dO at hw;split at hw
 · rename_i h0;have e1:e=b:=(Prod.mk.inj hw).1;subst e1;obtain⟨op,v,s,name,n,l⟩:=e;have h0:op=0:=h0;subst h0;rw[gW v s name n (fun e=>by have:=e.1;omega)];refine⟨by simp,fun p hp=> ?_⟩;rw[List.mem_singleton] at hp;rw[hp,bo,if_pos (.inl (by simp[Ex.op_mk]))];simp only;omega
 · rename_i h0;unfold dw at hw;split at hw
   · rename_i h1;exact absurd (Prod.mk.inj hw).2 h1
   · split at hw
     · exact absurd (Prod.mk.inj hw).2 dD
     · have e1:(an ts e).1=b:=(Prod.mk.inj hw).1;rw[←e1];exact⟨pw (wC ts 39 (vO 40 (hg h0))),fun p hp=>wx C (nn (sY ts e) p hp)⟩
structure Rk (r:Rd):Prop where
 ok:RdOk r
 n:r.l.length≤1500
def Rk.sf{r r':Rd}(h:Rk r)(k:Sf r r'):Rk r':=⟨k.ok h.ok,Nat.le_trans k.le h.n⟩
def Rk.name{r:Rd}(h:Rk r):(aq r).1.length≤1000000:=vu h.ok
def GE(f:Rd→Ex×Rd):Prop:= ∀r,Rk r→(f r).1.OkS
def Kl(v:Val):(Ex.mk 1 v [] [] 0 []).OkS:= .mk sP sP sP sP
def zr:nilE.OkS:= .mk sP sP sP sP
def Bi{op:Int}{a b:Ex}(ha:a.OkS)(hb:b.OkS):(BJ op a b).OkS:= .mk sP sP sP (fun x hx=>by
 rcases List.mem_cons.1 hx with rfl|hx
 · exact ha
 · rw[List.mem_singleton.1 hx];exact hb)
def LC{op:Int}{a:Ex}(ha:a.OkS):(ex1 op a).OkS:= .mk sP sP sP (fun x hx=>by rw[List.mem_singleton.1 hx];exact ha)
def Dy:GE xM:=fun r h=>zr
def Mw:GE qQ:=fun r h=>by
 have h1:=h.name;have h2:=((h.sf (bA r)).sf (aV _ [[46]])).name;unfold qQ;split
 · exact .mk sP C C sP
 · exact .mk sP sP C sP
def KF{o:Rd→Ex×Rd}(ho:GE o):GE (qq o):=fun r h=>by
 unfold qq;split
 · exact Dy r h
 split
 · exact ho _ (h.sf (aV r _))
 split
 · exact Kl _
 · exact Mw r h
def zM{a:Rd→Ex×Rd}(ea:jJ a)(ha:GE a): ∀(n:Nat) (e:Ex) (r:Rd),Rk r→e.OkS→(me a n e r).1.OkS
 |0,e,r,_,he=>he
 |n+1,e,r,h,he=>by
  unfold me;split
  · exact he
  split
  · exact zM ea ha n _ _ ((h.sf (aV r _)).sf (ea _)) (Bi he (ha _ (h.sf (aV r _))))
  split
  · exact zM ea ha n _ _ ((h.sf (aV r _)).sf (ea _)) (Bi he (ha _ (h.sf (aV r _))))
  · exact he
def Mv{a:Rd→Ex×Rd}(ea:jJ a)(ha:GE a):GE (Bb a):=fun r h=>zM ea ha _ _ _ (h.sf (ea r)) (ha r h)
def KE{t s:Rd→Ex×Rd}(et:jJ t)(es:jJ s)(ht:GE t)(hs:GE s):GE (qp t s):=fun r h=>by
 unfold qp;split
 · exact Dy r h
 split
 · exact LC (ht _ (h.sf (aV r _)))
 split
 · exact LC (hs r h)
 split
 · exact Bi (hs r h) (hs _ ((h.sf (es r)).sf (aV _ _)))
 split
 · exact Bi (hs r h) (hs _ ((h.sf (es r)).sf (aV _ _)))
 · exact hs r h
def BE{op:Int}{w:Str}{s:Rd→Ex×Rd}(es:jJ s)(hs:GE s): ∀(n:Nat) (e:Ex) (r:Rd),Rk r→e.OkS→(gw op w s n e r).1.OkS
 |0,e,r,_,he=>he
 |n+1,e,r,h,he=>by
  unfold gw;split
  · exact he
  split
  · exact BE es hs n _ _ ((h.sf (aV r _)).sf (es _)) (Bi he (hs _ (h.sf (aV r _))))
  · exact he
def ul{op:Int}{w:Str}{s:Rd→Ex×Rd}(es:jJ s)(hs:GE s):GE (oi op w s):=fun r h=>BE es hs _ _ _ (h.sf (es r)) (hs r h)
def Mx: ∀k,GE (Mb k)
 |0=>Dy
 |k+1=>KE (jH k) (vY (mZ (dR (dR (jH k))))) (Mx k) (Mv (mZ (dR (dR (jH k)))) (KF (ul (dR (jH k)) (ul (jH k) (Mx k)))))
def Ix(k:Nat):GE (mf k):=ul (dR (jH k)) (ul (jH k) (Mx k))
def yc{α:Type}{P:α→Prop}{step:Rd→α×Rd}(hs: ∀r,Sf r (step r).2)(hp: ∀r,Rk r→P (step r).1): ∀(n:Nat) (l:List α) (r:Rd),Rk r→(∀x∈l,P x)→ ∀x∈(dN step n l r).1,P x
 |0,l,r,_,hl=>hl
 |n+1,l,r,h,hl=>by
  unfold dN;have hl': ∀x∈l++ [(step r).1],P x:=fun x hx=>by
   rcases mA hx with hx|hx
   · exact hl x hx
   · rw[List.mem_singleton.1 hx];exact hp r h
  split
  · exact hl
  split
  · exact yc hs hp n _ _ ((h.sf (hs r)).sf (aV _ _)) hl'
  · exact hl'
def ou{α:Type}{P:α→Prop}{step:Rd→α×Rd}(hs: ∀r,Sf r (step r).2)(hp: ∀r,Rk r→P (step r).1){r:Rd}(h:Rk r): ∀x∈(aP step r).1,P x:=yc hs hp _ _ _ h sP
def pC{α:Type}{step:Rd→α×Rd}(hs: ∀r,Sf r (step r).2){r:Rd}(h:Rk r):(aP step r).1.length≤1501:=Nat.le_trans (Ik hs r) (by have:=h.n;omega)
structure StmK (s:Stm):Prop where
 rows:s.rows.length≤1501
 row: ∀r∈s.rows,r.length≤1501∧ ∀e∈r,e.OkS
 sets:s.sets.length≤1501
 set: ∀x∈s.sets,x.e.OkS
 cols:s.cols.length≤1501
 frm:s.frm.length≤1501
 out:s.out.length≤1501
 outs: ∀e∈s.out,e.OkS
 ord:s.ord.length≤1
 ords: ∀e∈s.ord,e.OkS
 wh:s.wh.OkS
 name:s.name.length≤1000000
 table:s.table.length≤1000000
 col:s.col.length≤1000000
 cn: ∀c∈s.cols,c.n.length≤1000000
def vU{α:Type}{k:Nat}: ∀{l:List (List α)},(∀x∈l,x.length≤k)→l.flatten.length≤l.length*k
 | [],_=>by simp
 |x::l,h=>by
  have h1:=h x (List.mem_cons_self ..);have h2:=vU (k:=k) (l:=l) (fun y hy=>h y (List.mem_cons_of_mem _ hy));rw[List.flatten_cons,gV,lC,Nat.add_mul];omega
def StmK.ok{s:Stm}(h:StmK s):s.Ok where
 tot:=by
  have h1:=vU (k:=1501) (fun r hr=>(h.row r hr).1);have h2:=h.rows;have h3:=h.out;have h4:=h.ord;have h5:=h.sets;have h6:=mR 1501 h2;omega
 rows:=by have:=h.rows;omega
 sets:=by have:=h.sets;omega
 cols:=by have:=h.cols;omega
 frm:=by have:=h.frm;omega
 all e he:=by
  simp only[du,List.mem_append,List.mem_map] at he;rcases he with(((he|he)|he)|⟨x,hx,rfl⟩)|he
  · exact h.outs e he
  · exact h.ords e he
  · obtain⟨r,hr,he⟩:=List.mem_flatten.1 he;exact(h.row r hr).2 e he
  · exact h.set x hx
  · split at he
    · cases he
    · rw[List.mem_singleton.1 he];exact h.wh
 wh:=h.wh
 name:=by have:=h.name;omega
 table:=by have:=h.table;omega
 col:=by have:=h.col;omega
 cn c hc:=by have:=h.cn c hc;omega
def tf:StmK ia:=⟨by simp[ia],by simp[ia],by simp[ia],by simp[ia],by simp[ia],by simp[ia],by simp[ia],by simp[ia],by simp[ia],by simp[ia],zr,by simp[ia],by simp[ia],by simp[ia],by simp[ia]⟩
def vS{r:Rd}(h:Rk r):(di r).1.OkS:=by
 unfold di;split
 · exact Ix 6 _ (h.sf (aV r _))
 · exact zr
def KZ(r:Rd)(h:Rk r):(iq r).1.n.length≤1000000:=by
 have:=h.name;unfold iq;split
 · exact this
 split
 · exact this
 · exact this
def LA{r:Rd}(h:Rk r):(io r).1.length≤1501∧ ∀e∈(io r).1,e.OkS:=by
 unfold io;split
 · simp
 · exact⟨pC (fj 6) h,ou (fj 6) (Ix 6) h⟩
def My{r:Rd}(h:Rk r):(kU r).1.length≤1501:=pC bA (h.sf (bJ _ _))
def LB{r:Rd}(h:Rk r):(jL r).1.1.length≤1∧ ∀e∈(jL r).1.1,e.OkS:=by
 unfold jL;split
 · refine⟨by simp,fun e he=> ?_⟩;rw[List.mem_singleton.1 he];exact Ix 6 _ (h.sf (aV _ _))
 · simp
def MW{r:Rd}(h:Rk r):(mI r).1.length≤1501∧ ∀e∈(mI r).1,e.OkS:=⟨pC (fj 6) (h.sf (bJ _ _)),ou (fj 6) (Ix 6) (h.sf (bJ _ _))⟩
def MR{r:Rd}(h:Rk r):(mG r).1.e.OkS:=Ix 6 _ ((h.sf (bA _)).sf (bJ _ _))
def Hg{r:Rd}(h:Rk r):(nk r).1.length≤1501∧ ∀x∈(nk r).1,x.e.OkS:=by
 have h2:=(h.sf (bA _)).sf (bJ _ [tN]);exact⟨pC uH h2,ou (P:=fun x:Ast=>x.e.OkS) uH (fun r hr=>MR hr) h2⟩
attribute [local irreducible] io kU di jL ip aP mf aq aL al iq mI mG nk
def Jk{r:Rd}(h:Rk r):StmK (mL r).1:=by
 have h2:=(h.sf (bA _)).sf (bJ _ [[40]]);exact{tf with name:=h.name,cols:=pC uI h2,cn:=ou (P:=fun c:Col=>c.n.length≤1000000) uI KZ h2}
def Mi{r:Rd}(h:Rk r):StmK (sb r).1:=by
 have h2:=(h.sf (bA _)).sf (bJ _ [wON]);have h3:=(h2.sf (bA _)).sf (bJ _ [[40]]);exact{tf with name:=h.name,table:=h2.name,col:=h3.name}
def ME{r:Rd}(h:Rk r):StmK (vc r).1:={tf with name:=h.name}
def Ir{r:Rd}(h:Rk r):StmK (mJ r).1:=by
 have h2:=(h.sf (bA _)).sf (bJ _ [ic]);exact{tf with table:=h.name,rows:=pC zd h2,row:=ou (P:=fun r:List Ex=>r.length≤1501∧ ∀e∈r,e.OkS) zd (fun r hr=>MW hr) h2}
def Jb{r:Rd}(h:Rk r):StmK (mK r).1:={tf with table:=h.name,wh:=vS (h.sf (bA _))}
def Hf{r:Rd}(h:Rk r):StmK (mF r).1:={tf with table:=h.name,sets:=(Hg h).1,set:=(Hg h).2,wh:=vS (h.sf (EB _))}
def HC{r:Rd}(h:Rk r):StmK (mH r).1:=by
 have h2:=h.sf (CX _);have h3:=h2.sf (ED _);have h4:=h3.sf (oa _);exact{tf with out:=(LA h).1,outs:=(LA h).2,frm:=My h2,wh:=vS h3,ord:=(LB h4).1,ords:=(LB h4).2}
def MP(r:Rd)(h:Rk r):StmK (fi r).1:=by
 unfold fi;split
 · exact Jk (h.sf (aV _ _))
 split
 · exact Mi (h.sf (aV _ _))
 split
 · exact ME (h.sf (aV _ _))
 split
 · exact Ir (h.sf (aV _ _))
 split
 · exact Jb (h.sf (aV _ _))
 split
 · exact Hf (h.sf (aV _ _))
 split
 · exact HC (h.sf (aV _ _))
 · exact tf
def xB: ∀(n:Nat) (l:List Stm) (r:Rd),Rk r→(∀s∈l,StmK s)→ ∀s∈(fL n l r).1,StmK s
 |0,l,r,_,hl=>hl
 |n+1,l,r,h,hl=>by
  unfold fL;split
  · exact hl
  · refine xB n _ _ ((h.sf (zc r)).sf (bJ _ _)) (fun s hs=> ?_);rcases mA hs with hs|hs
    · exact hl s hs
    · rw[List.mem_singleton.1 hs];exact MP r h
def uL(x:Str): ∀s∈(cj x).1,StmK s:=by
 unfold cj;split
 · simp
 rename_i hx;obtain⟨h1,h2⟩:=Lz x C;have hk:Rk (nM x):=⟨h1,by omega⟩
 split
 · simp
 split
 · simp
 · exact xB _ _ _ hk sP
end Go.Proofs.Y
namespace Go.Proofs.Y
open Go.Abs
def gR{c:Cat}{ps:List Pg}{D:Str→List (List Val)}(h:DB c ps D){t:Tab}(ht:t∈c.ts):(ci ps t (ei t.n)).Perm (D t.n):=by
 obtain⟨_,P,hp,hP⟩:=BI (Hold:=fun _=>True) h ht;rw[List.filter_eq_self.2 (fun r hr=>hP r hr trivial)] at hp;exact hp
def FV{c:Cat}{ps:List Pg}{D:Str→List (List Val)}(h:DB c ps D){t:Tab}(ht:t∈c.ts){row:List Val}(hn:(getM ps (ap t.n (row.getD 0 af))).2=false): ∀r∈D t.n,r.getD 0 af≠row.getD 0 af:=fun r hr e=>by
 have:(getM ps (ap t.n (row.getD 0 af))).2=true:=(IF h.good).2 ⟨de r,(h.mem _ _).2 ⟨t,ht,r,hr,.inl ⟨by rw[jF,e],rfl⟩⟩⟩;rw[this] at hn;cases hn
def Gm{t:Tab}(hg:cw t=true){i:Nat}{c:Col}(hc:t.cols[i]?=some c):c.t=1∨c.t=2:=by
 simp only[cw,aE] at hg;have:=aT hg.1 (c,i) (List.mem_zipIdx_iff_getElem?.2 hc);simp only[tJ,Bool.not_eq_true',Bool.or_eq_false_iff,Bool.and_eq_false_iff,bne_eq_false_iff_eq] at this;exact this.1.2
def KI{t:Tab}(hg:cw t=true){row:List Val}(hl:row.length=t.cols.length)(hok: ∀(i:Nat) (c:Col),t.cols[i]?=some c→ug c.t (row.getD i af))(hf:zO t row=true):jM t row=true:=by
 rw[jM,aE];refine⟨by simp[hl],List.all_eq_true.2 (fun p hp=> ?_)⟩;obtain⟨c,i⟩:=p;have hc:=List.mem_zipIdx_iff_getElem?.1 hp;dsimp only at hc⊢;have ht:=Gm hg hc;obtain⟨h1,h2⟩:=hok i c hc;have hi:=(gS hc).1;have hb:nK t row i=false:=by
  cases hb:nK t row i with
  |false=>rfl
  |true=>rw[LH hb] at hf;cases hf
 rw[nK,hc] at hb;dsimp only at hb;have hgd:=h2 C;generalize row.getD i af=v at*
 unfold DG;rw[hgd];rcases h1 with h1|h1
 · rw[h1] at hb⊢;have:c.m=false:=by simpa using hb
   simp[this]
 · simp[h1]
def KH{t:Tab}{row:List Val}(h:jM t row=true): ∀(i:Nat) (c:Col),t.cols[i]?=some c→ug c.t (row.getD i af):=fun i c hc=>by
 simp only[jM,aE] at h;have:=oG h.2 i c hc;rw[Nat.zero_add] at this;exact Fe this
def EI.sz{c:Cat}{ps:List Pg}{D:Str→List (List Val)}(h:EI c ps D):SzP ps:=⟨by have:=h.pages;omega,h.db.small⟩
def sZ{c:Cat}{ps:List Pg}{D:Str→List (List Val)}(h:EI c ps D){t:Tab}(ht:t∈c.ts){row:List Val}(hl:row.length=t.cols.length)(hok: ∀(i:Nat) (c:Col),t.cols[i]?=some c→ug c.t (row.getD i af)): ∃D',EI c (jI c ps t row).1 D':=by
 unfold jI;split
 · exact⟨D,h⟩
 rename_i hf;split
 · exact⟨D,h⟩
 rename_i hk;split
 · exact⟨D,h⟩
 rename_i h30;have hf:zO t row=true:=by simpa using hf
 have hfit:=KI (h.db.cat.tabs t ht) hl hok hf;have hp:=gR h.db ht;refine⟨_,h.db.put ht (sF hfit) (FV h.db ht (by simpa using hk)),fun u hu=> ?_,fun u hu r hr=> ?_⟩
 · by_cases e:u.n=t.n
   · rw[e,ct,gV];have:=hp.length_eq;simp only[lC,List.length_nil];omega
   · rw[fu e];exact h.few u hu
 · by_cases e:u.n=t.n
   · have e':=h.db.cat.tinj hu ht e;subst e';rw[ct] at hr;rcases mA hr with hr|hr
     · exact h.fits u hu r hr
     · rw[List.mem_singleton.1 hr];exact hfit
   · rw[fu e] at hr;exact h.fits u hu r hr
def oZ{c:Cat}{t:Tab}(ht:t∈c.ts): ∀(l:List (List Val)) {ps:List Pg},(∃D,EI c ps D)→(∀r∈l,r.length=t.cols.length∧ ∀(i:Nat) (c:Col),t.cols[i]?=some c→ug c.t (r.getD i af))→ ∃D,EI c (iM c t ps l).1 D
 | [],ps,h,_=>h
 |r::l,ps,⟨D,h⟩,hl=>by
  have hr:=hl r (List.mem_cons_self ..);have ha:=sZ h ht hr.1 hr.2;unfold iM;split
  · exact ha
  · exact oZ ht l ha (fun r' hr'=>hl r' (List.mem_cons_of_mem _ hr'))
def lW{c:Cat}{t:Tab}: ∀(R:List (List Val)) (ps:List Pg),(cg c t R ps).length≤ps.length
 | [],ps=>Nat.le_refl _
 |r::R,ps=>Nat.le_trans (lW R (gZ ps c t r)) (Gk ps c t r)
def va{c:Cat}{t:Tab}: ∀(R:List (List Val)) (ps:List Pg),(kQ c t R ps).length≤ps.length+R.length*(c.is.length+1)
 | [],ps=>by simp[kQ]
 |r::R,ps=>by
  have h1:=va (c:=c) (t:=t) R (lu ps c t r);have h2:=HO ps c t r;have e:kQ c t (r::R) ps=kQ c t R (lu ps c t r):=rfl;rw[e,lC,Nat.add_mul];omega
section
variable {c:Cat}{ps:List Pg}{D:Str→List (List Val)}
def rJ(h:DB c ps D){t:Tab}(ht:t∈c.ts)(pre:List Val)(e:Ex):(bU c t (pre.length:Int) e).i.length≤8∧(∀r∈ci ps t (bU c t (pre.length:Int) e),r∈D t.n)∧(ci ps t (bU c t (pre.length:Int) e)).length≤(D t.n).length∧ ∀r∈D t.n,bM e (pre++r)=true→r∈ci ps t (bU c t (pre.length:Int) e):=by
 obtain⟨h1,P,hp,hP⟩:=Ck h ht pre e;refine⟨h1,fun r hr=>(List.mem_filter.1 (hp.mem_iff.1 hr)).1,?_,fun r hr hh=>hp.mem_iff.2 (List.mem_filter.2 ⟨hr,hP r hr hh⟩)⟩;rw[hp.length_eq];exact List.length_filter_le ..
def kj(h:DB c ps D){t:Tab}(ht:t∈c.ts)(e:Ex):(bU c t 0 e).i.length≤8∧(∀r∈ci ps t (bU c t 0 e),r∈D t.n)∧(ci ps t (bU c t 0 e)).length≤(D t.n).length∧ ∀r∈D t.n,bM e r=true→r∈ci ps t (bU c t 0 e):=rJ h ht [] e
def nH(h:DB c ps D){t:Tab}(ht:t∈c.ts)(e:Ex)(r:List Val):r∈cJ c ps t e↔r∈D t.n∧bM e r=true:=by
 obtain⟨_,h1,_,h2⟩:=kj h ht e;rw[cJ,List.mem_mergeSort,List.mem_filter];exact⟨fun hh=>⟨h1 r hh.1,hh.2⟩,fun hh=>⟨h2 r hh.1 hh.2,hh.2⟩⟩
def wq(h:EI c ps D){t:Tab}(ht:t∈c.ts)(e:Ex):(cJ c ps t e).length≤30:=by
 obtain⟨_,_,h1,_⟩:=kj h.db ht e;have h2:=h.few t ht;have h3:=List.length_filter_le (bM e) (ci ps t (bU c t 0 e));rw[cJ,List.length_mergeSort];omega
def EI.drops(h:EI c ps D){t:Tab}(ht:t∈c.ts){R L':List (List Val)}(hR: ∀r∈R,r∈D t.n)(hL: ∀r,r∈L'↔r∈D t.n∧r∉R)(hs:L'.Sublist (D t.n)):EI c (cg c t R ps) (yS D t.n L'):=by
 refine⟨h.db.drops ht hR hL ((h.db.dis t ht).sublist hs),fun u hu=> ?_,fun u hu r hr=> ?_⟩
 · by_cases e:u.n=t.n
   · have:=h.few t ht;rw[e,ct];exact Nat.le_trans hs.length_le this
   · rw[fu e];exact h.few u hu
 · by_cases e:u.n=t.n
   · have e':=h.db.cat.tinj hu ht e;subst e';rw[ct] at hr;exact h.fits u hu r (hs.subset hr)
   · rw[fu e] at hr;exact h.fits u hu r hr
def EI.drop_chosen(h:EI c ps D){t:Tab}(ht:t∈c.ts)(e:Ex):EI c (cg c t (cJ c ps t e) ps) (yS D t.n ((D t.n).filter (fun r=> !bM e r))):=by
 have hm:=nH h.db ht e;refine h.drops ht (fun r hr=>((hm r).1 hr).1) (fun r=> ?_) List.filter_sublist;rw[List.mem_filter,hm];cases bM e r<;>simp
def xr{t:Tab}{row:List Val}(hr:jM t row=true): ∀(l:List Ast) (own:List Val),own.length=t.cols.length→(∀x∈l,0≤aU t x.co∧ug (eT t (aU t x.co)) (aC row x.e))→(∀(i:Nat) (c:Col),t.cols[i]?=some c→ug c.t (own.getD i af))→
 ∀(i:Nat) (c:Col),t.cols[i]?=some c→ug c.t ((l.foldl (fun own x=>own.set (aU t x.co).toNat (aC row x.e)) own).getD i af)
 | [],own,_,_,ho=>ho
 |x::l,own,hl,hx,ho=>by
  rw[List.foldl_cons];refine xr hr l _ (by rw[List.length_set];exact hl) (fun y hy=>hx y (List.mem_cons_of_mem _ hy)) (fun i c hc=> ?_);obtain⟨h1,h2⟩:=hx x (List.mem_cons_self ..);rw[List.getD_eq_getElem?_getD,List.getElem?_set];by_cases e:(aU t x.co).toNat=i
  · rw[if_pos e];have hi:=(gS hc).1;rw[if_pos (by rw[hl,e];exact hi)];have:eT t (aU t x.co)=c.t:=by rw[eT,e,List.getD_eq_getElem?_getD,hc];rfl
    rw[←this];exact h2
  · rw[if_neg e,←List.getD_eq_getElem?_getD];exact ho i c hc
def JQ{s b:Stm}(hU:Upd c s b){row:List Val}(hr:jM (ab c s.table).1 row=true): ∀x∈b.sets,0≤aU (ab c s.table).1 x.co∧ug (eT (ab c s.table).1 (aU (ab c s.table).1 x.co)) (aC row x.e):=fun x hx=>by
 obtain⟨h1,y,hy,h2⟩:=hU.sets x hx;refine⟨h1,xV (HI hr) (fun ho=>vP (hU.form y.e ?_) ho) h2⟩;simp only[du,List.mem_append,List.mem_map];exact .inl (.inr ⟨y,hy,rfl⟩)
def Eu{s b:Stm}(hU:Upd c s b){row:List Val}(hr:jM (ab c s.table).1 row=true):(cP (ab c s.table).1 b.sets row).length=(ab c s.table).1.cols.length∧ ∀(i:Nat) (cc:Col),(ab c s.table).1.cols[i]?=some cc→ug cc.t ((cP (ab c s.table).1 b.sets row).getD i af):=
 ⟨by rw[kC];exact(sF hr).1,xr hr b.sets row (sF hr).1 (JQ hU hr) (KH hr)⟩
def si(h:EI c ps D){s b:Stm}(hb:aJ c s=(b,0)): ∃D',EI (cL c ps b).cat (cL c ps b).ps D':=by
 obtain⟨hg,hfo,hp⟩:=eh hb;have hW:=qD hb;have hk:=eD hp;by_cases h123:s.kind=1∨s.kind=2∨s.kind=3
 · have hbs:=vd h123 hp;subst hbs;by_cases h1:b.kind=1
   · have e:cL c ps b=⟨bE c b,ps,lr,0⟩:=by simp[cL,h1]
     rw[e];rw[eM,if_pos h1] at hp;have he:=(Prod.mk.inj hp).2;unfold pI at he;split at he
     · cases he
     split at he
     · cases he
     rename_i hn;have hts: ∀t,t∈(bE c b).ts↔t=⟨b.name,b.cols⟩∨t∈c.ts:=fun t=>by
      have:(bE c b).ts=c.ts.take (aW (c.ts.map Tab.n) b.name)++⟨b.name,b.cols⟩::c.ts.drop (aW (c.ts.map Tab.n) b.name):=by simp[bE,h1]
      rw[this];exact ins_mem
     have hnn: ∀t∈c.ts,t.n≠b.name:=findT_none.1 (by simpa using hn);refine⟨_,h.db.create hW.good hts (by simp[bE,h1]) hnn,fun t ht=> ?_,fun t ht r hr=> ?_⟩
     · rcases(hts t).1 ht with rfl|ht'
       · rw[ct];simp
       · rw[fu (hnn t ht')];exact h.few t ht'
     · rcases(hts t).1 ht with rfl|ht'
       · rw[ct] at hr;cases hr
       · rw[fu (hnn t ht')] at hr;exact h.fits t ht' r hr
   · by_cases h2:b.kind=2
     · have e:cL c ps b=⟨bE c b,Bl (bE c b) ps (ab c b.table).1,lr,0⟩:=by simp[cL,h2]
       rw[e];rw[eM,if_neg h1,if_pos h2] at hp;have he:=(Prod.mk.inj hp).2;unfold vB at he;split at he
       · cases he
       split at he
       · cases he
       rename_i ht;simp only[not_or,Bool.not_eq_false,Int.not_lt] at ht;obtain⟨hm,hn⟩:=bX ht.1;have hts:(bE c b).ts=c.ts:=by simp[bE,h2]
       refine⟨D,h.db.mark hW.good (x:=⟨b.name,b.table,b.col⟩) hts (fun y=> ?_) hm hn.symm (fun r=>(gR h.db hm).mem_iff),fun t ht'=>h.few t (hts▸ht'),fun t ht'=>h.fits t (hts▸ht')⟩;have:(bE c b).is=c.is.take (aW (c.is.map Idx.n) b.name)++⟨b.name,b.table,b.col⟩::c.is.drop (aW (c.is.map Idx.n) b.name):=by simp[bE,h2]
       rw[this];exact ins_mem
     · have h3:b.kind=3:=C;have e:cL c ps b=⟨bE c b,cg (c:=c) (t:=(ab c b.name).1) (ci ps (ab c b.name).1 (ei (ab c b.name).1.n)) ps,lr,0⟩:=by simp[cL,h3]
       rw[e];rw[eM,if_neg h1,if_neg h2,if_pos h3] at hp;have he:=(Prod.mk.inj hp).2;cases hf:(ab c b.name).2 with
       |false=>rw[hf] at he;simp at he
       |true=>
        obtain⟨hm,hn⟩:=bX hf;have hpm:=gR h.db hm;have hE:=h.drops hm (R:=ci ps (ab c b.name).1 (ei (ab c b.name).1.n)) (L':= []) (fun r hr=>hpm.mem_iff.1 hr) (fun r=>⟨fun h=>(by cases h),fun h=>absurd (hpm.mem_iff.2 h.1) h.2⟩) (List.nil_sublist _);have hts: ∀t,t∈(bE c b).ts↔t∈c.ts∧t.n≠b.name:=fun t=>by simp[bE,h3]
        refine⟨_,hE.db.drop hW.good hts (fun x=>by simp[bE,h3]) (by rw[hn];exact ct _ _ _),fun t ht=>hE.few t ((hts t).1 ht).1,fun t ht=>hE.fits t ((hts t).1 ht).1⟩
 · by_cases h7:s.kind=7
   · have e:cL c ps b=⟨c,ps,⟨0,0,jO c ps b⟩,0⟩:=by
      rw[cL,if_neg C,if_neg C,if_neg C,if_neg C,if_neg C,if_pos C]
     rw[e];exact⟨D,h⟩
   · have hkr:=sA (pJ hb).1;have h456:s.kind=4∨s.kind=5∨s.kind=6:=C;have hC:=zY h456 hp;have hU:=CK h456 hb;obtain⟨hm,hn⟩:=bX hC.tab;have hbt:b.table=s.table:=by rw[hC.eq]
     by_cases h4:s.kind=4
     · have e:cL c ps b=⟨c,(nO c ps (ab c b.table).1 b).1,⟨0,if(nO c ps (ab c b.table).1 b).2=0 then(b.rows.length:Int) else 0,[]⟩,(nO c ps (ab c b.table).1 b).2⟩:=by
        rw[cL,if_neg C,if_neg C,if_pos C]
       rw[e,hbt];refine oZ hm _ ⟨D,h⟩ (fun r hr=> ?_);obtain⟨r',hr',rfl⟩:=mM hr;rw[hC.eq] at hr';obtain⟨r0,hr0,rfl⟩:=mM hr';have h0:=mY hC.rowsE _ (List.mem_map_of_mem (f:=fun r=>(eI (ab c s.table).1 r).2) hr0);obtain⟨h5,h6⟩:=AS h0 (fun e he=>hfo e (by
        simp only[du,List.mem_append];exact .inl (.inl (.inr (List.mem_flatten.2 ⟨r0,hr0,he⟩)))))
       exact⟨by rw[lM];exact h5,h6⟩
     by_cases h5:s.kind=5
     · have e:cL c ps b=⟨c,cg c (ab c b.table).1 (cJ c ps (ab c b.table).1 b.wh) ps,⟨0,((cJ c ps (ab c b.table).1 b.wh).length:Int),[]⟩,0⟩:=by
        rw[cL,if_neg C,if_neg C,if_neg C,if_pos C]
       rw[e,hbt];exact⟨_,h.drop_chosen hm b.wh⟩
     · have e:cL c ps b=⟨c,(rM c ps (ab c b.table).1 b (cJ c ps (ab c b.table).1 b.wh)).1,⟨0,if(rM c ps (ab c b.table).1 b (cJ c ps (ab c b.table).1 b.wh)).2=0 then((cJ c ps (ab c b.table).1 b.wh).length:Int) else 0,[]⟩,(rM c ps (ab c b.table).1 b (cJ c ps (ab c b.table).1 b.wh)).2⟩:=by
        rw[cL,if_neg C,if_neg C,if_neg C,if_neg C,if_pos C]
       rw[e,hbt];refine oZ hm _ ⟨_,h.drop_chosen hm b.wh⟩ (fun r hr=> ?_);obtain⟨r0,hr0,rfl⟩:=mM hr;have hr1:=((nH h.db hm b.wh r0).1 hr0).1;exact Eu hU (h.fits _ hm r0 hr1)
end
def yd(row:List Val): ∀{n:Nat} {e:Ex},Hgt n e→Hgt n (br row e)
 |0,e,h=>by cases h
 |n+1,.mk op v s name i l,h=>by
  rw[mP];split
  · exact .mk sP
  · cases h with
    |mk h=>exact .mk (fun x hx=>by obtain⟨y,hy,rfl⟩:=mM hx;exact yd row (h y hy))
def vG(row:List Val){m:Int}: ∀{e:Ex},Refs m e→Refs m (br row e)
 | .mk op v s name i l,h=>by
   rw[mP];cases h with
   |mk h0 h=>
    split
    · exact .mk (fun e=>by cases e) sP
    · exact .mk h0 (fun x hx=>by obtain⟨y,hy,rfl⟩:=mM hx;exact vG row (h y hy))
def FU(row:List Val){e:Ex}(h:e.op=0):(br row e).op=0:=by
 obtain⟨op,v,s,name,n,l⟩:=e;have h:op=0:=h;subst h;rw[mP,if_neg (fun h=>by have:=h.1;omega)];rfl
def FF{e:Ex}(h:e.op=0):(cQ e).length≤549755813888∧ ∀p∈cQ e,(bo p).1= -1:=by
 obtain⟨op,v,s,name,n,l⟩:=e;have h:op=0:=h;subst h;rw[gW v s name n (fun e=>by have:=e.1;omega)];refine⟨by simp,fun p hp=> ?_⟩;rw[List.mem_singleton] at hp;rw[hp,bo,if_pos (.inl (by simp[Ex.op_mk]))]
def Bp(row:List Val){ts:List Tab}{e b:Ex}(hw:dO ts e=(b,0))(hg:e.op≠0→bY 1 e=true):(cQ (br row b)).length≤549755813888∧ ∀p∈cQ (br row b),-1≤(bo p).1∧(bo p).1≤lY ts:=by
 unfold dO at hw;split at hw
 · rename_i h0;have e1:e=b:=(Prod.mk.inj hw).1;subst e1;obtain⟨h1,h2⟩:=FF (FU row h0);exact⟨h1,fun p hp=>by have:=h2 p hp;omega⟩
 · rename_i h0;unfold dw at hw;split at hw
   · rename_i h1;exact absurd (Prod.mk.inj hw).2 h1
   · split at hw
     · exact absurd (Prod.mk.inj hw).2 dD
     · have e1:(an ts e).1=b:=(Prod.mk.inj hw).1;rw[←e1];exact⟨pw (yd row (wC ts 39 (vO 40 (hg h0)))),fun p hp=>wx C (nn (vG row (sY ts e)) p hp)⟩
def GoodC.szc{c:Cat}(h:GoodC c):SzC c:=⟨by have:=h.il;omega,fun x hx=>by have:=fA (h.idx x hx).1;omega⟩
def GoodC.szt{c:Cat}(h:GoodC c)(n:Str):SzT (ab c n).1:=by
 cases hf:(ab c n).2 with
 |true=>
  have hm:=(bX hf).1;have:=fA (h.tname hm);have:=h.wide hm;exact⟨by omega,by omega⟩
 |false=>
  have:(ab c n).1=⟨[],[]⟩:=by
   unfold ab at hf⊢;split at hf
   · cases hf
   · rfl
  rw[this];exact⟨by simp,by simp⟩
def wH{c:Cat}(h:GoodC c): ∀{l:List Str},(∀n∈l,(ab c n).2=true)→lY (l.map fun n=>(ab c n).1)≤l.length*4
 | [],_=>by simp[lY]
 |n::l,hn=>by
  have h1:=h.wide (bX (hn n (List.mem_cons_self ..))).1;have h2:=wH h (l:=l) (fun m hm=>hn m (List.mem_cons_of_mem _ hm));rw[List.map_cons,lC];have e:lY ((ab c n).1::l.map fun n=>(ab c n).1)=(ab c n).1.cols.length+lY (l.map fun n=>(ab c n).1):=by simp[lY]
  rw[e];omega
end Go.Proofs.Y
namespace Go.Proofs.Y
open Go.Abs Go.Proofs.Tryz
attribute [local irreducible] L Code.wp bodyPost Exit.then Exit.inBlock
def MC{L:List Nat}{c:Cat}{ps:List Pg}{n:Int}{R:List (List Val)}:((1010,bQ c ps n):: [(1000,bv R)]).all (fun p=>AV.mentsIn L p.2.cs)=true:=by
 have:=cZ (L:=L) (l:=R) (id:=1000);simp only[List.all_cons,List.all_nil,Bool.and_true] at this;simp only[List.all_cons,List.all_nil,Bool.and_true,this,Bool.and_true];rfl
def Dl{gs:au}(c:Cat)(ps:List Pg)(n:Int)(s:Stm)(t:Tab)(b:Bool)
 (k1:CallA prog 53 [.agg (c.c.map .iv),aS s.table] [] [] [] (.tup [.agg (t.c.map .iv),.iv (B b)])) (d:Cat) (hk:s.kind=1)
 (kw:CallG gs prog 99 [.agg (c.c.map .iv),.agg (s.cs.map .iv)] [] [] [] (.agg (d.c.map .iv))):
 CallG gs prog 60 [.ptr 1010 0,.agg (s.cs.map .iv)] [(1010,bQ c ps n)] [(1010,bQ d ps n)] [] (.tup [wT 0 0,aI 0]):=by
 refine iG func60 ntmps60 (fun w0 E0 hG=> ?_);have q2:(s.kind==2)=false:=by rw[hk];rfl
 have q3:(s.kind==3)=false:=by rw[hk];rfl
 have q4:(s.kind==4)=false:=by rw[hk];rfl
 have q5:(s.kind==5)=false:=by rw[hk];rfl
 have q6:(s.kind==6)=false:=by rw[hk];rfl
 have q7:(s.kind==7)=false:=by rw[hk];rfl
 (repeat' first|intro hb hp|refine um rfl hG kw rfl rfl ?_|refine am ?_|refine ak ?_ ?_|fail)
 all_goals exact L.ends U U (Sub.tup (.cons (Sub.agg (.cons sE (.cons sE (.cons Sub.nils .nil)))) (.cons sE .nil))) wK
def HV{gs:au}(c:Cat)(ps:List Pg)(n:Int)(s:Stm)(t:Tab)(b:Bool)
 (k1:CallA prog 53 [.agg (c.c.map .iv),aS s.table] [] [] [] (.tup [.agg (t.c.map .iv),.iv (B b)])) (d:Cat) (qs:List Pg) (hk:s.kind=2)
 (kw:CallG gs prog 99 [.agg (c.c.map .iv),.agg (s.cs.map .iv)] [] [] [] (.agg (d.c.map .iv)))
 (km:CallG gs prog 93 [.ptr 1010 0,.agg (s.cs.map .iv),.agg (t.c.map .iv)] [(1010,bQ c ps n)] [(1010,bQ c qs n)] [] (.tup [])):
 CallG gs prog 60 [.ptr 1010 0,.agg (s.cs.map .iv)] [(1010,bQ c ps n)] [(1010,bQ d qs n)] [] (.tup [wT 0 0,aI 0]):=by
 refine iG func60 ntmps60 (fun w0 E0 hG=> ?_);have q2:(s.kind==2)=true:=by rw[hk];rfl
 have q3:(s.kind==3)=false:=by rw[hk];rfl
 have q4:(s.kind==4)=false:=by rw[hk];rfl
 have q5:(s.kind==5)=false:=by rw[hk];rfl
 have q6:(s.kind==6)=false:=by rw[hk];rfl
 have q7:(s.kind==7)=false:=by rw[hk];rfl
 (repeat' first|intro hb hp|refine um rfl hG kw rfl rfl ?_|refine ac [] rfl hG km fS B1 rfl rfl rfl rfl ?_|refine am ?_|refine ak ?_ ?_|fail)
 all_goals exact L.ends U U (Sub.tup (.cons (Sub.agg (.cons sE (.cons sE (.cons Sub.nils .nil)))) (.cons sE .nil))) wK
def Dj{gs:au}(c:Cat)(ps:List Pg)(n:Int)(s:Stm)(t:Tab)(b:Bool)
 (k1:CallA prog 53 [.agg (c.c.map .iv),aS s.table] [] [] [] (.tup [.agg (t.c.map .iv),.iv (B b)])) (qs:List Pg) (m e:Int) (hk:s.kind=4)
 (km:CallG gs prog 95 [.ptr 1010 0,.agg (s.cs.map .iv),.agg (t.c.map .iv)] [(1010,bQ c ps n)] [(1010,bQ c qs n)] [] (.tup [wT 0 m,aI e])):
 CallG gs prog 60 [.ptr 1010 0,.agg (s.cs.map .iv)] [(1010,bQ c ps n)] [(1010,bQ c qs n)] [] (.tup [wT 0 m,aI e]):=by
 refine iG func60 ntmps60 (fun w0 E0 hG=> ?_);have q2:(s.kind==2)=false:=by rw[hk];rfl
 have q3:(s.kind==3)=false:=by rw[hk];rfl
 have q4:(s.kind==4)=true:=by rw[hk];rfl
 have q5:(s.kind==5)=false:=by rw[hk];rfl
 have q6:(s.kind==6)=false:=by rw[hk];rfl
 have q7:(s.kind==7)=false:=by rw[hk];rfl
 (repeat' first|intro hb hp|refine ac [] rfl hG km fS B1 rfl rfl rfl rfl ?_|refine am ?_|refine ak ?_ ?_|fail)
 all_goals exact L.ends U U fR wK
def Dh{gs:au}(c:Cat)(ps:List Pg)(n:Int)(s:Stm)(t:Tab)(b:Bool)
 (k1:CallA prog 53 [.agg (c.c.map .iv),aS s.table] [] [] [] (.tup [.agg (t.c.map .iv),.iv (B b)])) (qs:List Pg) (m e:Int) (hk:s.kind=6)
 (km:CallG gs prog 97 [.ptr 1010 0,.agg (s.cs.map .iv),.agg (t.c.map .iv)] [(1010,bQ c ps n)] [(1010,bQ c qs n)] [] (.tup [wT 0 m,aI e])):
 CallG gs prog 60 [.ptr 1010 0,.agg (s.cs.map .iv)] [(1010,bQ c ps n)] [(1010,bQ c qs n)] [] (.tup [wT 0 m,aI e]):=by
 refine iG func60 ntmps60 (fun w0 E0 hG=> ?_);have q2:(s.kind==2)=false:=by rw[hk];rfl
 have q3:(s.kind==3)=false:=by rw[hk];rfl
 have q4:(s.kind==4)=false:=by rw[hk];rfl
 have q5:(s.kind==5)=false:=by rw[hk];rfl
 have q6:(s.kind==6)=true:=by rw[hk];rfl
 have q7:(s.kind==7)=false:=by rw[hk];rfl
 (repeat' first|intro hb hp|refine ac [] rfl hG km fS B1 rfl rfl rfl rfl ?_|refine am ?_|refine ak ?_ ?_|fail)
 all_goals exact L.ends U U fR wK
def Di{gs:au}(c:Cat)(ps:List Pg)(n:Int)(s:Stm)(t:Tab)(b:Bool)
 (k1:CallA prog 53 [.agg (c.c.map .iv),aS s.table] [] [] [] (.tup [.agg (t.c.map .iv),.iv (B b)])) (R:List (List Val)) (hk:s.kind=7)
 (km:CallG gs prog 98 [.ptr 1010 0,.agg (s.cs.map .iv)] [(1010,bQ c ps n)] [(1010,bQ c ps n)] [] (.iv (.sl (R.map ai)))):
 CallG gs prog 60 [.ptr 1010 0,.agg (s.cs.map .iv)] [(1010,bQ c ps n)] [(1010,bQ c ps n)] [] (.tup [.agg [aI 0,aI 0,.iv (.sl (R.map ai))],aI 0]):=by
 refine iG func60 ntmps60 (fun w0 E0 hG=> ?_);have q2:(s.kind==2)=false:=by rw[hk];rfl
 have q3:(s.kind==3)=false:=by rw[hk];rfl
 have q4:(s.kind==4)=false:=by rw[hk];rfl
 have q5:(s.kind==5)=false:=by rw[hk];rfl
 have q6:(s.kind==6)=false:=by rw[hk];rfl
 have q7:(s.kind==7)=true:=by rw[hk];rfl
 (repeat' first|intro hb hp|refine ac [] rfl hG km fS B1 rfl rfl rfl rfl ?_|refine am ?_|refine ak ?_ ?_|fail)
 all_goals exact L.ends U U (Sub.tup (.cons (Sub.agg (.cons sE (.cons sE (.cons sE .nil)))) (.cons sE .nil))) wK
def HW{gs:au}(c:Cat)(ps:List Pg)(n:Int)(s:Stm)(t:Tab)(b:Bool)
 (k1:CallA prog 53 [.agg (c.c.map .iv),aS s.table] [] [] [] (.tup [.agg (t.c.map .iv),.iv (B b)])) (d:Cat) (u:Tab) (b2:Bool) (R:List (List Val)) (hk:s.kind=3)
 (kw:CallG gs prog 99 [.agg (c.c.map .iv),.agg (s.cs.map .iv)] [] [] [] (.agg (d.c.map .iv)))
 (hc:SzC c) (ht:SzT u) (hD: ∀i,(cg c u (R.take i) ps).length≤1000000) (hR: ∀r∈R,r.length≤1000000) (hRl:R.length≤1000000)
 (k2:CallA prog 53 [.agg (c.c.map .iv),aS s.name] [] [] [] (.tup [.agg (u.c.map .iv),.iv (B b2)]))
 (ka:CallA prog 28 [aS u.n] [] [] [] (.agg ((ei u.n).c.map .iv)))
 (kr:CallA prog 27 [.agg [.iv (.sl (ps.map Pg.c))],.agg (u.c.map .iv),.agg ((ei u.n).c.map .iv)] [] [] [] (.iv (.sl (R.map ai)))):
 CallG gs prog 60 [.ptr 1010 0,.agg (s.cs.map .iv)] [(1010,bQ c ps n)] [(1010,bQ d (cg c u R ps) n)] [] (.tup [wT 0 0,aI 0]):=by
 have htl:=ht.tl;have hil:=hc.il;refine iG func60 ntmps60 (fun w0 E0 hG=> ?_);have q2:(s.kind==2)=false:=by rw[hk];rfl
 have q3:(s.kind==3)=true:=by rw[hk];rfl
 have q4:(s.kind==4)=false:=by rw[hk];rfl
 have q5:(s.kind==5)=false:=by rw[hk];rfl
 have q6:(s.kind==6)=false:=by rw[hk];rfl
 have q7:(s.kind==7)=false:=by rw[hk];rfl
 have hRm:((R.map ai).length:Int)=(R.length:Int):=by rw[lM]
 refine wz ?_;refine ae (ι:=Nat) (fun i=>⟨[(53,aI (i:Int)),(52,aI (R.length:Int)),(51,.iv (.sl (R.map ai))),(0,.ptr 1010 0),(3,.ptr 3 0),(4,.ptr 4 0),(6,.ptr 6 0)],[(1010,bQ c (cg c u (R.take i) ps) n),(3,⟨80,.l (s.cs.map .iv)⟩),(4,⟨69,.l [aI 0,aI 0,.nils]⟩),(6,⟨57,.l (u.c.map .iv)⟩)],[]⟩) (fun i=>R.length - i) (fun i=>True) (i0:=0) ?_ trivial ?_
 · exact(Wk.mk' kK (wG (.cons U (Sub.of_eq (congrArg (fun k:Int=>AV.iv (I k)) hRm)) (wG F4))) B4 .nil)
 intro i _ K hK;cases hx:R[i]? with
 |none=>
  have q:decide ((i:Int)<(R.length:Int))=false:=decide_eq_false (by have:=gO hx;omega);rw[bc hx];clear hK hD;(repeat' first|intro hb hp|refine um rfl hG kw rfl rfl ?_|refine am ?_|refine ak ?_ ?_|fail)
  all_goals exact L.ends U U (Sub.tup (.cons (Sub.agg (.cons sE (.cons sE (.cons Sub.nils .nil)))) (.cons sE .nil))) wK
 |some r=>
  have hlt':=eP hx;have q:decide ((i:Int)<(R.length:Int))=true:=decide_eq_true C;have hr:=hR r (gE hx);have hi:=hD i;have g1:(R.map ai)[((i:Nat):Int).toNat]?=some [.sl (r.map Val.c)]:=by rw[iN,gP,hx];rfl
  have hstep:cg c u (R.take (i+1)) ps=gZ (cg c u (R.take i) ps) c u r:=mW _ hx ps;generalize cg c u (R.take i) ps=q1 at*
  have kd:=sK q1 c u r C C ht.tn C C hc.inn;rw[←hstep] at kd;clear hD;refine wz ?_;exact hK _ (i+1) trivial C wK
def Dk{gs:au}(c:Cat)(ps:List Pg)(n:Int)(s:Stm)(t:Tab)(b:Bool)
 (k1:CallA prog 53 [.agg (c.c.map .iv),aS s.table] [] [] [] (.tup [.agg (t.c.map .iv),.iv (B b)])) (R:List (List Val)) (hk:s.kind=5)
 (hc:SzC c) (ht:SzT t) (hD: ∀i,(cg c t (R.take i) ps).length≤1000000) (hR: ∀r∈R,r.length≤1000000) (hRl:R.length≤1000000)
 (kc:CallG gs prog 96 [.ptr 1010 0,.agg (t.c.map .iv),.agg (s.wh.cs.map .iv)] [(1010,bQ c ps n)] ((1010,bQ c ps n)::CB 1000 R) [] (Fc 1000 R)):
 CallG gs prog 60 [.ptr 1010 0,.agg (s.cs.map .iv)] [(1010,bQ c ps n)] [(1010,bQ c (cg c t R ps) n)] [] (.tup [wT 0 (R.length:Int),aI 0]):=by
 have htl:=ht.tl;have hil:=hc.il;refine iG func60 ntmps60 (fun w0 E0 hG=> ?_);have q2:(s.kind==2)=false:=by rw[hk];rfl
 have q3:(s.kind==3)=false:=by rw[hk];rfl
 have q4:(s.kind==4)=false:=by rw[hk];rfl
 have q5:(s.kind==5)=true:=by rw[hk];rfl
 have q6:(s.kind==6)=false:=by rw[hk];rfl
 have q7:(s.kind==7)=false:=by rw[hk];rfl
 have hRm:((R.map ai).length:Int)=(R.length:Int):=by rw[lM]
 apply L.tail (ι:=Unit) (fun _=>⟨[(89,aI 0),(88,aI (R.length:Int)),(87,.iv (.sl (R.map ai))),(10,.iv (.sl (R.map ai))),(0,.ptr 1010 0),(3,.ptr 3 0),(4,.ptr 4 0),(6,.ptr 6 0)],[(1010,bQ c ps n),(3,⟨80,.l (s.cs.map .iv)⟩),(4,⟨69,.l [aI 0,aI 0,.nils]⟩),(6,⟨57,.l (t.c.map .iv)⟩)],[]⟩) (fun _=>True)
 · intro tailA;by_cases hRe:R= []
   · rw[hRe] at kc;(repeat' first|intro hb hp|refine ac [] rfl hG kc fS B1 rfl rfl rfl rfl ?_|refine am ?_|refine ak ?_ ?_|fail)
     exact tailA () _ trivial (Wk.mk' kK (wG (.cons U (Sub.of_eq (by rw[hRe];rfl)) (.cons U (by rw[hRe];exact Sub.nils) (.cons U (by rw[hRe];exact Sub.nils) F4)))) B4 .nil)
   · rw[oE hRe,mi hRe] at kc;have hne':R.map ai≠ []:=fun h=>hRe (List.map_eq_nil_iff.1 h)
     have rR:=jD R;have hRl':(R.map ai).length=R.length:=lM _;(repeat' first|intro hb hp|apply ac [1000];rfl;exact hG;exact kc;exact fS;exact B1;rfl;rfl;exact MC;rfl;refine LW.mk ?_;refine L.pubS 1000 86 (es:=R.map ai) (k:=1) U U rR dD hne' hRl' U .here ?_;refine LW.out ?_|refine am ?_|refine ak ?_ ?_|fail)
     exact tailA () _ trivial (Wk.mk' kK (wG (.cons U (Sub.of_eq (congrArg (fun k:Int=>AV.iv (I k)) hRm)) (wG (wG F4)))) B4 .nil)
 intro _ _;clear kc;refine ae (ι:=Nat) (fun i=>⟨[(89,aI (i:Int)),(88,aI (R.length:Int)),(87,.iv (.sl (R.map ai))),(10,.iv (.sl (R.map ai))),(0,.ptr 1010 0),(3,.ptr 3 0),(4,.ptr 4 0),(6,.ptr 6 0)],[(1010,bQ c (cg c t (R.take i) ps) n),(3,⟨80,.l (s.cs.map .iv)⟩),(4,⟨69,.l [aI 0,aI 0,.nils]⟩),(6,⟨57,.l (t.c.map .iv)⟩)],[]⟩) (fun i=>R.length - i) (fun i=>True) (i0:=0) ?_ trivial ?_
 · exact(Wk.mk' kK (wG (wG (wG F5))) B4 .nil)
 intro i _ K hK;cases hx:R[i]? with
 |none=>
  have q:decide ((i:Int)<(R.length:Int))=false:=decide_eq_false (by have:=gO hx;omega);rw[bc hx];clear hK hD;refine wz ?_;all_goals exact L.ends U U (Sub.tup (.cons (Sub.agg (.cons sE (.cons (Sub.of_eq (congrArg (fun k:Int=>AV.iv (I k)) hRm)) (.cons Sub.nils .nil)))) (.cons sE .nil))) wK
 |some r=>
  have hlt':=eP hx;have q:decide ((i:Int)<(R.length:Int))=true:=decide_eq_true C;have hr:=hR r (gE hx);have hi:=hD i;have g1:(R.map ai)[((i:Nat):Int).toNat]?=some [.sl (r.map Val.c)]:=by rw[iN,gP,hx];rfl
  have hstep:cg c t (R.take (i+1)) ps=gZ (cg c t (R.take i) ps) c t r:=mW _ hx ps;generalize cg c t (R.take i) ps=q1 at*
  have kd:=sK q1 c t r C C ht.tn C C hc.inn;rw[←hstep] at kd;clear hD;refine wz ?_;exact hK _ (i+1) trivial C (Wk.mk' kK (wF F7) B4 .nil)
def uo{gs:au}(c:Cat)(s:Stm)(hg:GoodC c)(hT:s.kind=2∨s.kind=3→c.ts≠ []):
 CallG gs prog 99 [.agg (c.c.map .iv),.agg (s.cs.map .iv)] [] [] [] (.agg ((bE c s).c.map .iv)):=by
 have hE:c.ts= [] →c.is= []:=fun h=>by
  refine List.eq_nil_iff_forall_not_mem.2 (fun x hx=> ?_);have:=(bX (hg.idx x hx).2.1).1;rw[h] at this;cases this
 have htl:=hg.tl;have hil:=hg.il;have fT:Falls (fun x=>decide (x<s.name)) (c.ts.map Tab.n):=nC _ hg.tn;have fX:Falls (fun x=>decide (x<s.name)) (c.is.map Idx.n):=nC _ hg.xn;have hN:c.ts.filter (fun x=> !(x.n==s.name))= [] →c.is.filter (fun x=> !(x.tb==s.name))= []:=fun h=>by
  refine List.eq_nil_iff_forall_not_mem.2 (fun x hx=> ?_);obtain⟨h1,h2⟩:=List.mem_filter.1 hx;have h3:=bX (hg.idx x h1).2.1;have:(ab c x.tb).1∈c.ts.filter (fun x=> !(x.n==s.name)):=List.mem_filter.2 ⟨h3.1,by rw[h3.2];exact h2⟩;rw[h] at this;cases this
 obtain⟨ts,is⟩:=c;dsimp only at hE htl hil fT fX hN hT;by_cases h1:s.kind=1
 · have k1:(s.kind==1)=true:=by simpa using h1
   rw[show bE ⟨ts,is⟩ s=⟨ts.take (aW (ts.map Tab.n) s.name)++⟨s.name,s.cols⟩::ts.drop (aW (ts.map Tab.n) s.name),is⟩ by simp[bE,h1]];by_cases hte:ts= []
   · have hie:=hE hte;subst hte;subst hie;exact GG s k1
   · by_cases hie:is= []
     · subst hie;exact GF s ts hte C fT k1
     · exact Af ⟨ts,is⟩ s hte hie htl hil k1 fT
 have k1:(s.kind==1)=false:=by simpa using h1
 by_cases h2:s.kind=2
 · have k2:(s.kind==2)=true:=by simpa using h2
   rw[show bE ⟨ts,is⟩ s=⟨ts,is.take (aW (is.map Idx.n) s.name)++⟨s.name,s.table,s.col⟩::is.drop (aW (is.map Idx.n) s.name)⟩ by simp[bE,h2]];by_cases hie:is= []
   · subst hie;exact Gz s ts (hT (.inl h2)) C k1 k2
   · exact Fs ⟨ts,is⟩ s (hT (.inl h2)) hie htl hil k1 k2 fX
 have k2:(s.kind==2)=false:=by simpa using h2
 by_cases h3:s.kind=3
 · have k3:(s.kind==3)=true:=by simpa using h3
   rw[show bE ⟨ts,is⟩ s=⟨ts.filter (fun x=> !(x.n==s.name)),is.filter (fun x=> !(x.tb==s.name))⟩ by simp[bE,h3]];have hte:=hT (.inr h3);have hitT:ts.filter (fun x=> !(x.n==s.name))= [] → ∃i x,(∀y∈ts.take i,(fun t:Tab=>t.n==s.name) y=false)∧ts[i]?=some x∧(fun t:Tab=>t.n==s.name) x=true:=fun h=>jg (fun hall=>hte (by
    refine List.eq_nil_iff_forall_not_mem.2 (fun t ht=> ?_);have:t∈ts.filter (fun x=> !(x.n==s.name)):=List.mem_filter.2 ⟨ht,by have:=hall t ht;simp only[this];rfl⟩;rw[h] at this;cases this))
   have hitX:is≠ [] →is.filter (fun x=> !(x.tb==s.name))= [] → ∃i x,(∀y∈is.take i,(fun t:Idx=>t.tb==s.name) y=false)∧is[i]?=some x∧(fun t:Idx=>t.tb==s.name) x=true:=fun hne h=>jg (fun hall=>hne (by
    refine List.eq_nil_iff_forall_not_mem.2 (fun t ht=> ?_);have:t∈is.filter (fun x=> !(x.tb==s.name)):=List.mem_filter.2 ⟨ht,by have:=hall t ht;simp only[this];rfl⟩;rw[h] at this;cases this))
   by_cases hie:is= []
   · subst hie;by_cases hf:ts.filter (fun x=> !(x.n==s.name))= []
     · obtain⟨i,x,a1,a2,a3⟩:=hitT hf;rw[hf];exact GB s ts hte C hf i x a1 a2 a3 k1 k2 k3
     · exact GD s ts hte C hf k1 k2 k3
   · by_cases hf:ts.filter (fun x=> !(x.n==s.name))= []
     · obtain⟨i,x,a1,a2,a3⟩:=hitT hf;obtain⟨j,y,b1,b2,b3⟩:=hitX hie (hN hf);have hN':=hN hf;rw[hf,hN'];exact GA s ts hte C hf i x a1 a2 a3 is hie C hN' j y b1 b2 b3 k1 k2 k3
     · by_cases hg':is.filter (fun x=> !(x.tb==s.name))= []
       · obtain⟨j,y,b1,b2,b3⟩:=hitX hie hg';rw[hg'];exact GC s ts hte C hf is hie C hg' j y b1 b2 b3 k1 k2 k3
       · exact Ae ⟨ts,is⟩ s hte hie htl hil k1 k2 k3 hf hg'
 have k3:(s.kind==3)=false:=by simpa using h3
 rw[show bE ⟨ts,is⟩ s=⟨ts,is⟩ by simp[bE,h1,h2,h3]];by_cases hte:ts= []
 · have hie:=hE hte;subst hte;subst hie;exact Gy s k1 k2 k3
 · by_cases hie:is= []
   · subst hie;exact Gx s ts hte C k1 k2 k3
   · exact CD ⟨ts,is⟩ s hte hie htl hil k1 k2 k3
abbrev gJ(gs:au)(c:Cat)(ps:List Pg)(n:Int)(b:Stm):Prop:=
 CallG gs prog 60 [.ptr 1010 0,.agg (b.cs.map .iv)] [(1010,bQ c ps n)] [(1010,bQ (cL c ps b).cat (cL c ps b).ps n)] [] (.tup [(cL c ps b).rep.av,aI (cL c ps b).e])
section
variable {gs:au}{c:Cat}{ps:List Pg}{D:Str→List (List Val)}{s b:Stm}
def ie(h:EI c ps D){t:Tab}(ht:t∈c.ts){r:List Val}(hr:r∈D t.n):r.length=t.cols.length∧1≤t.cols.length∧t.cols.length≤4:=⟨(h.db.fit t ht r hr).1,h.db.cat.wide ht⟩
def zh(h:EI c ps D){t:Tab}(ht:t∈c.ts){r:List Val}(hr:r∈D t.n):r≠ []:=fun e=>by
 have:=ie h ht hr;rw[e] at this;simp at this;omega
def wt(h:EI c ps D)(n:Int){t:Tab}(ht:t∈c.ts)(hz:SzT t){e:Ex}(he:e.Ok)(hp:(cQ e).length≤549755813888)(hb: ∀p∈cQ e,-1≤(bo p).1∧(bo p).1≤1000):
 CallG gs prog 96 [.ptr 1010 0,.agg (t.c.map .iv),.agg (e.cs.map .iv)] [(1010,bQ c ps n)] ((1010,bQ c ps n)::CB 1000 (cJ c ps t e)) [] (Fc 1000 (cJ c ps t e)):=by
 obtain⟨h1,h2,h3,_⟩:=kj h.db ht e;have h30:=h.few t ht;have hs:=h.sz;have hc:=h.db.cat.szc;have hl:=hs.len;have kw:=oT c t 0 e C C C (fun p hp'=>by have:=hb p hp';omega) hz.tn hz.tl hc.il hc.inn;have kr:=(rZ ps t (bU c t 0 e) C hs.sm hz.tn C).toG (gs:=gs);exact DW c ps n t e he (bU c t 0 e) _ C kw kr (fun x hx=>zh h ht (h2 x hx)) (fun x hx y hy e=>sL (h.db.dis t ht) (h2 x hx) (h2 y hy) e)
def mh(hg:GoodC c)(name:Str):CallA prog 53 [.agg (c.c.map .iv),aS name] [] [] [] (.tup [.agg ((ab c name).1.c.map .iv),.iv (B (ab c name).2)]):=
 gj c name (by have:=hg.tl;omega)
def Ie(h:EI c ps D)(n:Int)(hb:aJ c s=(b,0))(hk:b.kind=1):gJ gs c ps n b:=by
 have hW:=qD hb;have e:cL c ps b=⟨bE c b,ps,lr,0⟩:=by simp[cL,hk]
 unfold gJ;rw[e];exact Dl c ps n b _ _ (mh h.db.cat b.table) (bE c b) hk (uo c b h.db.cat hW.tne)
def Id(h:EI c ps D)(n:Int)(hb:aJ c s=(b,0))(hk:b.kind=2):gJ gs c ps n b:=by
 have hW:=qD hb;have e:cL c ps b=⟨bE c b,Bl (bE c b) ps (ab c b.table).1,lr,0⟩:=by simp[cL,hk]
 unfold gJ;rw[e];have kw:=uo (gs:=gs) c b h.db.cat hW.tne;obtain⟨hg,hfo,hp⟩:=eh hb;have hks:=(eD hp).1;have hbs:=vd C hp;subst hbs;rw[eM,if_neg C,if_pos hk] at hp;have he:=(Prod.mk.inj hp).2;unfold vB at he;split at he
 · cases he
 split at he
 · cases he
 rename_i ht;simp only[not_or,Bool.not_eq_false,Int.not_lt] at ht;obtain⟨hm,hn⟩:=bX ht.1;have hp30:=(gR h.db hm).length_eq;have h30:=h.few _ hm;have hpg:=h.pages;have hil:=hW.good.il;have hz:=h.db.cat.szt b.table;refine HV c ps n b _ _ (mh h.db.cat b.table) (bE c b) _ hk kw (Ii c (bE c b) ps n _ b hW.good.szc hz h.sz.len h.sz.sm kw (fun i=> ?_) (fun r hr=> ?_) C)
 · refine Nat.le_trans (va _ _) ?_;have h1:(List.take i (ci ps (ab c b.table).1 (ei (ab c b.table).1.n))).length≤30:=by rw[lT];omega
   have h2:(List.take i (ci ps (ab c b.table).1 (ei (ab c b.table).1.n))).length*((bE c b).is.length+1)≤30*5:=Nat.mul_le_mul h1 C;omega
 · have:=ie h hm ((gR h.db hm).mem_iff.1 hr);omega
def Ic(h:EI c ps D)(n:Int)(hb:aJ c s=(b,0))(hk:b.kind=3):gJ gs c ps n b:=by
 have hW:=qD hb;have e:cL c ps b=⟨bE c b,cg c (ab c b.name).1 (ci ps (ab c b.name).1 (ei (ab c b.name).1.n)) ps,lr,0⟩:=by simp[cL,hk]
 unfold gJ;rw[e];have kw:=uo (gs:=gs) c b h.db.cat hW.tne;obtain⟨hg,hfo,hp⟩:=eh hb;have hks:=(eD hp).1;have hbs:=vd C hp;subst hbs;rw[eM,if_neg C,if_neg C,if_pos hk] at hp;have he:=(Prod.mk.inj hp).2;cases hf:(ab c b.name).2 with
 |false=>rw[hf] at he;simp at he
 |true=>
  obtain⟨hm,hn⟩:=bX hf;have hp30:=(gR h.db hm).length_eq;have h30:=h.few _ hm;have hpg:=h.pages;have hz:=h.db.cat.szt b.name;exact HW c ps n b _ _ (mh h.db.cat b.table) (bE c b) _ _ _ hk kw h.db.cat.szc hz (fun i=>Nat.le_trans (lW _ _) C) (fun r hr=>by have:=ie h hm ((gR h.db hm).mem_iff.1 hr);omega) C
   (mh h.db.cat b.name) (oY _ hz.tn) (pk ps _ _ C h.sz.sm hz.tn (by simp[ei]))
def Ib(h:EI c ps D)(hs:StmK s)(n:Int)(hb:aJ c s=(b,0))(hk:b.kind=4):gJ gs c ps n b:=by
 obtain⟨hg,hfo,hp⟩:=eh hb;have hks:=(eD hp).1;have hC:=zY C hp;obtain⟨hm,hn⟩:=bX hC.tab;have hbt:b.table=s.table:=by rw[hC.eq]
 have hbr:b.rows=s.rows.map fun r=>(eI (ab c s.table).1 r).1:=by rw[hC.eq]
 have e:cL c ps b=⟨c,(nO c ps (ab c b.table).1 b).1,⟨0,if(nO c ps (ab c b.table).1 b).2=0 then(b.rows.length:Int) else 0,[]⟩,(nO c ps (ab c b.table).1 b).2⟩:=by
  rw[cL,if_neg C,if_neg C,if_pos C]
 unfold gJ;rw[e,hbt];have hz:=h.db.cat.szt s.table;have hw:=h.db.cat.wide hm;have hrow: ∀r∈b.rows,(r.length=(ab c s.table).1.cols.length∧ ∀e∈r,e.Ok)∧ ∀(i:Nat) (cc:Col),(ab c s.table).1.cols[i]?=some cc→ug cc.t ((r.map (aC [])).getD i af):=fun r hr=>by
  rw[hbr] at hr;obtain⟨r0,hr0,rfl⟩:=mM hr;have h0:=mY hC.rowsE _ (List.mem_map_of_mem (f:=fun r=>(eI (ab c s.table).1 r).2) hr0);obtain⟨h5,h6⟩:=AS h0 (fun e he=>hfo e (by
   simp only[du,List.mem_append];exact .inl (.inl (.inr (List.mem_flatten.2 ⟨r0,hr0,he⟩)))))
  exact⟨⟨h5,JT (fun e he=>((hs.row r0 hr0).2 e he).ok)⟩,h6⟩
 have hl:b.rows.length≤1000000:=by rw[hbr,lM];have:=hs.rows;omega
 have k1:CallA prog 53 [.agg (c.c.map .iv),aS b.table] [] [] [] (.tup [.agg ((ab c s.table).1.c.map .iv),.iv (B (ab c s.table).2)]):=by rw[hbt];exact mh h.db.cat s.table
 refine Dj c ps n b _ _ k1 _ _ _ hk (Du c ps n _ b (fun q=> ∃D,EI c q D) ⟨D,h⟩ (fun q ⟨D',h'⟩=>h'.sz) (fun q ⟨D',h'⟩ r hr=>sZ h' hm (by rw[lM];exact(hrow r hr).1.1) (hrow r hr).2) h.db.cat.szc hz hw.1 hl (fun r hr=>(hrow r hr).1))
def up(h:GoodC c)(hs:StmK s)(hfo: ∀e∈du s,bY 1 e=true){ts:List Tab}(hts:lY ts≤1000){w:Ex}(hw:dO ts s.wh=(w,0)):w.Ok∧(cQ w).length≤549755813888∧ ∀p∈cQ w,-1≤(bo p).1∧(bo p).1≤1000:=by
 have h1:=GH (ts:=ts) hs.wh.ok;rw[hw] at h1;obtain⟨h2,h3⟩:=Ag hw (fun h0=>hfo s.wh (by unfold du;rw[if_neg h0];simp));exact⟨h1,h2,fun p hp=>by have:=h3 p hp;omega⟩
def Ia(h:EI c ps D)(hs:StmK s)(n:Int)(hb:aJ c s=(b,0))(hk:b.kind=5):gJ gs c ps n b:=by
 obtain⟨hg,hfo,hp⟩:=eh hb;have hks:=(eD hp).1;have hC:=zY C hp;have hU:=CK C hb;obtain⟨hm,hn⟩:=bX hC.tab;have hbt:b.table=s.table:=by rw[hC.eq]
 have e:cL c ps b=⟨c,cg c (ab c b.table).1 (cJ c ps (ab c b.table).1 b.wh) ps,⟨0,((cJ c ps (ab c b.table).1 b.wh).length:Int),[]⟩,0⟩:=by
  rw[cL,if_neg C,if_neg C,if_neg C,if_pos C]
 unfold gJ;rw[e,hbt];have hz:=h.db.cat.szt s.table;have hw:=h.db.cat.wide hm;obtain⟨w1,w2,w3⟩:=up h.db.cat hs hfo (by simp[lY];omega) hU.wh;have kc:=wt (gs:=gs) h n hm hz w1 w2 w3;have hcl:=wq h hm b.wh;have hpg:=h.pages;have k1:CallA prog 53 [.agg (c.c.map .iv),aS b.table] [] [] [] (.tup [.agg ((ab c s.table).1.c.map .iv),.iv (B (ab c s.table).2)]):=by rw[hbt];exact mh h.db.cat s.table
 exact Dk c ps n b _ _ k1 _ hk h.db.cat.szc hz (fun i=>Nat.le_trans (lW _ _) C) (fun r hr=>by have:=ie h hm ((nH h.db hm b.wh r).1 hr).1;omega) C kc
def HZ(h:EI c ps D)(hs:StmK s)(n:Int)(hb:aJ c s=(b,0))(hk:b.kind=6):gJ gs c ps n b:=by
 obtain⟨hg,hfo,hp⟩:=eh hb;have hks:=(eD hp).1;have hC:=zY C hp;have hU:=CK C hb;obtain⟨hm,hn⟩:=bX hC.tab;have hbt:b.table=s.table:=by rw[hC.eq]
 have e:cL c ps b=⟨c,(rM c ps (ab c b.table).1 b (cJ c ps (ab c b.table).1 b.wh)).1,⟨0,if(rM c ps (ab c b.table).1 b (cJ c ps (ab c b.table).1 b.wh)).2=0 then((cJ c ps (ab c b.table).1 b.wh).length:Int) else 0,[]⟩,(rM c ps (ab c b.table).1 b (cJ c ps (ab c b.table).1 b.wh)).2⟩:=by
  rw[cL,if_neg C,if_neg C,if_neg C,if_neg C,if_pos C]
 unfold gJ;rw[e,hbt];have hz:=h.db.cat.szt s.table;have hw:=h.db.cat.wide hm;obtain⟨w1,w2,w3⟩:=up h.db.cat hs hfo (by simp[lY];omega) hU.wh;have kc:=wt (gs:=gs) h n hm hz w1 w2 w3;have hcl:=wq h hm b.wh;have hpg:=h.pages;have hin: ∀r∈cJ c ps (ab c s.table).1 b.wh,r∈D (ab c s.table).1.n:=fun r hr=>((nH h.db hm b.wh r).1 hr).1
 have k1:CallA prog 53 [.agg (c.c.map .iv),aS b.table] [] [] [] (.tup [.agg ((ab c s.table).1.c.map .iv),.iv (B (ab c s.table).2)]):=by rw[hbt];exact mh h.db.cat s.table
 refine Dh c ps n b _ _ k1 _ _ _ hk (CJ c ps n _ b _ (fun q=> ∃D,EI c q D) ⟨_,h.drop_chosen hm b.wh⟩ (fun q ⟨D',h'⟩=>h'.sz)
  (fun q ⟨D',h'⟩ r hr=> ?_) (fun i=>Nat.le_trans (lW _ _) C) h.db.cat.szc hz hw.1 C (fun r hr=>(ie h hm (hin r hr)).1) (by rw[hU.len];have:=hs.sets;omega) (fun x hx=> ?_) kc)
 · obtain⟨h5,h6⟩:=Eu hU (h.fits _ hm r (hin r hr));exact sZ h' hm h5 h6
 · obtain⟨h1,y,hy,h2⟩:=hU.sets x hx;have h3:=zx (ts:= [(ab c s.table).1]) (hs.set y hy).ok (eT (ab c s.table).1 (aU (ab c s.table).1 x.co));rw[h2] at h3;obtain⟨cc,hcc,_⟩:=Jl h1;have:=(gS hcc).1;exact⟨h1,by omega,h3⟩
def HY(h:EI c ps D)(hs:StmK s)(n:Int)(hb:aJ c s=(b,0))(hk:b.kind=7):gJ gs c ps n b:=by
 obtain⟨hg,hfo,hp⟩:=eh hb;have hks:=(eD hp).1;have hS:=HD C hp;have e:cL c ps b=⟨c,ps,⟨0,0,jO c ps b⟩,0⟩:=by
  rw[cL,if_neg C,if_neg C,if_neg C,if_neg C,if_neg C,if_pos C]
 unfold gJ;rw[e];refine Di c ps n b _ _ (mh h.db.cat b.table) _ hk ?_;have hlen:=hS.len;obtain⟨n0,hn0⟩: ∃n0,s.frm[0]?=some n0:=⟨_,gG C⟩
 have ht0:=hS.tab 0 n0 hn0;have hft: ∀m∈s.frm,(ab c m).2=true:=fun m hm=>by
  obtain⟨i,hi⟩:=List.getElem?_of_mem hm;exact hS.tab i m hi
 have hat:lY (s.frm.map fun n=>(ab c n).1)≤8:=Nat.le_trans (wH h.db.cat hft) C;obtain⟨hm,hn⟩:=bX ht0;obtain⟨w1,w2,w3⟩:=up h.db.cat hs hfo C hS.wh;have hd0:b.frm.getD 0 [] =n0:=by rw[hS.frm,List.getD_eq_getElem?_getD,hn0];rfl
 have hz:=h.db.cat.szt n0;have hc:=h.db.cat.szc;have hsz:=h.sz;have hl:=hsz.len;have k1:=mh h.db.cat n0;rw[ht0] at k1;obtain⟨f1,f2,f3,_⟩:=kj h.db hm b.wh;have h30:=h.few _ hm;have kw:=oT c (ab c n0).1 0 b.wh C C C (fun p hp'=>by have:=w3 p hp';omega) hz.tn hz.tl hc.il hc.inn;have kr:=(rZ ps (ab c n0).1 (bU c (ab c n0).1 0 b.wh) C hsz.sm hz.tn C).toG (gs:=gs);have hords: ∀e∈b.ord,e.Ok:=fun e he=>by
  rw[hS.ord] at he;obtain⟨y,hy,rfl⟩:=mM he;exact un _ y (hs.ords y hy).ok
 have hordl:b.ord.length≤140737488355328:=by rw[hS.ord,lM];have:=hs.ord;omega
 have houts: ∀e∈b.out,e.Ok:=fun e he=>by
  rcases hS.out e he with⟨h1,h2⟩|⟨y,hy,rfl⟩
  · obtain⟨op,v,s',name,i,l⟩:=e;have h2:l= []:=h2;subst h2;exact .mk sP sP
  · exact un _ y (hs.outs y hy).ok
 have houtl:b.out.length*104≤140737488355328:=by have:=hS.outL;have:=hs.out;omega
 unfold jO;rw[hd0];have wide:=h.db.cat.wide hm;have hfl:b.frm.length=s.frm.length:=by rw[hS.frm]
 have hJ1:b.frm.length≠2→ow c ps b (ci ps (ab c n0).1 (bU c (ab c n0).1 0 b.wh))=ci ps (ab c n0).1 (bU c (ab c n0).1 0 b.wh):=fun h2=>by rw[ow,if_neg h2]
 by_cases h2:s.frm.length=2
 · obtain⟨n1,hn1⟩: ∃n1,s.frm[1]?=some n1:=⟨_,gG C⟩
   have ht1:=hS.tab 1 n1 hn1;obtain⟨hm1,hnn1⟩:=bX ht1;have hd1:b.frm.getD 1 [] =n1:=by rw[hS.frm,List.getD_eq_getElem?_getD,hn1];rfl
   have hz1:=h.db.cat.szt n1;have k2:=mh h.db.cat n1;rw[ht1] at k2;have h31:=h.few _ hm1;have wide1:=h.db.cat.wide hm1;have hfb:b.frm.length=2:=C;have hJ:ow c ps b (ci ps (ab c n0).1 (bU c (ab c n0).1 0 b.wh))=(ci ps (ab c n0).1 (bU c (ab c n0).1 0 b.wh)).flatMap (fun x=>(ci ps (ab c n1).1 (bU c (ab c n1).1 (x.length:Int) (br x b.wh))).map (x++ ·)):=by
    rw[ow,if_pos hfb,hd1]
   have g2:=fun x=>rJ h.db hm1 x (br x b.wh)
   generalize hRR:ci ps (ab c n0).1 (bU c (ab c n0).1 0 b.wh)=R at*
   have mem: ∀z∈ow c ps b R,∃x∈D (ab c n0).1.n,∃y∈D (ab c n1).1.n,z=x++y:=fun z hz'=>by
    rw[hJ] at hz';obtain⟨x,hx,hz'⟩:=List.mem_flatMap.1 hz';obtain⟨y,hy,rfl⟩:=mM hz';exact⟨x,f2 x hx,y,(g2 x).2.1 y hy,rfl⟩
   have hJl:(ow c ps b R).length≤1000000:=by
    rw[hJ];refine Nat.le_trans (ld (k:=30) (fun x hx=> ?_)) C;rw[lM];have:=(g2 x).2.2.1;omega
   have getD0: ∀x∈D (ab c n0).1.n,∀y:List Val,(x++y).getD 0 af=x.getD 0 af∧(x++y).getD (ab c n0).1.cols.length af=y.getD 0 af:=fun x hx y=>by
    have hl:=(ie h hm hx).1;refine⟨?_,?_⟩
    · rw[List.getD_eq_getElem?_getD,List.getD_eq_getElem?_getD,gL C]
    · rw[List.getD_eq_getElem?_getD,List.getD_eq_getElem?_getD,List.getElem?_append_right C,hl,Nat.sub_self]
   refine pW c ps n b (ab c n0).1 (bU c (ab c n0).1 0 b.wh) R _ C hJl w1 hords hordl houts houtl n0 (by rw[hS.frm];exact hn0) k1 kw kr (fun hne=>absurd hfb hne) (fun _=> ?_) ?_ ?_ ?_
   · refine⟨n1,(ab c n1).1,fun x=>bU c (ab c n1).1 (x.length:Int) (br x b.wh),fun x=>ci ps (ab c n1).1 (bU c (ab c n1).1 (x.length:Int) (br x b.wh)),by rw[hS.frm];exact hn1,k2,fun x hx=> ?_,fun x hx=> ?_,hJ,fun x hx=> ?_⟩
     · have hxl:=(ie h hm (f2 x hx)).1;obtain⟨p1,p2⟩:=Bp x hS.wh (fun h0=>hfo s.wh (by unfold du;rw[if_neg h0];simp));exact oT c (ab c n1).1 (x.length:Int) (br x b.wh) C C C (fun p hp'=>by have:=p2 p hp';omega) hz1.tn hz1.tl hc.il hc.inn
     · exact(rZ ps (ab c n1).1 _ C hsz.sm hz1.tn (Nat.le_trans (g2 x).1 dD)).toG
     · have hxl:=(ie h hm (f2 x hx)).1;refine⟨by omega,fun y hy=> ?_⟩;have:=(ie h hm1 ((g2 x).2.1 y hy)).1;omega
   · intro z hz' e;obtain⟨x,hx,y,hy,rfl⟩:=mem z hz';exact zh h hm hx (List.append_eq_nil_iff.1 e).1
   · intro _ z hz';obtain⟨x,hx,y,hy,rfl⟩:=mem z hz';have h1:=(ie h hm hx).1;have h2:=(ie h hm1 hy).1;rw[gV];omega
   · refine xR (fun z hz' z2 hz2 e1 e2=> ?_);obtain⟨x,hx,y,hy,rfl⟩:=mem z (List.mem_filter.1 hz').1;obtain⟨x2,hx2,y2,hy2,rfl⟩:=mem z2 (List.mem_filter.1 hz2).1;have e2:=e2 C;rw[(getD0 x hx y).1,(getD0 x2 hx2 y2).1] at e1;rw[(getD0 x hx y).2,(getD0 x2 hx2 y2).2] at e2;rw[sL (h.db.dis _ hm) hx hx2 e1,sL (h.db.dis _ hm1) hy hy2 e2]
 · have hfb:b.frm.length≠2:=C;rw[hJ1 hfb];refine pW c ps n b (ab c n0).1 (bU c (ab c n0).1 0 b.wh) _ _ C C w1 hords hordl houts houtl n0 (by rw[hS.frm];exact hn0) k1 kw kr (fun _=>rfl) (fun he=>absurd he hfb) ?_ (fun h3=>by omega) ?_
   · intro x hx;exact zh h hm (f2 x hx)
   · refine xR (fun z hz' z2 hz2 e1 _=> ?_);exact sL (h.db.dis _ hm) (f2 z (List.mem_filter.1 hz').1) (f2 z2 (List.mem_filter.1 hz2).1) e1
def Kh(h:EI c ps D)(hs:StmK s)(n:Int)(hb:aJ c s=(b,0)):gJ gs c ps n b:=by
 obtain⟨hg,hfo,hp⟩:=eh hb;have hks:=(eD hp).1;have hkr:=sA (pJ hb).1;rcases(by omega:b.kind=1∨b.kind=2∨b.kind=3∨b.kind=4∨b.kind=5∨b.kind=6∨b.kind=7) with hk|hk|hk|hk|hk|hk|hk
 · exact Ie h n hb hk
 · exact Id h n hb hk
 · exact Ic h n hb hk
 · exact Ib h hs n hb hk
 · exact Ia h hs n hb hk
 · exact HZ h hs n hb hk
 · exact HY h hs n hb hk
end
def zw{gs:au}:CallG gs prog 32 [] [] [(1010,bQ ⟨[],[]⟩ [] 0)] [] (.ptr 1010 0):=by
 refine iG func32 ntmps32 (fun w0 E0 hG=> ?_);refine wz ?_;all_goals(refine gK [(2,1010)] U U U U ?_)
 all_goals(apply L.ends;rfl;rfl;exact fR;exact Wk.mk' kK .nil (.cons U U (.cons Sub.nils (.cons Sub.nils (.cons Sub.nils (.cons sE .nil)))) .nil) .nil)
def Cc(es:List (List IV))(hk: ∀e∈es,e.length=3)(hl:es.length≤1000000):
 CallA prog 50 [.iv (.sl es)] [] [] [] (.iv (.sl es)):=by
 by_cases hne:es= []
 · subst hne;refine iA func50 ntmps50 (fun w0 E0=> ?_);(repeat' first|intro hb hp|apply jW;rfl;rfl;rfl;rintro (_|_)|(refine LW.is ?_;first|apply dA;rfl;rfl;rfl;rfl;rfl|apply ag;rfl;apply qF;rfl;exact Sub.bslE _ _;rfl)|refine am ?_|refine ak ?_ ?_|fail)
   all_goals(apply L.ends;rfl;rfl;(first|exact Sub.nils|exact Sub.emp);exact Wk.mk' kK .nil .nil .nil)
 · have hm:es.length≤maxLen:=by rw[fC];omega
   have hb:es.length*32≤140737488355328:=C;refine iA func50 ntmps50 (fun w0 E0=> ?_);(repeat' first|intro hb hp|(refine LW.is ?_;first|apply ag;rfl;apply ju;rfl;rfl;exact hne|apply dA;rfl;rfl;rfl;rfl;rfl|apply jv 1000;rfl;rfl;rfl;exact hk;exact hne;exact hm;exact hb;rfl)|refine am ?_|refine ak ?_ ?_|fail)
   all_goals(refine L.pubS 1000 2 (es:=es) (k:=3) U U hk dD hne U U .here ?_)
   all_goals(apply L.ends;rfl;rfl;exact fR;exact Wk.mk' kK .nil .nil .nil)
def tG(es:List (List IV))(hk: ∀e∈es,e.length=1)(hl:es.length≤1000000):
 CallA prog 51 [.iv (.sl es)] [] [] [] (.iv (.sl es)):=by
 by_cases hne:es= []
 · subst hne;refine iA func51 ntmps51 (fun w0 E0=> ?_);(repeat' first|intro hb hp|apply jW;rfl;rfl;rfl;rintro (_|_)|(refine LW.is ?_;first|apply dA;rfl;rfl;rfl;rfl;rfl|apply ag;rfl;apply qF;rfl;exact Sub.bslE _ _;rfl)|refine am ?_|refine ak ?_ ?_|fail)
   all_goals(apply L.ends;rfl;rfl;(first|exact Sub.nils|exact Sub.emp);exact Wk.mk' kK .nil .nil .nil)
 · have hm:es.length≤maxLen:=by rw[fC];omega
   have hb:es.length*16≤140737488355328:=C;refine iA func51 ntmps51 (fun w0 E0=> ?_);(repeat' first|intro hb hp|(refine LW.is ?_;first|apply ag;rfl;apply ju;rfl;rfl;exact hne|apply dA;rfl;rfl;rfl;rfl;rfl|apply jv 1000;rfl;rfl;rfl;exact hk;exact hne;exact hm;exact hb;rfl)|refine am ?_|refine ak ?_ ?_|fail)
   all_goals(refine L.pubS 1000 2 (es:=es) (k:=1) U U hk dD hne U U .here ?_)
   all_goals(apply L.ends;rfl;rfl;exact fR;exact Wk.mk' kK .nil .nil .nil)
def Hj{gs:au}(c:Cat)(ps:List Pg)(n:Int)(hps:ps.length≤1000000)(hp: ∀p∈ps,p.ks.length≤1000∧p.vs.length≤1000):
 CallG gs prog 24 [.ptr 1010 0] [(1010,bQ c ps n)] [(1010,bQ c ps n)] [] (.agg [.iv (.sl (ps.map Pg.c))]):=by
 refine iG func24 ntmps24 (fun w0 E0 hG=> ?_);refine wz ?_;refine L.adoptB 3 108 93 2 U sP U U (.cons .here .nil) ?_;refine ae (ι:=Nat) (fun i=>⟨[(15,aI (i:Int)),(14,aI ((ps.map Pg.c).length:Int)),(13,.iv (.sl (ps.map Pg.c))),(2,.ptr 2 0),(3,.ptr 3 0)],
  [(1010,bQ c ps n),(2,⟨51,.l [.nils]⟩),(3,⟨51,.l [.row 108 ((ps.take i).map Pg.c)]⟩)],[(108,⟨93,2⟩)]⟩) (fun i=>ps.length - i) (fun i=>True) (i0:=0) ?_ trivial ?_
 · exact wL
 intro i _ K hK;cases hx:ps[i]? with
 |none=>
  have hlt:=fa (l:=ps.map Pg.c) (bf hx);rw[bc hx];clear hK;refine wz ?_;all_goals(apply L.ends;rfl;rfl;exact Sub.agg (.cons (Sub.row _ _) .nil);exact Wk.mk' kK .nil B1 .nil)
 |some p=>
  have hlt:=eZ (l:=ps.map Pg.c) (cq (f:=Pg.c) hx);have hlt':=eP hx;obtain⟨hp1,hp2⟩:=hp p (gE hx);have g1:(ps.map Pg.c)[((i:Nat):Int).toNat]?=some [.sl (p.ks.map Str.c),.sl (p.vs.map Str.c)]:=by rw[iN,gP,hx];rfl
  have n1:(ps.take (i+1)).map Pg.c=(ps.take i).map Pg.c++ [[.sl (p.ks.map Str.c),.sl (p.vs.map Str.c)]]:=by rw[dg hx,pA];rfl
  have l1:((ps.take i).map Pg.c).length=i:=by simp;omega
  have k1: ∀e∈(ps.take i).map Pg.c,e.length=2:=fun e he=>by obtain⟨y,_,rfl⟩:=mM he;rfl
  have ka:=tG (p.ks.map Str.c) (fun e he=>by obtain⟨y,_,rfl⟩:=mM he;rfl) (by rw[lM];omega);have kb:=tG (p.vs.map Str.c) (fun e he=>by obtain⟨y,_,rfl⟩:=mM he;rfl) (by rw[lM];omega);generalize (ps.take i).map Pg.c=es at*
  clear hp;(repeat' first|intro hb hp|(refine DR.is ?_;first|apply rA;rfl;rfl;rfl;rfl;exact k1;(first|exact len_chunks U|exact bz U bK);(simp[maxLen,ah,l1];omega);(simp[ah,l1];omega);rfl;rfl)|refine am ?_|refine ak ?_ ?_|fail)
  refine L.onlyS [15,14,13,2,3] [1010,2,3] U ?_;refine wN 3 29 108 U sP U U U (.cons .row .nil) ?_;refine hK _ (i+1) trivial C (Wk.mk' kK F5 (wB (wB (.cons U U (Subs.cons (Sub.of_eq (congrArg (AV.row 108) n1.symm)) .nil) .nil))) (.cons U .nil))
end Go.Proofs.Y
namespace Go.Proofs.Y
open Go.Abs
def JK:Str:= [99,114,101,97,116,101,32,116,97,98,108,101,32,116,32,40,97,32,105,110,116,32,109,117,115,116,44,32,98,32,116,101,120,116,41,59,32,105,110,115,101,114,116,32,105,110,116,111,32,116,32,118,97,108,117,101,115,32,40,49,44,39,120,39,41,44,40,50,44,110,117,108,108,41,59]
def JJ:Str:= [115,101,108,101,99,116,32,98,32,102,114,111,109,32,116,32,119,104,101,114,101,32,97,32,61,32,49,59]
def eng0:Eng:=⟨⟨[],[]⟩,[],0⟩
def lit(v:Val):Ex:= .mk 1 v [] [] 0 []
def vI(n:Int):Val:=⟨1,n,[]⟩
def vX:Val:=⟨2,0,[120]⟩
def tabT:Tab:=⟨[116],[⟨[97],1,true⟩,⟨[98],2,false⟩]⟩
def fF:Cat:=⟨[tabT],[]⟩
def FB:Stm:={ia with kind:=1,name:= [116],cols:= [⟨[97],1,true⟩,⟨[98],2,false⟩]}
def st2:Stm:={ia with kind:=4,table:= [116],rows:= [[lit (vI 1),lit vX],[lit (vI 2),lit af]]}
def sa(i:Int):Ex:= .mk 2 af [] [98] i []
def qO(i:Int):Ex:= .mk 2 af [] [97] i []
def st3:Stm:={ia with kind:=7,out:= [sa 0],frm:= [[116]],wh:=BJ 5 (qO 0) (lit (vI 1))}
def Mf:cj JK=([FB,st2],0):=by kernel_rfl
def Me:cj JJ=([st3],0):=by kernel_rfl
def Ns:aJ ⟨[],[]⟩ FB=(FB,0):=by kernel_rfl
def NE:cL ⟨[],[]⟩ [] FB=⟨fF,[],lr,0⟩:=by kernel_rfl
def n97:bG [97] =true:=by kernel_rfl
def n98:bG [98] =true:=by kernel_rfl
def oC{v:Val}(h:aw v=true)(d:Int)(hd:d≤40):bY d (lit v)=true:=by
 rw[lit,gD,show lookM tQ 1=some 0 from rfl];simp[gl,h,hd]
def Cr(ts:List Tab)(v:Val):an ts (lit v)=(lit v,v.k,0):=by
 rw[lit,iL];rfl
def BK(row:List Val)(v:Val):aC row (lit v)=v:=by
 rw[lit,eR];rfl
def BA(n:Str)(i:Int)(h:bG n=true)(d:Int)(hd:d≤40):bY d (.mk 2 af [] n i [])=true:=by
 rw[gD,show lookM tQ 2=some 0 from rfl];simp[gl,h,hd]
def Nj:gh fF st2=true:=by
 have h:(du st2).any (fun e=> !bY 1 e)=false:=by
  rw[show du st2= [lit (vI 1),lit vX,lit (vI 2),lit af] from rfl];simp[oC (show aw (vI 1)=true from rfl) 1 dD,oC (show aw vX=true from rfl) 1 dD,oC (show aw (vI 2)=true from rfl) 1 dD,oC (show aw af=true from rfl) 1 dD]
 have h2:dJ fF=true:=by kernel_rfl
 rw[gh,h,h2];rfl
def qZ(v:Val)(k:Int)(h:((v.k !=k) && (v.k !=0))=false):dw [] (lit v) k=(lit v,0):=by
 rw[dw,Cr];simp[h]
def MY:eI tabT [lit (vI 1),lit vX] =([lit (vI 1),lit vX],0):=by
 have h1:=qZ (vI 1) 1 U;have h2:=qZ vX 2 U;rw[eI,if_neg dD];show([(dw [] (lit (vI 1)) 1).1,(dw [] (lit vX) 2).1],eG [(dw [] (lit (vI 1)) 1).2,(dw [] (lit vX) 2).2])=_;rw[h1,h2];rfl
def MX:eI tabT [lit (vI 2),lit af] =([lit (vI 2),lit af],0):=by
 have h1:=qZ (vI 2) 1 U;have h2:=qZ af 2 U;rw[eI,if_neg dD];show([(dw [] (lit (vI 2)) 1).1,(dw [] (lit af) 2).1],eG [(dw [] (lit (vI 2)) 1).2,(dw [] (lit af) 2).2])=_;rw[h1,h2];rfl
def NB:eM fF st2=(st2,0):=by
 have hr:rowsE st2 tabT=0:=by
  show eG [(eI tabT [lit (vI 1),lit vX]).2,(eI tabT [lit (vI 2),lit af]).2] =0;rw[MY,MX];rfl
 have hc:eO st2 tabT=(st2,0):=by
  rw[eO,if_neg (by rw[hr];decide),if_neg dD];show({st2 with rows:= [(eI tabT [lit (vI 1),lit vX]).1,(eI tabT [lit (vI 2),lit af]).1],sets:= [],wh:=nilE},(0:Int))=(st2,0)
  rw[MY,MX];rfl
 rw[eM,if_neg dD,if_neg dD,if_neg dD,if_neg dD];show(if(ab fF [116]).2 then eO st2 (ab fF [116]).1 else(st2,3))=_;rw[show ab fF [116] =(tabT,true) from rfl];exact hc
def Nr:aJ fF st2=(st2,0):=by
 rw[aJ,if_neg (by rw[Nj];decide),NB];rfl
def MV:(st2.rows.map fun r=>r.map (aC []))= [[vI 1,vX],[vI 2,af]]:=by
 show [[aC [] (lit (vI 1)),aC [] (lit vX)],[aC [] (lit (vI 2)),aC [] (lit af)]] =_;simp only[BK]
def Nb:nO fF [] tabT st2=([⟨[ap [116] (vI 1),ap [116] (vI 2)],[de [vI 1,vX],de [vI 2,af]]⟩],0):=by
 have e:iM fF tabT [] [[vI 1,vX],[vI 2,af]] =([⟨[ap [116] (vI 1),ap [116] (vI 2)],[de [vI 1,vX],de [vI 2,af]]⟩],0):=by kernel_rfl
 rw[nO,MV,e]
def sc:List Pg:= [⟨[ap [116] (vI 1),ap [116] (vI 2)],[de [vI 1,vX],de [vI 2,af]]⟩]
def ND:cL fF [] st2=⟨fF,sc,⟨0,2,[]⟩,0⟩:=by
 rw[cL,if_neg dD,if_neg dD,if_pos dD];show OneR.mk fF (nO fF [] tabT st2).1 ⟨0,if(nO fF [] tabT st2).2=0 then(st2.rows.length:Int) else 0,[]⟩ (nO fF [] tabT st2).2=_;rw[Nb];rfl
def eng1:Eng:=⟨fF,sc,1⟩
def MD:Eng:=⟨fF,sc,2⟩
def do1:fy eng0 JK=(eng1,⟨0,2,[]⟩):=by
 rw[fy,if_neg dD,Mf,if_neg dD];have h:ib eng0.cat eng0.ps lr 0 [FB,st2] = .ok (fF,sc,⟨0,2,[]⟩):=by
  show ib ⟨[],[]⟩ [] lr 0 [FB,st2] =_;rw[ib,Ns,if_neg dD,NE,if_neg dD];show ib fF [] lr 1 [st2] =_;rw[ib,Nr,if_neg dD,ND,if_neg dD];rfl
 show(match ib eng0.cat eng0.ps lr 0 [FB,st2] with| .error e=>(_,_)| .ok r=>(_,_))=_;rw[h];rfl
def whB:Ex:=BJ 5 (qO 0) (lit (vI 1))
def AF:Stm:={st3 with out:= [sa 1],wh:=whB}
def yH:an [tabT] (sa 0)=(sa 1,2,0):=by
 rw[sa,iL];rfl
def Gs:an [tabT] (qO 0)=(qO 0,1,0):=by
 rw[qO,iL];rfl
def Li:an [tabT] whB=(whB,3,0):=by
 rw[whB,BJ,iL];show bV [tabT] 5 af [] [] 0 (eG [(an [tabT] (qO 0)).2.2,(an [tabT] (lit (vI 1))).2.2]) [(an [tabT] (qO 0)).1,(an [tabT] (lit (vI 1))).1] [(an [tabT] (qO 0)).2.1,(an [tabT] (lit (vI 1))).2.1] =_;rw[Gs,Cr];rfl
def KD:bY 1 whB=true:=by
 rw[whB,BJ,gD,show lookM tQ 5=some 2 from rfl];have h1:=BA [97] 0 n97 (1+1) dD;have h2:=oC (show aw (vI 1)=true from rfl) (1+1) dD;have e:([qO 0,lit (vI 1)].any fun x=> !bY (1+1) x)=false:=by
  show(!bY (1+1) (qO 0)||(!bY (1+1) (lit (vI 1))||false))=false;rw[h2,qO,h1];rfl
 simp;exact⟨rfl,by rw[qO];exact h1,h2⟩
def Ni:gh fF st3=true:=by
 have h:(du st3).any (fun e=> !bY 1 e)=false:=by
  rw[show du st3= [sa 0,whB] from rfl];have h1:bY 1 (sa 0)=true:=BA [98] 0 n98 1 dD;simp[h1,KD]
 have h2:dJ fF=true:=by kernel_rfl
 rw[gh,h,h2];rfl
def NA:eM fF st3=(AF,0):=by
 rw[eM,if_neg dD,if_neg dD,if_neg dD,if_pos dD,iI,if_neg dD,if_neg dD];have e:(st3.frm.zipIdx.map fun p=>(ce fF st3.frm p).1)= [tabT]:=rfl;have e1:(st3.out.map fun x=>(an [tabT] x).2.2)= [0]:=by
  show [(an [tabT] (sa 0)).2.2] =_;rw[yH]
 have e2:(st3.out.map fun x=>(an [tabT] x).1)= [sa 1]:=by
  show [(an [tabT] (sa 0)).1] =_;rw[yH]
 have e3:dO [tabT] st3.wh=(whB,0):=by
  show(if whB.op=0 then(whB,0) else dw [tabT] whB 3)=_;rw[if_neg dD,dw,Li];rfl
 dsimp only;rw[e,e1,if_neg dD,if_neg dD,e2,e3];rfl
def Nq:aJ fF st3=(AF,0):=by
 rw[aJ,if_neg (by rw[Ni];decide),NA];rfl
def Nv:bU fF tabT 0 whB=⟨[],ap [116] (vI 1),ap [116] (vI 1)++ [0]⟩:=by
 have h:cQ whB= [whB]:=gW _ _ _ _ (by rintro ⟨h,_⟩;cases h);have e:zZ fF tabT 0 [whB] (ei tabT.n) 0=⟨[],ap [116] (vI 1),ap [116] (vI 1)++ [0]⟩:=by kernel_rfl
 rw[bU,h,e]
def LT:ci sc tabT ⟨[],ap [116] (vI 1),ap [116] (vI 1)++ [0]⟩= [[vI 1,vX]]:=by kernel_rfl
def MU:ci sc tabT (bU fF tabT 0 whB)= [[vI 1,vX]]:=by
 rw[Nv,LT]
def Gg(row:List Val):aC row (sa 1)=uZ 1 row:=by
 rw[sa,eR];rfl
def Mn:bM whB [vI 1,vX] =true:=by
 rw[bM,whB,BJ,eR];show((5:Int)==0||(rG (jp 5 af 0 [aC [vI 1,vX] (qO 0),aC [vI 1,vX] (lit (vI 1))] [vI 1,vX])==1))=true;rw[BK,qO,eR];kernel_rfl
def Nw:jO fF sc AF= [[vX]]:=by
 show AI AF tabT.cols.length (ow fF sc AF (ci sc tabT (bU fF tabT 0 whB)))=_;rw[MU,ow,if_neg dD,AI];show(re AF (([[vI 1,vX]].filter (bM whB)).mergeSort _)).map (zq AF)=_;rw[List.filter_cons,Mn,if_pos U,List.filter_nil,List.mergeSort_singleton];show [[aC [vI 1,vX] (sa 1)]] =_;rw[Gg];rfl
def NC:cL fF sc AF=⟨fF,sc,⟨0,0,[[vX]]⟩,0⟩:=by
 rw[cL,if_neg dD,if_neg dD,if_neg dD,if_neg dD,if_neg dD,if_pos dD,Nw]
def do2:fy eng1 JJ=(MD,⟨0,0,[[vX]]⟩):=by
 rw[fy,if_neg dD,Me,if_neg dD];have h:ib eng1.cat eng1.ps lr 0 [st3] = .ok (fF,sc,⟨0,0,[[vX]]⟩):=by
  show ib fF sc lr 0 [st3] =_;rw[ib,Nq,if_neg dD,NC,if_neg dD];rfl
 show(match ib eng1.cat eng1.ps lr 0 [st3] with| .error e=>(_,_)| .ok r=>(_,_))=_;rw[h];rfl
end Go.Proofs.Y
namespace Go.Proofs.Y
open Go.Abs Go.Proofs.Tryz
attribute [local irreducible] L Code.wp bodyPost Exit.then Exit.inBlock
structure EngOk (g:Eng):Prop where
 n0:0≤g.n
 db: ∃D,EI g.cat g.ps D
def pG:EngOk eng0:=by
 refine⟨by decide,fun _=> [],⟨⟨⟨by simp[eng0],by simp[eng0],by simp[eng0],by simp[eng0],by simp[eng0],by simp[eng0]⟩,rfl,by simp[eng0],by simp[eng0],?_⟩,by simp[eng0],by simp[eng0]⟩⟩;intro a b;simp[eng0,ax]
def wg: ∀(l:List Stm) {c:Cat} {ps:List Pg} {r:Rep} {i:Int} {x:Cat×List Pg×Rep},(∃D,EI c ps D)→ib c ps r i l= .ok x→ ∃D,EI x.1 x.2.1 D
 | [],c,ps,r,i,x,h,hx=>by
   rw[ib] at hx;cases hx;exact h
 |s::l,c,ps,r,i,x,⟨D,h⟩,hx=>by
  rw[ib] at hx;split at hx
  · cases hx
  split at hx
  · cases hx
  rename_i h1 h2;have hb:aJ c s=((aJ c s).1,0):=Prod.ext U (Decidable.not_not.1 h1);exact wg l (si h hb) hx
def iF{g:Eng}(h:EngOk g)(x:Str):EngOk (fy g x).1:=by
 obtain⟨h0,hd⟩:=h;unfold fy;split
 · exact⟨h0,hd⟩
 split
 · exact⟨by dsimp only;omega,hd⟩
 split
 · exact⟨by dsimp only;omega,hd⟩
 · rename_i r hr;exact⟨by dsimp only;omega,wg _ hd hr⟩
def GoodC.ok{c:Cat}(h:GoodC c):c.Ok:=by
 have htl:=h.tl;have hil:=h.il;refine⟨by omega,by omega,fun t ht=> ?_,fun x hx=>by have:=fA (h.idx x hx).1;omega⟩;have hw:=h.wide ht;refine⟨by have:=fA (h.tname ht);omega,by omega,fun cc hcc=> ?_⟩;obtain⟨i,hi⟩:=List.getElem?_of_mem hcc;have hg:=h.tabs t ht;simp only[cw,aE] at hg;have:=aT hg.1 (cc,i) (List.mem_zipIdx_iff_getElem?.2 hi);simp only[tJ,Bool.not_eq_true',Bool.or_eq_false_iff,Bool.not_eq_false'] at this;have:=fA this.1.1;omega
variable [Errs]
def nE(g:Eng)(h:EngOk g)(x:Str):CallG cA prog 30 [.ptr 1010 0,.agg [aS x]] [(1010,g.b)] [(1010,(fy g x).1.b)] [] ((fy g x).2.av):=by
 refine MG g x h.n0 (fun c ps=> ∃D,EI c ps D) h.db (fun c ps ⟨D,hd⟩ s hs=> ?_) (fun c ps ⟨D,hd⟩ s hs hb=> ?_)
 · exact CA (Eb c hd.db.cat.ok s (uL x s hs).ok)
 · have hb':aJ c s=((aJ c s).1,0):=Prod.ext U hb;exact⟨Kh hd (uL x s hs) 0 hb',fun _=>si hd hb'⟩
def vg{g:Eng}(h:EngOk g):g.ps.length≤1000∧(∀p∈g.ps,Dm p)∧(ax g.ps).length≤4000:=by
 obtain⟨_,D,hd⟩:=h;have h1:=hd.pages;have h2:=(eQ g.ps).1 hd.db.good;refine⟨h1,h2.1,?_⟩;have h3:=JP h2.1;rw[rV h2.1] at h3;omega
def qI(g:Eng)(h:EngOk g):CallG cA prog 24 [.ptr 1010 0] [(1010,g.b)] [(1010,g.b)] [] (.agg [.iv (.sl (g.ps.map Pg.c))]):=by
 obtain⟨h1,h2,h3⟩:=vg h;exact Hj g.cat g.ps g.n C (fun p hp=>by obtain⟨a1,a2,a3⟩:=h2 p hp;omega)
def yJ:CallG cA prog 35 [] [] [] [] (aB true):=by
 have h1:EngOk eng1:=by have:=iF pG JK;rw[do1] at this;exact this
 have h2:EngOk MD:=by have:=iF h1 JJ;rw[do2] at this;exact this
 have k1:=nE eng0 pG JK;have k2:=nE eng1 h1 JJ;rw[do1] at k1;rw[do2] at k2;have kt:=qI MD h2;have kn:=zw (gs:=cA);have g1:([[vX]].map ai)[(0:Int).toNat]?=some [.sl ([vX].map Val.c)]:=rfl;have g2:([vX].map Val.c)[(0:Int).toNat]?=some [I 2,I 0,S [120]]:=rfl;refine iG func35 ntmps35 (fun w0 E0 hG=> ?_);(repeat' first|intro hb hp|refine ac [1010] rfl hG kn .nil .nil rfl rfl rfl rfl ?_|refine ac [] rfl hG k1 fS B1 rfl rfl rfl rfl ?_|refine ac [] rfl hG k2 fS B1 rfl rfl rfl rfl ?_|refine ac [] rfl hG kt fS B1 rfl rfl rfl rfl ?_|refine am ?_|refine ak ?_ ?_|fail)
 all_goals exact L.ends U U sE wK
end Go.Proofs.Y
namespace Go.Abs
open Go.RowKit (Below)
def kY{P:Program}{gs:au}{f:FuncId}{avs:List AV}(hc:CallG gs P f avs [] [] [] (aB true)){W:World}{us:List Value}(φ:Nat→Nat)(hφ: ∀b,W.heap.size≤b→φ b=0)(hG:Glob gs (mg φ) W)(hr:RelL (mg φ) W avs us):
 Calls P f us.toArray W fun e w'=>e= .returned (.bool true)∧Below W.heap.size W w':=by
 refine(hc (mg φ) W us hr ?_ hG).mono ?_
 · exact⟨fun id b h=>by simp at h,fun id t h=>by simp at h,fun i j b b' h=>by simp at h,fun i j t t' g h=>by simp at h,fun i j b t h=>by simp at h,fun i b h=>by simp at h,fun i t g h=>by simp at h,
    hφ,fun b _=>rfl,fun id h=>by simp[keys] at h,KeptBut.refl _ _⟩
 · rintro e w' ⟨u,E',he,hu,hh⟩;have hv:=hu.iv_im;subst hv;refine⟨he,?_⟩;have hk:=hh.kept;exact⟨hk.os,hk.tape,hk.output,hk.size,fun k hlt=>hk.block k hlt (fun⟨id,hid,_⟩=>by simp[keys] at hid)⟩
def FT{P:Program}{W:World}{n:String}{g:Nat}{t e:TypeId}{cs:Array Value}{fuel:Nat}{p:List MemPlace}{ws:List (List UInt8)}(hg:P.globalNamed n=some g)(hv:W.var? P n=some cs)(ht:P.underlying t=some (.slice e))(he:P.underlying e=some .string)(hce:P.cellsOf e=1)(hne:ws≠ [])
 (hd:DataW.trod (fun _=>()) P W 0 (fun _=>true) false fuel t cs.toList=some (.slice (ws.map fun s=> .lit (.string s)) [],p)):
 ∀(i:Nat) (x:IV),[IV.sl (ws.map fun s=> [S s])][i]?=some x→i<fP W g∧ ∃v,W.cell? ⟨g,i,none⟩=some v∧RepI (fP W) W x v:=by
 intro i x hx;cases i with
 |succ i=>simp at hx
 |zero=>
  simp only[List.getElem?_cons_zero,Option.some.injEq] at hx;subst hx;rcases DataW.trod_slice ht hd with⟨_,h⟩|⟨a,len,cap,elems,rest,n',_,hcs,hxe,_,hlc,hcm,hel,hget,_,_⟩
  · simp at h
  · simp only[Prod.mk.injEq,DataW.slice.injEq] at hxe;obtain⟨⟨hm,hr⟩,_⟩:=hxe;have hlen:len=ws.length:=by rw[←hel];have:=congrArg List.length hm;simpa using this.symm
    have hcell:W.cell? ⟨g,0,none⟩=some (.slice (some a) len cap):=by
     rw[World.var?_cell hg hv 0,←Array.getElem?_toList,hcs];rfl
    have each: ∀j s,ws[j]?=some s→W.cell? ((a.add j).add 0)=some (.string ⟨s.toArray⟩):=by
     intro j s hs;have hj:j<ws.length:=(gS hs).1;have h1:=hget j C;rw[hce,Nat.mul_one] at h1;have hje:elems[j]?=some elems[j]:=gG C;rw[hje] at h1;obtain⟨c1,hc1,hc2⟩:=Option.bind_eq_some_iff.1 h1;obtain⟨b,rfl,hb,_⟩:=DataW.trod_string he hc2;obtain⟨_,hc3,hc4⟩:=World.cells?_some hc1;have h0:=hc4 0 dD;have hmj:=congrArg (fun l=>l[j]?) hm;simp only[gP,hs,hje,Option.map_some,Option.some.injEq] at hmj;rw[hb] at hmj;simp only[DataW.lit.injEq,Lit.string.injEq] at hmj;rw[h0,hmj];rfl
    refine⟨iZ hcell,_,hcell,?_⟩;obtain⟨b,o,spot⟩:=a;obtain⟨s0,hs0⟩: ∃s0,ws[0]?=some s0:=⟨_,gG (gU hne)⟩
    have hsp:spot=none:=by simpa[Addr.add] using World.cell?_spot (each 0 s0 hs0)
    subst hsp;have hl2:len=(ws.map fun s=> [S s]).length:=by rw[hlen,lM]
    rw[hl2];refine .sl (k:=1) (fun i j=> .string ⟨(ws.getD i []).toArray⟩) C hcm ?_ ?_ ?_ ?_
    · intro i e' he';simp only[gP,Option.map_eq_some_iff] at he';obtain⟨s,_,rfl⟩:=he';rfl
    all_goals
     intro i e' j x' he' hx';simp only[gP,Option.map_eq_some_iff] at he';obtain⟨s,hs,rfl⟩:=he';have hj:j=0:=by have:=(gS hx').1;simp at this;omega
     subst hj;have hc:=each i s hs;rw[aK,aK] at hc;have hgd:ws.getD i [] =s:=by rw[List.getD_eq_getElem?_getD,hs];rfl
     simp only[List.getElem?_cons_zero,Option.some.injEq] at hx';subst hx';try rw[hgd]
     first
      |(have:=iZ hc;omega)
      |(rw[show o+i*1+0=o+i+0 by omega];exact hc)
      |exact .im U
end Go.Abs
namespace Go.Proofs.Y
open Go.Abs Go.Proofs.Tryz
def qE{P:Program}{W:World}{n:String}{g:Nat}{cs:Array Value}(h:W.var? P n=some cs)(hg:P.globalNamed n=some g): ∃ty sp,W.heap[g]?=some (.cells cs ty sp):=by
 unfold World.var? at h;rw[hg,Option.bind_some] at h;cases hb:W.heap[g]? with
 |none=>rw[hb] at h;cases h
 |some o=>
  rw[hb] at h;cases o with
  |cells c ty sp=>simp only[Option.some.injEq] at h;subst h;exact⟨ty,sp,rfl⟩
  |_=>cases h
def MQ: "*" ++ "errors.errorString" = "*errors.errorString" :=by decide
def Fg(u:TypeId)(h:prog.typeName? 3 u=some "*errors.errorString"):u=286:=
 typeName_ptr_named (nm:= "errors.errorString") (by rw[MQ];kernel_rfl) kR dD u (by rw[MQ];exact h)
def BC{W:World}(h:laidMetH prog [("math/bits.deBruijn32tab",YtnhmohbhgocbjaaGreatDoor.Rows.laid_math_bits_deBruijn32tab),("math/bits.deBruijn64tab",YtnhmohbhgocbjaaGreatDoor.Rows.laid_math_bits_deBruijn64tab),("internal/strconv.uint64pow10",YtnhmohbhgocbjaaGreatDoor.Rows.laid_internal_strconv_uint64pow10),("strconv.ErrRange",YtnhmohbhgocbjaaGreatDoor.Rows.laid_strconv_ErrRange),("strconv.ErrSyntax",YtnhmohbhgocbjaaGreatDoor.Rows.laid_strconv_ErrSyntax),("askance/syntax.words",YtnhmohbhgocbjaaGreatDoor.Rows.laid_askance_syntax_words)] W): ∃E:Errs,Glob (@cA E) (mg (fP W)) W:=by
 rw[MakeChecks.laidMetH_plain _ _ _ kR] at h;have egP:prog.globalNamed "internal/strconv.uint64pow10" =some 4:=by kernel_rfl
 have egS:prog.globalNamed "strconv.ErrSyntax" =some 2:=by kernel_rfl
 have egR:prog.globalNamed "strconv.ErrRange" =some 3:=by kernel_rfl
 have egW:prog.globalNamed "askance/syntax.words" =some 0:=by kernel_rfl
 have hP:=h.tail.tail;have edP:(YtnhmohbhgocbjaaGreatDoor.Rows.laid_internal_strconv_uint64pow10:DataW Unit)=Lib.tabData .u64 Lib.pow10Tab:=by kernel_rfl
 rw[edP] at hP;have tP:=Lib.tabIs_of_head egP (by kernel_rfl:(prog.globals[4]?).map (·.type)=some 289) underlying289 underlying259 kR kR hP;have hR:=hP.tail;obtain⟨aR,sR,hvR,-,-,-⟩:=laid_sentinel hR egR (by kernel_rfl:(prog.globals[3]?).map (·.type)=some 168) underlying168 Fg underlying286 underlying288 U U underlying9 kR kR;have hS:=hR.tail;obtain⟨aS',sS,hvS,-,-,-⟩:=laid_sentinel hS egS (by kernel_rfl:(prog.globals[2]?).map (·.type)=some 168) underlying168 Fg underlying286 underlying288 U U underlying9 kR kR;have hW:=hS.tail;obtain⟨ps,⟨g0,t0,c0,f0,p0,q0,hg0,ht0,hv0,hd0,hL,_⟩,_,_⟩:=hW;have et0:(prog.globals[0]?).map (·.type)=some 75:=by kernel_rfl
 obtain rfl:=Option.some.inj (egW.symm.trans hg0);obtain rfl:=Option.some.inj (et0.symm.trans ht0);have ed:(YtnhmohbhgocbjaaGreatDoor.Rows.laid_askance_syntax_words:DataW Unit)= .slice (words.map fun s=> .lit (.string s)) []:=by unfold words;rfl
 rw[ed] at hd0;have r0:=FT egW hv0 underlying75 underlying9 kR (fun e=>by have:=congrArg List.length e;rw[xh] at this;cases this) hd0;have hc0:c0.size=1:=by
  rcases DataW.trod_slice underlying75 hd0 with⟨hcs,_⟩|⟨a,len,cap,elems,rest,n',_,hcs,_⟩
  · have:=congrArg List.length hcs;simpa using this
  · have:=congrArg List.length hcs;simpa using this
 have cS:W.cell? ⟨2,0,none⟩=some (.iface 286 (.pointer (some aS'))):=by have h0:=World.var?_cell egS hvS 0;simpa using h0
 have cR:W.cell? ⟨3,0,none⟩=some (.iface 286 (.pointer (some aR))):=by have h0:=World.var?_cell egR hvR 0;simpa using h0
 obtain⟨tyS,spS,bS⟩:=qE hvS egS;obtain⟨tyR,spR,bR⟩:=qE hvR egR;obtain⟨tyP,spP,bP⟩:=qE tP egP;obtain⟨tyW,spW,bW⟩:=qE hv0 egW;refine⟨⟨.iface 286 (.pointer (some aS')),.iface 286 (.pointer (some aR)),.inr ⟨_,_,rfl⟩,.inr ⟨_,_,rfl⟩⟩,⟨fun b hb=>jV hb,fun g xs hm _=> ?_⟩,fun g xs hm i x hx=> ?_⟩
 · unfold cA tV at hm;simp only[List.mem_cons,List.not_mem_nil,or_false,Prod.mk.injEq] at hm;rcases hm with⟨rfl,rfl⟩|⟨rfl,rfl⟩|⟨rfl,rfl⟩|⟨rfl,rfl⟩
   · exact⟨_,_,_,bS,rfl⟩
   · exact⟨_,_,_,bR,rfl⟩
   · exact⟨_,_,_,bP,by simp[tp]⟩
   · exact⟨_,_,_,bW,by simpa using hc0⟩
 · unfold cA tV at hm;simp only[List.mem_cons,List.not_mem_nil,or_false,Prod.mk.injEq] at hm;rcases hm with⟨rfl,rfl⟩|⟨rfl,rfl⟩|⟨rfl,rfl⟩|⟨rfl,rfl⟩
   · match i,hx with
     |0,hx=>simp at hx;subst hx;exact⟨iZ cS,_,cS,.im U⟩
     |i+1,hx=>simp at hx
   · match i,hx with
     |0,hx=>simp at hx;subst hx;exact⟨iZ cR,_,cR,.im U⟩
     |i+1,hx=>simp at hx
   · have hi:i<Lib.pow10Tab.length:=by
      have:=(gS hx).1;simpa[tp] using this
     have c:=Lib.TabIs.cell tP egP i hi;have hx':x= .im (.int .u64 (Lib.pow10Tab.getD i 0)):=by
      rw[tp,gP,gG hi] at hx;rw[List.getD_eq_getElem?_getD,gG hi];simpa using hx.symm
     subst hx';exact⟨iZ c,_,c,.im U⟩
   · exact r0 i x hx
end Go.Proofs.Y
