/- Lemmas towards the law. Conditions: each one says its own. -/
import Derived.Test.YtnhmohbhgocbjaaGreatDoorZT13
import Derived.Test.YtnhmohbhgocbjaaGreatDoorZT15
import Derived.Test.YtnhmohbhgocbjaaGreatDoorZT16
set_option linter.all false
set_option maxHeartbeats 64000000
set_option maxRecDepth 100000
namespace Go.Proofs.Y
open Go.Abs Go.Proofs.Tryz
attribute [local irreducible] L Code.wp bodyPost Exit.then Exit.inBlock
structure SzC (c:Cat):Prop where
 il:c.is.length≤1000
 inn: ∀x∈c.is,x.n.length≤140737488355328
structure SzT (t:Tab):Prop where
 tn:t.n.length≤140737488355328
 tl:t.cols.length≤1000
def nK(t:Tab)(row:List Val)(i:Nat):Bool:=match t.cols[i]? with
 |some c=>c.m && (row.getD i af).k==0
 |none=>false
def zO(t:Tab)(row:List Val):Bool:=(List.range t.cols.length).all (fun i=> !nK t row i)
def LH{t:Tab}{row:List Val}{i:Nat}(h:nK t row i=true):zO t row=false:=by
 have hi:i<t.cols.length:=by
  refine Nat.lt_of_not_le (fun h2=> ?_);rw[nK,List.getElem?_eq_none_iff.2 h2] at h;cases h
 rw[zO,List.all_eq_false];exact⟨i,List.mem_range.2 hi,by rw[h];decide⟩
def Nk{t:Tab}{row:List Val}{i:Nat}(h: ∀j,j<i→nK t row j=false)(hi:t.cols[i]?=none):zO t row=true:=by
 have hi:=gO hi;rw[zO,List.all_eq_true];intro j hj;have:=List.mem_range.1 hj;rw[h j C];rfl
def KK(t:Tab)(row:List Val)(ht:SzT t)(hfl:row.length=t.cols.length):CallA prog 170 [.agg (t.c.map .iv),.iv (.sl (row.map Val.c))] [] [] [] (aB (zO t row)):=by
 have htl:=ht.tl;refine iA func170 ntmps170 (fun w0 E0=> ?_);refine wz ?_;refine ae (ι:=Nat) (fun i=>⟨[(10,aI (i:Int)),(9,aI ((t.cols.map Col.c).length:Int)),(8,.iv (.sl (t.cols.map Col.c))),(1,.iv (.sl (row.map Val.c)))],[],[]⟩) (fun i=>t.cols.length - i) (fun i=> ∀j,j<i→nK t row j=false) (i0:=0) ?_ (fun j h=>absurd h (Nat.not_lt_zero _)) ?_
 · exact df
 intro i hI K hK;cases hx:t.cols[i]? with
 |none=>
  have hlt:=fa (l:=t.cols.map Col.c) (bf hx);rw[Nk hI hx];clear hK;refine wz ?_;all_goals refine bn ?_
  all_goals rfl
 |some x=>
  have hlt:=eZ (l:=t.cols.map Col.c) (cq (f:=Col.c) hx);have hlt':=eP hx;have g1:(t.cols.map Col.c)[((i:Nat):Int).toNat]?=some [S x.n,I x.t,.im (.bool x.m)]:=by rw[iN,gP,hx];rfl
  have g2:(row.map Val.c)[((i:Nat):Int).toNat]?=some [I (row.getD i af).k,I (row.getD i af).n,S (row.getD i af).s]:=by rw[iN,gP,cV af (show i<row.length by omega)];rfl
  have hb:nK t row i=(x.m && (row.getD i af).k==0):=by rw[nK,hx]
  generalize row.getD i af=v at*
  have step:nK t row i=false→ ∀j,j<i+1→nK t row j=false:=fun h j hj=>by
   rcases Nat.lt_or_eq_of_le (Nat.le_of_lt_succ hj) with h'|h'
   · exact hI j h'
   · rw[h'];exact h
  clear hI;cases hm:x.m with
  |false=>
   rw[hm] at g1 hb;have hs:=step (by rw[hb];rfl);clear step hb;refine wz ?_;refine hK _ (i+1) hs C ?_;exact df
  |true=>
   rw[hm] at g1 hb;by_cases hv:v.k=0
   · have q1:(v.k==0)=true:=by simpa using hv
     rw[LH (t:=t) (row:=row) (i:=i) (by rw[hb,q1];rfl)];clear hK step hb;refine wz ?_;all_goals refine bn ?_
     all_goals rfl
   · have q1:(v.k==0)=false:=by simpa using hv
     have hs:=step (by rw[hb,q1];rfl);clear step hb;refine wz ?_;refine hK _ (i+1) hs C ?_;exact df
def jI(c:Cat)(ps:List Pg)(t:Tab)(row:List Val):List Pg×Int:=
 if zO t row=false then(ps,7) else if(getM ps (ap t.n (row.getD 0 af))).2=true then(ps,4) else if 30≤(ci ps t (ei t.n)).length then(ps,8) else(lu ps c t row,0)
def Fo{gs:au}(c:Cat)(ps:List Pg)(n:Int)(t:Tab)(row:List Val)(hc:SzC c)(ht:SzT t)(hps:ps.length≤1000000)(hsm:ta ps)(hfl:row.length=t.cols.length)(h1:row≠ []):
 CallG gs prog 120 [.ptr 1010 0,.agg (t.c.map .iv),.iv (.sl (row.map Val.c))] [(1010,bQ c ps n)] [(1010,bQ c (jI c ps t row).1 n)] [] (aI (jI c ps t row).2):=by
 have htl:=ht.tl;have hil:=hc.il;have kf:=KK t row ht hfl;have kk:=jb t.n (row.getD 0 af) ht.tn;have kg:=zL ps (ap t.n (row.getD 0 af)) C;have ka:=oY t.n ht.tn;have kr:=pk ps t (ei t.n) C hsm ht.tn (by simp[ei]);have kp:=AZ ps c t row C C ht.tn C C hc.inn;have g0:(row.map Val.c)[(0:Int).toNat]?=some [I (row.getD 0 af).k,I (row.getD 0 af).n,S (row.getD 0 af).s]:=by
  cases row with
  |nil=>exact absurd U h1
  |cons a l=>rfl
 unfold jI;generalize getM ps (ap t.n (row.getD 0 af))=gt at*
 generalize ap t.n (row.getD 0 af)=key at*
 generalize row.getD 0 af=v at*
 generalize ci ps t (ei t.n)=R at*
 generalize lu ps c t row=ps2 at*
 generalize zO t row=fb at*
 obtain⟨gs',gb⟩:=gt;dsimp only at kg⊢;refine iG func120 ntmps120 (fun w0 E0 hG=> ?_);cases fb with
 |false=>
  rw[if_pos U];refine wz ?_;all_goals exact L.ends U U sE wK
 |true=>
  rw[if_neg dD];cases gb with
  |true=>
   rw[if_pos U];refine wz ?_;all_goals exact L.ends U U sE wK
  |false=>
   rw[if_neg dD];by_cases h30:30≤R.length
   · rw[if_pos h30];have q:decide ((30:Int)≤((R.map ai).length:Int))=true:=decide_eq_true (by rw[lM];omega);refine wz ?_;all_goals exact L.ends U U sE wK
   · rw[if_neg h30];have q:decide ((30:Int)≤((R.map ai).length:Int))=false:=decide_eq_false (by rw[lM];omega);refine wz ?_;all_goals exact L.ends U U sE wK
def iM(c:Cat)(t:Tab):List Pg→List (List Val)→List Pg×Int
 |ps,[] =>(ps,0)
 |ps,r::l=>if(jI c ps t r).2≠0 then jI c ps t r else iM c t (jI c ps t r).1 l
def Cw{c:Cat}{t:Tab}{ps:List Pg}{r:List Val}{l:List (List Val)}(h:(jI c ps t r).2=0):iM c t ps (r::l)=iM c t (jI c ps t r).1 l:=by
 rw[iM,if_neg (fun k=>k h)]
def Cx{c:Cat}{t:Tab}{ps:List Pg}{r:List Val}{l:List (List Val)}(h:(jI c ps t r).2≠0):iM c t ps (r::l)=jI c ps t r:=by
 rw[iM,if_pos h]
structure SzP (ps:List Pg):Prop where
 len:ps.length≤1000000
 sm:ta ps
abbrev wT(code n:Int):AV:= .agg [aI code,aI n,.iv (.sl [])]
def nO(c:Cat)(ps:List Pg)(t:Tab)(s:Stm):List Pg×Int:=iM c t ps (s.rows.map fun r=>r.map (aC []))
def Du{gs:au}(c:Cat)(ps:List Pg)(n:Int)(t:Tab)(s:Stm)(I:List Pg→Prop)(h0:I ps)(hI: ∀ps,I ps→SzP ps)(hst: ∀ps,I ps→ ∀r∈s.rows,I (jI c ps t (r.map (aC []))).1)
 (hc:SzC c) (ht:SzT t) (hw:1≤t.cols.length) (hrl:s.rows.length≤1000000) (hr: ∀r∈s.rows,r.length=t.cols.length∧ ∀e∈r,e.Ok):
 CallG gs prog 95 [.ptr 1010 0,.agg (s.cs.map .iv),.agg (t.c.map .iv)] [(1010,bQ c ps n)] [(1010,bQ c (nO c ps t s).1 n)] []
  (.tup [wT 0 (if(nO c ps t s).2=0 then(s.rows.length:Int) else 0),aI (nO c ps t s).2]):=by
 unfold nO;generalize hZ:iM c t ps (s.rows.map fun r=>r.map (aC []))=Z;have htl:=ht.tl;refine iG func95 ntmps95 (fun w0 E0 hG=> ?_);refine wz ?_;refine ae (ι:=Nat×List Pg) (fun i=>⟨[(17,aI (i.1:Int)),(16,aI ((s.rows.map bg).length:Int)),(15,.iv (.sl (s.rows.map bg))),(0,.ptr 1010 0),(4,.ptr 4 0),(5,.ptr 5 0),(6,.ptr 6 0)],
  [(1010,bQ c i.2 n),(4,⟨80,.l (s.cs.map .iv)⟩),(5,⟨57,.l (t.c.map .iv)⟩),(6,⟨69,.l [aI 0,aI 0,.nils]⟩)],[]⟩) (fun i=>s.rows.length - i.1) (fun i=>I i.2∧iM c t i.2 ((s.rows.drop i.1).map fun r=>r.map (aC []))=Z) (i0:=(0,ps)) ?_ ⟨h0,hZ⟩ ?_
 · exact wL
 rintro ⟨i,qs⟩ ⟨hi,hJ⟩ K hK;dsimp only at hi hJ hK;cases hx:s.rows[i]? with
 |none=>
  have hlt:=fa (l:=s.rows.map bg) (bf hx);have hlen:((s.rows.map bg).length:Int)=(s.rows.length:Int):=by rw[lM]
  rw[dL (gO hx),List.map_nil] at hJ;subst hJ;clear hK;show L _ _ _;rw[show(iM c t qs []).2=0 from rfl,show(iM c t qs []).1=qs from rfl,if_pos U,←hlen];refine wz ?_;all_goals exact L.ends U U (Sub.tup (.cons (Sub.agg (.cons sE (.cons sE (.cons Sub.nils .nil)))) (.cons sE .nil))) wK
 |some r=>
  have hlt:=eZ (l:=s.rows.map bg) (cq (f:=bg) hx);have hlt':=eP hx;have hmem:=gE hx;obtain⟨hrl1,hrk⟩:=hr r hmem;have g1:(s.rows.map bg)[((i:Nat):Int).toNat]?=some [.sl (r.map Ex.c)]:=by rw[iN,gP,hx];rfl
  have hdr:s.rows.drop i=r::s.rows.drop (i+1):=eS hx;rw[hdr,List.map_cons] at hJ;have hsz:=hI qs hi;have hst':=hst qs hi r hmem;have kadd:=Fo (gs:=gs) c qs n t (r.map (aC [])) hc ht hsz.len hsz.sm (by rw[lM];exact hrl1) (fun h=>by rw[List.map_eq_nil_iff] at h;rw[h] at hrl1;simp at hrl1;omega);refine wz ?_;refine L.adopt 10 (s:=10) (t:=41) (k:=3) U U U ?_;refine ae (ι:=Nat) (fun j=>⟨[(23,aI (j:Int)),(22,aI ((r.map Ex.c).length:Int)),(21,.iv (.sl (r.map Ex.c))),(10,.row 10 (((r.take j).map (aC [])).map Val.c)),(17,aI (i:Int)),(16,aI ((s.rows.map bg).length:Int)),(15,.iv (.sl (s.rows.map bg))),(0,.ptr 1010 0),(4,.ptr 4 0),(5,.ptr 5 0),(6,.ptr 6 0)],
   [(1010,bQ c qs n),(4,⟨80,.l (s.cs.map .iv)⟩),(5,⟨57,.l (t.c.map .iv)⟩),(6,⟨69,.l [aI 0,aI 0,.nils]⟩)],[(10,⟨41,3⟩)]⟩) (fun j=>r.length - j) (fun j=>True) (i0:=0) ?_ trivial ?_
  · exact wL
  intro j _ K2 hK2;cases hy:r[j]? with
  |none=>
   have hlt2:=fa (l:=r.map Ex.c) (bf hy);rw[bc hy];clear hK2;by_cases he:(jI c qs t (r.map (aC []))).2=0
   · rw[Cw he] at hJ;rw[he] at kadd;have q:((0:Int) !=0)=false:=rfl;(repeat' first|intro hb hp|refine ac [] rfl hG kadd (.cons fR (.cons fR (.cons (Sub.row _ _) .nil))) B1 U U U U ?_|refine am ?_|refine ak ?_ ?_|fail)
     exact hK _ (i+1,(jI c qs t (r.map (aC []))).1) ⟨hst',hJ⟩ oD wK
   · rw[Cx he] at hJ;subst hJ;rw[if_neg he];have q:((jI c qs t (r.map (aC []))).2 !=0)=true:=by simpa using he
     clear hK;generalize jI c qs t (r.map (aC []))=A at*
     obtain⟨A1,A2⟩:=A;dsimp only at kadd q⊢;(repeat' first|intro hb hp|refine ac [] rfl hG kadd (.cons fR (.cons fR (.cons (Sub.row _ _) .nil))) B1 U U U U ?_|refine am ?_|refine ak ?_ ?_|fail)
     all_goals exact L.ends U U (Sub.tup (.cons (Sub.agg (.cons sE (.cons sE (.cons Sub.nils .nil)))) (.cons sE .nil))) wK
  |some e=>
   have hlt2:=eZ (l:=r.map Ex.c) (cq (f:=Ex.c) hy);have hlt2':=eP hy;have g2:(r.map Ex.c)[((j:Nat):Int).toNat]?=some e.cs:=by rw[iN,gP,hy,←aN];rfl
   have kv:=lg [] e (hrk e (gE hy));rw[aN] at kv;have n2:((r.take (j+1)).map (aC [])).map Val.c=((r.take j).map (aC [])).map Val.c++ [(aC [] e).c]:=by rw[dg hy,pA,pA];rfl
   have l2:(((r.take j).map (aC [])).map Val.c).length=j:=by simp;omega
   have k2: ∀e∈((r.take j).map (aC [])).map Val.c,e.length=3:=fun e he=>by obtain⟨y,_,rfl⟩:=mM he;rfl
   clear kadd hst' hJ hK;generalize aC [] e=v at*
   generalize ((r.take j).map (aC [])).map Val.c=vs at*
   (repeat' first|intro hb hp|(refine LW.is ?_;first|refine bC U U U U k2 (by first|exact len_chunks U|exact bz U bK) (by simp[maxLen,ah,l2];omega) (by simp[ah,l2];omega) U U ?_)|refine am ?_|refine ak ?_ ?_|fail)
   refine L.onlyS [23,22,21,10,17,16,15,0,4,5,6] [1010,4,5,6] U ?_;refine L.retok 10 31 10 U U U U ?_;refine hK2 _ (j+1) trivial C (Wk.mk' kK (wF (wF (wF (.cons U (Sub.of_eq (congrArg (AV.row 10) n2.symm)) F7)))) B4 (.cons U .nil))
def kQ(c:Cat)(t:Tab)(R:List (List Val))(ps:List Pg):List Pg:=R.foldl (fun q row=>lu q c t row) ps
def cg(c:Cat)(t:Tab)(R:List (List Val))(ps:List Pg):List Pg:=R.foldl (fun q row=>gZ q c t row) ps
def mW{α β:Type}(f:β→α→β){l:List α}{i:Nat}{x:α}(h:l[i]?=some x)(b:β):(l.take (i+1)).foldl f b=f ((l.take i).foldl f b) x:=by
 rw[dg h,List.foldl_append];rfl
def vc3(l:List Val): ∀e∈l.map Val.c,e.length=3:=fun e he=>by obtain⟨y,_,rfl⟩:=mM he;rfl
def DS(es:List (List IV))(hk: ∀e∈es,e.length=3)(hne:es≠ [])(hm:es.length≤maxLen)(hl:es.length*32≤140737488355328):
 CallA prog 125 [.iv (.sl es)] [] [(1000,⟨41,.r es.flatten 0⟩)] [] (.bsh 1000 0 es.length 3):=by
 refine iA func125 ntmps125 (fun w0 E0=> ?_);(repeat' first|intro hb hp|(refine LW.is ?_;first|apply ag;rfl;apply ju;rfl;rfl;exact hne|apply dA;rfl;rfl;rfl;rfl;rfl|apply jv 1000;rfl;rfl;rfl;exact hk;exact hne;exact hm;exact hl;rfl)|refine am ?_|refine ak ?_ ?_|fail)
 all_goals(apply L.ends;rfl;rfl;exact fR;exact Wk.mk' kK .nil B1 .nil)
def Jr{L:List Nat}{us:List IV}{id:Nat}{ty:TypeId}: [(id,(⟨ty,.r us 0⟩:Box))].all (fun p=>AV.mentsIn L p.2.cs)=true:=by
 simp only[List.all_cons,List.all_nil,Bool.and_true,Box.cs_r,List.replicate_zero,List.append_nil];exact AV.mentsIn_iv _ _
def Bl(d:Cat)(ps:List Pg)(t:Tab):List Pg:=kQ d t (ci ps t (ei t.n)) ps
def Ii{gs:au}(c d:Cat)(ps:List Pg)(n:Int)(t:Tab)(s:Stm)(hc:SzC d)(ht:SzT t)(hps:ps.length≤1000000)(hsm:ta ps)
 (kw:CallG gs prog 99 [.agg (c.c.map .iv),.agg (s.cs.map .iv)] [] [] [] (.agg (d.c.map .iv)))
 (hsz: ∀i,(kQ d t ((ci ps t (ei t.n)).take i) ps).length≤1000000) (hR: ∀r∈ci ps t (ei t.n),r.length≤1000000) (hRl:(ci ps t (ei t.n)).length≤1000000):
 CallG gs prog 93 [.ptr 1010 0,.agg (s.cs.map .iv),.agg (t.c.map .iv)] [(1010,bQ c ps n)] [(1010,bQ c (Bl d ps t) n)] [] (.tup []):=by
 have htl:=ht.tl;have hil:=hc.il;have ka:=oY t.n ht.tn;have kr:=pk ps t (ei t.n) C hsm ht.tn (by simp[ei]);unfold Bl;generalize ci ps t (ei t.n)=R at*
 generalize hZ:kQ d t R ps=Z;refine iG func93 ntmps93 (fun w0 E0 hG=> ?_);refine wz ?_;refine ae (ι:=Nat) (fun i=>⟨[(25,aI (i:Int)),(24,aI ((R.map ai).length:Int)),(23,.iv (.sl (R.map ai))),(0,.ptr 1010 0),(5,.ptr 5 0),(6,.ptr 6 0)],
  [(1010,bQ c (kQ d t (R.take i) ps) n),(5,⟨57,.l (t.c.map .iv)⟩),(6,⟨47,.l (d.c.map .iv)⟩)],[]⟩) (fun i=>R.length - i) (fun i=>True) (i0:=0) ?_ trivial ?_
 · exact wL
 intro i _ K hK;cases hx:R[i]? with
 |none=>
  have hlt:=fa (l:=R.map ai) (bf hx);rw[bc hx,hZ];clear hK;refine wz ?_;all_goals(apply aM;rfl;rfl;exact Wk.mk' kK .nil B1 .nil;rfl)
 |some r=>
  have hlt:=eZ (l:=R.map ai) (cq (f:=ai) hx);have hlt':=eP hx;have hi:=hsz i;have hr:=hR r (gE hx);have g1:(R.map ai)[((i:Nat):Int).toNat]?=some [.sl (r.map Val.c)]:=by rw[iN,gP,hx];rfl
  have hstep:kQ d t (R.take (i+1)) ps=lu (kQ d t (R.take i) ps) d t r:=mW _ hx ps;generalize kQ d t (R.take i) ps=q at*
  have kp:=AZ q d t r C C ht.tn C C hc.inn;rw[←hstep] at kp;clear hsz hR kw kr ka hZ hstep;refine wz ?_;refine hK _ (i+1) trivial C ?_;exact wL
end Go.Proofs.Y
namespace Go.Proofs.Y
open Go.Abs
def pf{ps:List Pg}(h:aG ps=true):Cy (ax ps):=(mV ((eQ ps).1 h).1).1 h
def EO{ps:List Pg}{k v:Str}(h:aG ps=true)(a b:Str):(a,b)∈ax (iP ps k v)↔(a=k∧b=v)∨(a≠k∧(a,b)∈ax ps):=by
 rw[AX h];simp only[zn,List.mem_append,List.mem_cons,List.mem_filter,decide_eq_true_eq,Prod.mk.injEq];constructor
 · rintro (⟨h1,h2⟩|h1|⟨h1,h2⟩)
   · exact .inr ⟨fun e=>by rw[e] at h2;exact List.lt_irrefl _ h2,h1⟩
   · exact .inl h1
   · exact .inr ⟨fun e=>by rw[e] at h2;exact List.lt_irrefl _ h2,h1⟩
 · rintro (h1|⟨h1,h2⟩)
   · exact .inr (.inl h1)
   · rcases Mj a k with h3|h3|h3
     · exact .inl ⟨h2,h3⟩
     · exact absurd h3 h1
     · exact .inr (.inr ⟨h2,h3⟩)
def BN{ps:List Pg}{k:Str}(h:aG ps=true)(a b:Str):(a,b)∈ax (fx ps k)↔a≠k∧(a,b)∈ax ps:=by
 rw[yy h,yz,List.mem_filter];constructor
 · exact fun h=>⟨by simpa using h.2,h.1⟩
 · exact fun h=>⟨h.2,by simpa using h.1⟩
def IF{ps:List Pg}{k:Str}(h:aG ps=true):(getM ps k).2=true↔ ∃v,(k,v)∈ax ps:=by
 rw[vR h];constructor
 · intro e;by_cases hx: ∃w,(k,w)∈ax ps
   · exact hx
   · rw[KO (fun w hw=>hx ⟨w,hw⟩)] at e;cases e
 · rintro ⟨v,hv⟩;rw[yu (pf h) hv]
def wW(t:Tab)(x:Idx):Bool:=x.tb==t.n && decide (0≤aU t x.co)
def iz(t:Tab)(row:List Val)(x:Idx):Str:=eE x.n (row.getD (aU t x.co).toNat af) (row.getD 0 af)
def cG(t:Tab)(row:List Val)(l:List Idx):List Str:=(l.filter (wW t)).map (iz t row)
def tq(t:Tab)(row:List Val)(x:Idx)(l:List Idx):cG t row (x::l)=if wW t x then iz t row x::cG t row l else cG t row l:=by
 unfold cG;rw[List.filter_cons];split<;>simp
def qn(t:Tab)(row:List Val): ∀(l:List Idx) (ps:List Pg),aG ps=true→aG (l.foldl (iS t row) ps)=true∧ ∀a b,(a,b)∈ax (l.foldl (iS t row) ps)↔(a∈cG t row l∧b= [])∨(a∉cG t row l∧(a,b)∈ax ps)
 | [],ps,h=>⟨h,fun a b=>by simp[cG]⟩
 |x::l,ps,h=>by
  have hx:iS t row ps x=if wW t x then iP ps (iz t row x) [] else ps:=rfl
  rw[List.foldl_cons,hx,tq];cases hon:wW t x with
  |false=>simpa using qn t row l ps h
  |true=>
   simp only[if_true];have ih:=qn t row l (iP ps (iz t row x) []) (AW h);refine⟨ih.1,fun a b=> ?_⟩;rw[ih.2,EO h];simp only[List.mem_cons];constructor
   · rintro (⟨h1,h2⟩|⟨h1,⟨h2,h3⟩|⟨h2,h3⟩⟩)
     · exact .inl ⟨.inr h1,h2⟩
     · exact .inl ⟨.inl h2,h3⟩
     · exact .inr ⟨fun e=>e.elim h2 h1,h3⟩
   · rintro (⟨h1|h1,h2⟩|⟨h1,h2⟩)
     · by_cases hm:a∈cG t row l
       · exact .inl ⟨hm,h2⟩
       · exact .inr ⟨hm,.inl ⟨h1,h2⟩⟩
     · exact .inl ⟨h1,h2⟩
     · exact .inr ⟨fun e=>h1 (.inr e),.inr ⟨fun e=>h1 (.inl e),h2⟩⟩
def oP(t:Tab)(row:List Val): ∀(l:List Idx) (ps:List Pg),aG ps=true→aG (l.foldl (fk t row) ps)=true∧ ∀a b,(a,b)∈ax (l.foldl (fk t row) ps)↔(a∉cG t row l∧(a,b)∈ax ps)
 | [],ps,h=>⟨h,fun a b=>by simp[cG]⟩
 |x::l,ps,h=>by
  have hx:fk t row ps x=if wW t x then fx ps (iz t row x) else ps:=rfl
  rw[List.foldl_cons,hx,tq];cases hon:wW t x with
  |false=>simpa using oP t row l ps h
  |true=>
   simp only[if_true];have ih:=oP t row l (fx ps (iz t row x)) (yx h);refine⟨ih.1,fun a b=> ?_⟩;rw[ih.2,BN h];simp only[List.mem_cons];constructor
   · rintro ⟨h1,h2,h3⟩;exact⟨fun e=>e.elim h2 h1,h3⟩
   · rintro ⟨h1,h2⟩;exact⟨fun e=>h1 (.inr e),fun e=>h1 (.inl e),h2⟩
def jF(t:Tab)(row:List Val):Str:=ap t.n (row.getD 0 af)
def AY{ps:List Pg}{c:Cat}{t:Tab}{row:List Val}(h:aG ps=true)(h0:row.length≠0)(hl:row.length=t.cols.length):aG (lu ps c t row)=true∧ ∀a b,(a,b)∈ax (lu ps c t row)↔
 (a∈cG t row c.is∧b= [])∨(a∉cG t row c.is∧((a=jF t row∧b=de row)∨(a≠jF t row∧(a,b)∈ax ps))):=by
 rw[lu,if_neg C];have ih:=qn t row c.is (iP ps (ap t.n (row.getD 0 af)) (de row)) (AW h);refine⟨ih.1,fun a b=> ?_⟩;rw[ih.2,EO h];rfl
def Gj{ps:List Pg}{c:Cat}{t:Tab}{row:List Val}(h:aG ps=true)(h0:row.length≠0)(hl:row.length=t.cols.length):aG (gZ ps c t row)=true∧ ∀a b,(a,b)∈ax (gZ ps c t row)↔
 (a∉cG t row c.is∧a≠jF t row∧(a,b)∈ax ps):=by
 rw[gZ,if_neg C];have ih:=oP t row c.is (fx ps (ap t.n (row.getD 0 af))) (yx h);refine⟨ih.1,fun a b=> ?_⟩;rw[ih.2,BN h];rfl
def EY{t:Tab}{row:List Val}{l:List Idx}{a:Str}(h:a∈cG t row l): ∃s,a=120::s:=by
 obtain⟨x,_,rfl⟩:=mM h;exact⟨_,rfl⟩
def HH(t:Tab)(row:List Val): ∃s,jF t row=114::s:=⟨_,rfl⟩
def oz{t t':Tab}{row row':List Val}{l:List Idx}:jF t row∉cG t' row' l:=fun h=>by
 obtain⟨s,hs⟩:=EY h;obtain⟨u,hu⟩:=HH t row;rw[hu] at hs;cases hs
def mS{vs:List Val}(h:vs.all aw=true):de vs=vs.flatMap ca:=by rw[de,Dq,if_pos h]
def pD{vs:List Val}(h:vs.all aw=true):dz (de vs)=some vs:=by rw[mS h,xo h]
def Bq{v w:Val}(hv:aw v=true)(hw:aw w=true)(h:de [v] =de [w]):v=w:=by
 have h1:=pD (vs:= [v]) (by simp[hv]);have h2:=pD (vs:= [w]) (by simp[hw]);rw[h,h2] at h1;simpa using h1.symm
def mo(z x y:Str):z++x<z++y↔x<y:=by
 have:=Il z (x:=x) (y:=y);rw[Mk,Mk] at this;simpa using this
def EW{v w:Val}(hv:aw v=true)(hw:aw w=true):de [v] <de [w] ↔cD v w= -1:=by
 have e1:de [v] =ca v:=by rw[mS (by simp[hv])];simp
 have e2:de [w] =ca w:=by rw[mS (by simp[hw])];simp
 rw[e1,e2];rcases zX hv hw with⟨rfl,h⟩|⟨h,hl⟩|⟨h,hl⟩
 · rw[h];simp[List.lt_irrefl]
 · have:=hl [] [];rw[List.append_nil,List.append_nil,Mk] at this;rw[h];simpa using this
 · have:=hl [] [];rw[List.append_nil,List.append_nil,Mk] at this;have hlt:ca w<ca v:=by simpa using this
   rw[h];constructor
   · intro h2;exact absurd h2 (List.lt_asymm hlt)
   · intro h2;cases h2
def rj{row:List Val}: ∀{cs:List Col} {i:Nat},oH row i cs=true→ ∀j,j<cs.length→aw (row.getD (i+j) af)=true
 | [],i,h,j,hj=>by simp at hj
 |c::cs,i,h,j,hj=>by
  rw[oH,List.zipIdx_cons,List.all_cons,aE] at h;cases j with
  |zero=>
   have h1:=h.1;simp only[DG] at h1;cases hg:aw (row.getD i af) with
   |true=>simp
   |false=>simp only[List.getD_eq_getElem?_getD] at hg h1;simp[hg] at h1
  |succ j=>
   have:=rj (row:=row) (cs:=cs) (i:=i+1) h.2 j (by simpa using hj);rw[show i+1+j=i+(j+1) by omega] at this;exact this
def sF{t:Tab}{row:List Val}(h:jM t row=true):row.length=t.cols.length∧row.all aw=true:=by
 simp only[jM,aE,beq_iff_eq] at h;refine⟨h.1,List.all_eq_true.2 (fun v hv=> ?_)⟩;obtain⟨i,hi,rfl⟩:=List.mem_iff_getElem.1 hv;have:=rj h.2 i C;rw[Nat.zero_add,List.getD_eq_getElem?_getD,gG hi] at this;exact this
def bD{row:List Val}(h:row.all aw=true)(i:Nat):aw (row.getD i af)=true:=by
 rw[List.getD_eq_getElem?_getD];cases hx:row[i]? with
 |none=>rfl
 |some v=>exact aT h v (gE hx)
def lt_cons{a b:UInt8}{s u:Str}:(a::s)<(b::u)↔a<b∨a=b∧s<u:=List.cons_lt_cons_iff
def Ek(n:Str)(s:Str): ¬(dn n++s<dn n)∧dn n++s<(ei n).hi:=by
 constructor
 · intro hc;have:=(mo (dn n) s []).1 (by rw[List.append_nil];exact hc);simp at this
 · show(([114] ++n)++ [0])++s<([114] ++n)++ [1];rw[List.append_assoc,mo];exact lt_cons.2 (.inl dD)
def Ll(n:Str)(s:Str): ¬((120:UInt8)::s<(ei n).hi):=by
 show¬((120:UInt8)::s<114::(n++ [1]));rw[lt_cons];rintro (h|⟨h,_⟩)
 · exact absurd h dD
 · exact absurd h dD
def pm{t:Tab}{r:List Val}(h:r.length=t.cols.length∧r.all aw=true):dh t (de r)=some r:=by
 rw[dh,pD h.2];exact if_pos h.1
def qy{l:List Pr}(h:Cy l):l.Nodup:=(List.pairwise_map.1 h).imp (fun h e=>by rw[e] at h;exact List.lt_irrefl _ h)
def yw{c:Cat}{t:Tab}(h0:t.cols.length≠0): ∀(l:List (List Val)) {ps:List Pg},aG ps=true→(∀r∈l,r.length=t.cols.length)→aG (l.foldl (fun ps r=>gZ ps c t r) ps)=true∧
 ∀a b,(a,b)∈ax (l.foldl (fun ps r=>gZ ps c t r) ps)↔(∀r∈l,a∉cG t r c.is∧a≠jF t r)∧(a,b)∈ax ps
 | [],ps,hg,_=>⟨hg,fun a b=>by simp⟩
 |r::l,ps,hg,hl=>by
  have hr:=hl r sP;obtain⟨g1,m1⟩:=Gj (c:=c) hg C hr;obtain⟨g2,m2⟩:=yw h0 l g1 (fun r hr=>hl r (by simp[hr]));refine⟨g2,fun a b=> ?_⟩;rw[List.foldl_cons,m2,m1];simp only[List.mem_cons,forall_eq_or_imp];constructor
  · rintro ⟨h1,h2,h3,h4⟩;exact⟨⟨⟨h2,h3⟩,h1⟩,h4⟩
  · rintro ⟨⟨⟨h2,h3⟩,h1⟩,h4⟩;exact⟨h1,h2,h3,h4⟩
def qu(s:Str): ¬s< []:=by simp
def Fk{x y:UInt8}(hxy: ∀b:UInt8,b<y→ ¬b<x→b=x)(hyx: ∀b:UInt8,b=y→ ¬b<y): ∀(p a:Str),¬a<p++ [x] →a<p++ [y] → ∃s,a=p++x::s
 | [],[],h1,_=>absurd sP h1
 | [],b::s,h1,h2=>by
   simp only[List.nil_append,lt_cons,qu,and_false,or_false] at h1 h2;exact⟨s,by rw[hxy b h2 h1];rfl⟩
 |q::p,[],h1,_=>absurd sP h1
 |q::p,b::s,h1,h2=>by
  simp only[List.cons_append,lt_cons,not_or,not_and] at h1 h2;rcases h2 with h2|⟨rfl,h2⟩
  · exact absurd h2 h1.1
  · obtain⟨u,hu⟩:=Fk hxy hyx p s (h1.2 U) h2;exact⟨u,by rw[hu];rfl⟩
def Cs{n a:Str}(h1: ¬a<dn n)(h2:a<(ei n).hi): ∃s,a=dn n++s:=by
 have h1': ¬a<([114] ++n)++ [0]:=h1;have h2':a<([114] ++n)++ [1]:=h2;obtain⟨s,hs⟩:=Fk (x:=0) (y:=1) (fun b h1 h2=>by
  rw[UInt8.lt_iff_toNat_lt] at h1 h2;exact UInt8.toNat_inj.1 (by simp at h1 h2⊢;omega)) (fun b e=>by rw[e];decide) ([114] ++n) a h1' h2'
 exact⟨s,by rw[hs];simp[dn]⟩
def oX: ∀(p a:Str),¬a<p→a<p++ [255] → ∃s,a=p++s
 | [],a,_,_=>⟨a,rfl⟩
 |q::p,[],h1,_=>absurd sP h1
 |q::p,b::s,h1,h2=>by
  simp only[List.cons_append,lt_cons,not_or,not_and] at h1 h2;rcases h2 with h2|⟨rfl,h2⟩
  · exact absurd h2 h1.1
  · obtain⟨u,hu⟩:=oX p s (h1.2 U) h2;exact⟨u,by rw[hu];rfl⟩
def Fl(p s:Str): ¬p++s<p:=fun h=>by
 have:p++s<p++ []:=by rwa [List.append_nil]
 rw[mo] at this;exact qu s this
def Ej(p s:Str)(hs: ∀b r,s=b::r→b<255):p++s<p++ [255]:=by
 rw[mo];cases s with
 |nil=>simp
 |cons b r=>rw[lt_cons];exact .inl (hs b r U)
def vo{p a:Str}(h1: ¬a<p)(h2:a<p++ [0]):a=p:=by
 have h3:a<p++ [255]:=by
  refine dp h2 ?_;rw[mo,lt_cons];exact .inl dD
 obtain⟨s,rfl⟩:=oX p a h1 h3;rw[mo] at h2;cases s with
 |nil=>simp
 |cons b r=>
  rw[lt_cons] at h2;rcases h2 with h2|⟨_,h2⟩
  · rw[UInt8.lt_iff_toNat_lt] at h2;simp at h2
  · exact absurd h2 (qu r)
def MH: ∀{n m s u:Str},(∀b∈n,b≠0)→(∀b∈m,b≠0)→n++0::s=m++0::u→n=m∧s=u
 | [],[],s,u,_,_,h=>⟨rfl,by simpa using h⟩
 | [],b::m,s,u,_,h2,h=>by
   simp only[List.nil_append,List.cons_append,List.cons.injEq] at h;exact absurd h.1.symm (h2 b sP)
 |b::n,[],s,u,h1,_,h=>by
  simp only[List.nil_append,List.cons_append,List.cons.injEq] at h;exact absurd h.1 (h1 b sP)
 |b::n,d::m,s,u,h1,h2,h=>by
  simp only[List.cons_append,List.cons.injEq] at h;obtain⟨e1,e2⟩:=MH (fun b hb=>h1 b (by simp[hb])) (fun b hb=>h2 b (by simp[hb])) h.2;exact⟨by rw[h.1,e1],e2⟩
def py{n:Str}(h:bG n=true): ∀b∈n,b≠0:=by
 simp only[bG,aE] at h;intro b hb e;have:=aT h.1 b hb;rw[e] at this;simp[iQ] at this
def xE{n m s u:Str}(hn:bG n=true)(hm:bG m=true)(h:dn n++s=dn m++u):n=m∧s=u:=by
 simp only[dn,List.append_assoc,List.cons_append,List.nil_append,List.cons.injEq,true_and] at h;exact MH (py hn) (py hm) h
def rr{n m s u:Str}(hn:bG n=true)(hm:bG m=true)(h:aO n++s=aO m++u):n=m∧s=u:=by
 simp only[aO,List.append_assoc,List.cons_append,List.nil_append,List.cons.injEq,true_and] at h;exact MH (py hn) (py hm) h
def qx{v w:Val}{x y:Str}(hv:aw v=true)(hw:aw w=true)(h:ca v++x=ca w++y):v=w∧x=y:=by
 have h1:=qe hv x;rw[h,qe hw y] at h1;simp only[Option.some.injEq,Prod.mk.injEq] at h1;exact⟨h1.1.symm,h1.2.symm⟩
def LF{v:Val}(h:aw v=true):de [v] =ca v:=by rw[mS (by simp[h])];simp
def Br{v w:Val}(h:aw v=true)(k:aw w=true):de [v,w] =ca v++ca w:=by rw[mS (by simp[h,k])];simp
def Bs{v:Val}(h:aw v=true): ∀b r,ca v=b::r→b<255:=by
 intro b r e;rcases nw h with rfl|⟨n,rfl,_,_⟩|⟨s,rfl,_,_⟩
 · rw[pE] at e;cases e;decide
 · rw[lL] at e;cases e;decide
 · rw[lK] at e;cases e;decide
def vEq(a b:Val):Bool:=a.k==b.k && (a.n==b.n && a.s==b.s)
def vEq_iff{a b:Val}:vEq a b=true↔a=b:=by
 obtain⟨k,n,s⟩:=a;obtain⟨k',n',s'⟩:=b;simp[vEq]
structure DB (c:Cat) (ps:List Pg) (D:Str→List (List Val)):Prop where
 cat:GoodC c
 good:aG ps=true
 fit: ∀t∈c.ts,∀r∈D t.n,r.length=t.cols.length∧r.all aw=true
 dis: ∀t∈c.ts,(D t.n).Pairwise (fun r r'=>r.getD 0 af≠r'.getD 0 af)
 mem: ∀a b,(a,b)∈ax ps↔ ∃t∈c.ts,∃r∈D t.n,(a=jF t r∧b=de r)∨(a∈cG t r c.is∧b= [])
def GoodC.tname{c:Cat}(h:GoodC c){t:Tab}(ht:t∈c.ts):bG t.n=true:=by
 have:=h.tabs t ht;simp only[cw,aE] at this;exact this.2.1
def GoodC.tinj{c:Cat}(h:GoodC c){t u:Tab}(ht:t∈c.ts)(hu:u∈c.ts)(e:t.n=u.n):t=u:=px h.tn t ht u hu e
def GoodC.xinj{c:Cat}(h:GoodC c){t u:Idx}(ht:t∈c.is)(hu:u∈c.is)(e:t.n=u.n):t=u:=px h.xn t ht u hu e
def GoodC.wide{c:Cat}(h:GoodC c){t:Tab}(ht:t∈c.ts):1≤t.cols.length∧t.cols.length≤4:=by
 have:=h.tabs t ht;simp only[cw,aE,decide_eq_true_eq] at this;exact⟨this.2.2.1,this.2.2.2.1⟩
def Gn{t:Tab}(h:cw t=true){k:Nat}(hk:k<t.cols.length):aU t (tK t k)=k:=by
 simp only[cw,aE] at h;have h1:t.cols[k]?=some (t.cols.getD k ⟨[],0,false⟩):=cV _ hk;have:=zip_all.1 h.1 k _ h1;simp only[tJ,Bool.not_eq_true',Bool.or_eq_false_iff,bne_eq_false_iff_eq] at this;have e:tK t (k:Int)=(t.cols.getD k ⟨[],0,false⟩).n:=by rw[tK,iN]
 rw[e];exact this.2
def xP{α β:Type}{R:List β}{l:List α}(g:α→β)(f:β→Option α)(hR:R.Nodup)(hm: ∀x,x∈R↔ ∃r∈l,x=g r)(hf: ∀r∈l,f (g r)=some r)(hl:l.Nodup):(R.filterMap f).Perm l:=by
 have hback: ∀m:List α,(∀r∈m,r∈l)→(m.map g).filterMap f=m:=fun m hm=>by
  induction m with
  |nil=>rfl
  |cons r m ih=>rw[List.map_cons,List.filterMap_cons,hf r (hm r sP),ih (fun r hr=>hm r (by simp[hr]))]
 have hnd:(l.map g).Nodup:=by
  refine List.Pairwise.map _ (fun r r' h=>h) ?_;refine hl.imp_of_mem (fun{r r'} hr hr' hne e=>hne ?_);have h1:=hf r hr;rw[e,hf r' hr'] at h1;exact(Option.some.inj h1).symm
 have hperm:R.Perm (l.map g):=by
  refine(List.perm_ext_iff_of_nodup hR hnd).2 (fun x=> ?_);rw[hm,List.mem_map];exact⟨fun⟨r,hr,e⟩=>⟨r,hr,e.symm⟩,fun⟨r,hr,e⟩=>⟨r,hr,e.symm⟩⟩
 have:=hperm.filterMap f
 rwa [hback l (fun r hr=>hr)] at this
def DB.nodup{c:Cat}{ps:List Pg}{D:Str→List (List Val)}(h:DB c ps D){t:Tab}(ht:t∈c.ts):(D t.n).Nodup:=(h.dis t ht).imp (fun{a b} hne e=>hne (by rw[e]))
def ql{ps:List Pg}(h:aG ps=true)(lo hi:Str):Cy (dH ps lo hi):=by
 rw[xI _ _ h];exact(pf h).sublist (List.Sublist.map _ List.filter_sublist)
def xJ{ps:List Pg}(h:aG ps=true)(lo hi a b:Str):(a,b)∈dH ps lo hi↔(a,b)∈ax ps∧ ¬a<lo∧a<hi:=by
 rw[xI _ _ h,List.mem_filter];simp
def jc{c:Cat}{ps:List Pg}{D:Str→List (List Val)}(h:DB c ps D){t:Tab}(ht:t∈c.ts)(lo hi:Str)(P:List Val→Bool)(hlo: ∀a,¬a<lo→a<hi→ ¬a<dn t.n∧a<(ei t.n).hi)
 (hP: ∀r∈D t.n,P r=true↔ ¬jF t r<lo∧jF t r<hi):
 (ci ps t ⟨[],lo,hi⟩).Perm ((D t.n).filter P)∧(ci ps t ⟨[],lo,hi⟩).Pairwise (fun r r'=>cD (r.getD 0 af) (r'.getD 0 af)= -1):=by
 have hp:ci ps t ⟨[],lo,hi⟩=(dH ps lo hi).filterMap (fun x=>dh t x.2):=by rw[ci];congr 1
 have hm: ∀x:Pr,x∈dH ps lo hi↔ ∃r∈(D t.n).filter P,x=(jF t r,de r):=by
  rintro ⟨a,b⟩;rw[xJ h.good,h.mem];constructor
  · rintro ⟨⟨u,hu,r,hr,hx⟩,h1,h2⟩;obtain⟨g1,g2⟩:=hlo a h1 h2;rcases hx with⟨rfl,rfl⟩|⟨hx,_⟩
    · obtain⟨s,hs⟩:=Cs g1 g2;have e:=h.cat.tinj hu ht (xE (h.cat.tname hu) (h.cat.tname ht) hs).1;subst e;exact⟨r,List.mem_filter.2 ⟨hr,(hP r hr).2 ⟨h1,h2⟩⟩,rfl⟩
    · obtain⟨s,rfl⟩:=EY hx;exact absurd g2 (Ll t.n s)
  · rintro ⟨r,hr,e⟩;obtain⟨hr,hPr⟩:=List.mem_filter.1 hr;obtain⟨rfl,rfl⟩:=Prod.mk.inj e;obtain⟨h1,h2⟩:=(hP r hr).1 hPr;exact⟨⟨t,ht,r,hr,.inl ⟨rfl,rfl⟩⟩,h1,h2⟩
 rw[hp];refine⟨xP (fun r=>(jF t r,de r)) _ (qy (ql h.good lo hi)) hm (fun r hr=>pm (h.fit t ht r (List.mem_filter.1 hr).1)) ((h.nodup ht).filter _),?_⟩;refine List.pairwise_filterMap.2 ?_;refine(List.pairwise_map.1 (ql h.good lo hi)).imp_of_mem (fun{x y} hx hy hlt r hr r' hr'=> ?_);obtain⟨q,hq,rfl⟩:=(hm x).1 hx;obtain⟨q',hq',rfl⟩:=(hm y).1 hy;have hq:=(List.mem_filter.1 hq).1;have hq':=(List.mem_filter.1 hq').1;have e1:=(pm (h.fit t ht q hq)).symm.trans hr;have e2:=(pm (h.fit t ht q' hq')).symm.trans hr';cases e1;cases e2;have hlt2:de [r.getD 0 af] <de [r'.getD 0 af]:=(mo (dn t.n) _ _).1 hlt;exact(EW (bD (h.fit t ht r hq).2 0) (bD (h.fit t ht r' hq').2 0)).1 hlt2
def HN{c:Cat}{ps:List Pg}{D:Str→List (List Val)}(h:DB c ps D){t:Tab}(ht:t∈c.ts){x:Idx}(hx:x∈c.is)(hxt:x.tb=t.n){k:Nat}(hk:k<t.cols.length)(hxc:x.co=tK t k){v:Val}(hv:aw v=true):
 (ci ps t (oA x v)).Perm ((D t.n).filter (fun r=>vEq (r.getD k af) v)):=by
 have hxn:=(h.cat.idx x hx).1;have hcol:aU t x.co=k:=by rw[hxc];exact Gn (h.cat.tabs t ht) hk
 have hkey: ∀r∈D t.n,iz t r x=aO x.n++(ca (r.getD k af)++ca (r.getD 0 af)):=fun r hr=>by
  have hg:=(h.fit t ht r hr).2;rw[iz,hcol,iN,eE,Br (bD hg k) (bD hg 0)]
 have hm: ∀z:Pr,z∈dH ps (oA x v).lo (oA x v).hi↔ ∃r∈(D t.n).filter (fun r=>vEq (r.getD k af) v),z=(iz t r x,[]):=by
  rintro ⟨a,b⟩;rw[xJ h.good,h.mem];constructor
  · rintro ⟨⟨u,hu,r,hr,hy⟩,h1,h2⟩;obtain⟨s,hs⟩:=oX (aO x.n++de [v]) a h1 h2;rw[List.append_assoc,LF hv] at hs;rcases hy with⟨rfl,_⟩|⟨hy,rfl⟩
    · have:(114:UInt8)=120:=by
       have:=congrArg List.head? hs;simp[jF,ap,dn,aO] at this
      exact absurd this dD
    · obtain⟨x',hx',rfl⟩:=mM hy;obtain⟨hx1,hx2⟩:=List.mem_filter.1 hx';simp only[wW,aE,beq_iff_eq,decide_eq_true_eq] at hx2;have hg:=(h.fit u hu r hr).2;rw[iz,eE,Br (bD hg _) (bD hg 0)] at hs;obtain⟨e1,e2⟩:=rr (h.cat.idx x' hx1).1 hxn hs;have e:=h.cat.xinj hx1 hx e1;subst e;have e:=h.cat.tinj hu ht (hx2.1.symm.trans hxt);subst e;rw[hcol,iN] at e2;obtain⟨e3,_⟩:=qx (bD hg k) hv e2;exact⟨r,List.mem_filter.2 ⟨hr,vEq_iff.2 e3⟩,rfl⟩
  · rintro ⟨r,hr,e⟩;obtain⟨hr,hPr⟩:=List.mem_filter.1 hr;have hPr:=vEq_iff.1 hPr;obtain⟨rfl,rfl⟩:=Prod.mk.inj e;have hg:=(h.fit t ht r hr).2;refine⟨⟨t,ht,r,hr,.inr ⟨List.mem_map.2 ⟨x,List.mem_filter.2 ⟨hx,?_⟩,rfl⟩,rfl⟩⟩,?_⟩
    · simp only[wW,aE,beq_iff_eq,decide_eq_true_eq];exact⟨hxt,by rw[hcol];omega⟩
    · rw[hkey r hr,hPr];show¬_<aO x.n++de [v] ∧_<(aO x.n++de [v])++ [255];rw[LF hv,←List.append_assoc];exact⟨Fl _ _,Ej _ _ (Bs (bD hg 0))⟩
 have hp:ci ps t (oA x v)=(dH ps (oA x v).lo (oA x v).hi).filterMap (fv ps t (oA x v)):=rfl;rw[hp];refine xP (fun r=>(iz t r x,[])) _ (qy (ql h.good _ _)) hm (fun r hr=> ?_) ((h.nodup ht).filter _);have hr:=(List.mem_filter.1 hr).1;have hg:=(h.fit t ht r hr).2;have hne:(oA x v).i≠ []:=fun e=>by
  have e:x.n= []:=e;rw[e] at hxn;simp[bG] at hxn
 have hent:qz (oA x v) (iz t r x)=some [r.getD k af,r.getD 0 af]:=by
  unfold qz;have e1:((aO (oA x v).i).length:Int)≤((iz t r x).length:Int):=by
   rw[hkey r hr];show((aO x.n).length:Int)≤_;rw[gV];omega
  rw[if_neg C,iN];show(match dz ((iz t r x).drop (aO x.n).length) with|some l=>_|none=>_)=_;rw[hkey r hr,List.drop_left,←Br (bD hg k) (bD hg 0),pD (by rw[List.all_cons,List.all_cons,bD hg k,bD hg 0];rfl)];rfl
 unfold fv;rw[if_neg hne,hent];have hget:(getM ps (ap t.n (r.getD 0 af))).1=de r:=by
  have:=yu (w:=de r) (pf h.good) ((h.mem (jF t r) _).2 ⟨t,ht,r,hr,.inl ⟨rfl,rfl⟩⟩);rw[vR h.good];exact congrArg Prod.fst this
 show dh t (getM ps (ap t.n (r.getD 0 af))).1=some r;rw[hget,pm (h.fit t ht r hr)]
def yS(D:Str→List (List Val))(n:Str)(l:List (List Val)):Str→List (List Val):=fun m=>if m=n then l else D m
def ct(D:Str→List (List Val))(n:Str)(l:List (List Val)):yS D n l n=l:=if_pos U
def fu{D:Str→List (List Val)}{n m:Str}{l:List (List Val)}(h:m≠n):yS D n l m=D m:=if_neg h
def uV{t u:Tab}(ht:bG t.n=true)(hu:bG u.n=true){r q:List Val}(hr:r.all aw=true)(hq:q.all aw=true)(h:jF t r=jF u q):t.n=u.n∧r.getD 0 af=q.getD 0 af:=by
 obtain⟨h1,h2⟩:=xE ht hu h;exact⟨h1,Bq (bD hr 0) (bD hq 0) h2⟩
def FX{t u:Tab}{x y:Idx}(hx:bG x.n=true)(hy:bG y.n=true){r q:List Val}(hr:r.all aw=true)(hq:q.all aw=true)(h:iz t r x=iz u q y):x.n=y.n∧r.getD 0 af=q.getD 0 af:=by
 obtain⟨h1,h2⟩:=rr hx hy h;rw[Br (bD hr _) (bD hr 0),Br (bD hq _) (bD hq 0)] at h2;obtain⟨_,h3⟩:=qx (bD hr _) (bD hq _) h2;refine⟨h1,?_⟩;have:=qx (x:= []) (y:= []) (bD hr 0) (bD hq 0) (by rw[List.append_nil,List.append_nil];exact h3);exact this.1
def ixKeys_mem{t:Tab}{r:List Val}{l:List Idx}{a:Str}:a∈cG t r l↔ ∃x∈l,x.tb=t.n∧0≤aU t x.co∧a=iz t r x:=by
 simp only[cG,List.mem_map,List.mem_filter,wW,aE,beq_iff_eq,decide_eq_true_eq];constructor
 · rintro ⟨x,⟨h1,h2,h3⟩,h4⟩;exact⟨x,h1,h2,h3,h4.symm⟩
 · rintro ⟨x,h1,h2,h3,h4⟩;exact⟨x,⟨h1,h2,h3⟩,h4.symm⟩
def Dt{c:Cat}(hc:GoodC c){t u:Tab}(ht:t∈c.ts)(hu:u∈c.ts){r q:List Val}(hr:r.all aw=true)(hq:q.all aw=true){a:Str}(h1:a∈cG t r c.is)(h2:a∈cG u q c.is):t=u∧r.getD 0 af=q.getD 0 af:=by
 obtain⟨x,hx,e1,_,rfl⟩:=ixKeys_mem.1 h1;obtain⟨y,hy,e2,_,e3⟩:=ixKeys_mem.1 h2;obtain⟨e4,e5⟩:=FX (hc.idx x hx).1 (hc.idx y hy).1 hr hq e3;have:=hc.xinj hx hy e4;subst this;exact⟨hc.tinj ht hu (e1.symm.trans e2),e5⟩
section
variable {c:Cat}{ps:List Pg}{D:Str→List (List Val)}
def sL{l:List (List Val)}(h:l.Pairwise (fun r r'=>r.getD 0 af≠r'.getD 0 af)){r q:List Val}(hr:r∈l)(hq:q∈l)(e:r.getD 0 af=q.getD 0 af):r=q:=by
 induction h with
 |nil=>cases hr
 |cons h1 h2 ih=>
  rcases List.mem_cons.1 hr with rfl|hr'
  · rcases List.mem_cons.1 hq with rfl|hq'
    · rfl
    · exact absurd e (h1 q hq')
  · rcases List.mem_cons.1 hq with rfl|hq'
    · exact absurd e.symm (h1 r hr')
    · exact ih hr' hq'
def DB.put(h:DB c ps D){t:Tab}(ht:t∈c.ts){row:List Val}(hf:row.length=t.cols.length∧row.all aw=true)(hn: ∀r∈D t.n,r.getD 0 af≠row.getD 0 af):DB c (lu ps c t row) (yS D t.n (D t.n++ [row])):=by
 have hw:=h.cat.wide ht;obtain⟨hg,hm⟩:=AY (c:=c) h.good C hf.1;refine⟨h.cat,hg,fun u hu r hr=> ?_,fun u hu=> ?_,fun a b=> ?_⟩
 · by_cases e:u.n=t.n
   · have e':=h.cat.tinj hu ht e;subst e';rw[ct] at hr;rcases mA hr with hr|hr
     · exact h.fit u hu r hr
     · rw[List.mem_singleton.1 hr];exact hf
   · rw[fu e] at hr;exact h.fit u hu r hr
 · by_cases e:u.n=t.n
   · have e':=h.cat.tinj hu ht e;subst e';rw[ct];refine List.pairwise_append.2 ⟨h.dis u hu,List.pairwise_singleton _ _,fun r hr q hq=> ?_⟩;rw[List.mem_singleton.1 hq];exact hn r hr
   · rw[fu e];exact h.dis u hu
 · rw[hm];constructor
   · rintro (⟨h1,h2⟩|⟨h1,⟨h2,h3⟩|⟨h2,h3⟩⟩)
     · exact⟨t,ht,row,by rw[ct];simp,.inr ⟨h1,h2⟩⟩
     · exact⟨t,ht,row,by rw[ct];simp,.inl ⟨h2,h3⟩⟩
     · obtain⟨u,hu,r,hr,hx⟩:=(h.mem a b).1 h3;refine⟨u,hu,r,?_,hx⟩;by_cases e:u.n=t.n
       · rw[e,ct];rw[e] at hr;exact List.mem_append_left _ hr
       · rw[fu e];exact hr
   · rintro ⟨u,hu,r,hr,hx⟩;have old:r∈D u.n→(a∈cG t row c.is∧b= [])∨(a∉cG t row c.is∧((a=jF t row∧b=de row)∨(a≠jF t row∧(a,b)∈ax ps))):=fun hr=>by
      have hm':(a,b)∈ax ps:=(h.mem a b).2 ⟨u,hu,r,hr,hx⟩;have hfr:=h.fit u hu r hr;rcases hx with⟨h1,h2⟩|⟨h1,h2⟩
      · refine .inr ⟨by rw[h1];exact oz,.inr ⟨fun e=> ?_,hm'⟩⟩;obtain⟨e1,e2⟩:=uV (h.cat.tname hu) (h.cat.tname ht) hfr.2 hf.2 (h1.symm.trans e);rw[e1] at hr;exact hn r hr e2
      · by_cases hi:a∈cG t row c.is
        · exact .inl ⟨hi,h2⟩
        · exact .inr ⟨hi,.inr ⟨fun e=>by rw[e] at h1;exact oz h1,hm'⟩⟩
     by_cases e:u.n=t.n
     · rw[e,ct] at hr;rcases mA hr with hr|hr
       · exact old (by rw[e];exact hr)
       · have:=List.mem_singleton.1 hr;subst this;have e':=h.cat.tinj hu ht e;subst e';rcases hx with⟨h1,h2⟩|⟨h1,h2⟩
         · exact .inr ⟨by rw[h1];exact oz,.inl ⟨h1,h2⟩⟩
         · exact .inl ⟨h1,h2⟩
     · rw[fu e] at hr;exact old hr
def DB.drops(h:DB c ps D){t:Tab}(ht:t∈c.ts){R L':List (List Val)}(hR: ∀r∈R,r∈D t.n)(hL: ∀r,r∈L'↔r∈D t.n∧r∉R)(hs:L'.Pairwise (fun r r'=>r.getD 0 af≠r'.getD 0 af)):
 DB c (R.foldl (fun q r=>gZ q c t r) ps) (yS D t.n L'):=by
 have hw:=h.cat.wide ht;obtain⟨hg,hm⟩:=yw (c:=c) (t:=t) C R h.good (fun r hr=>(h.fit t ht r (hR r hr)).1);have sub: ∀u∈c.ts,∀r∈yS D t.n L' u.n,r∈D u.n:=fun u hu r hr=>by
  by_cases e:u.n=t.n
  · rw[e,ct] at hr;rw[e];exact((hL r).1 hr).1
  · rw[fu e] at hr;exact hr
 refine⟨h.cat,hg,fun u hu r hr=>h.fit u hu r (sub u hu r hr),fun u hu=> ?_,fun a b=> ?_⟩
 · by_cases e:u.n=t.n
   · rw[e,ct];exact hs
   · rw[fu e];exact h.dis u hu
 · rw[hm];constructor
   · rintro ⟨h1,h2⟩;obtain⟨u,hu,r,hr,hx⟩:=(h.mem a b).1 h2;refine⟨u,hu,r,?_,hx⟩;by_cases e:u.n=t.n
     · have e':=h.cat.tinj hu ht e;subst e';rw[ct];refine(hL r).2 ⟨hr,fun hrR=> ?_⟩;obtain⟨h3,h4⟩:=h1 r hrR;rcases hx with⟨h5,_⟩|⟨h5,_⟩
       · exact h4 h5
       · exact h3 h5
     · rw[fu e];exact hr
   · rintro ⟨u,hu,r,hr,hx⟩;have hrD:=sub u hu r hr;have hfr:=h.fit u hu r hrD;refine⟨fun q hq=> ?_,(h.mem a b).2 ⟨u,hu,r,hrD,hx⟩⟩;have hqD:=hR q hq;have hfq:=h.fit t ht q hqD;have oR:u=t→r.getD 0 af=q.getD 0 af→False:=fun e e2=>by
      subst e;rw[ct] at hr;have:=sL (h.dis u hu) hrD hqD e2;subst this;exact((hL r).1 hr).2 hq
     rcases hx with⟨h5,_⟩|⟨h5,_⟩
     · refine⟨fun hi=>by rw[h5] at hi;exact oz hi,fun e=> ?_⟩;obtain⟨e1,e2⟩:=uV (h.cat.tname hu) (h.cat.tname ht) hfr.2 hfq.2 (h5.symm.trans e);exact oR (h.cat.tinj hu ht e1) e2
     · refine⟨fun hi=> ?_,fun e=>by rw[e] at h5;exact oz h5⟩;obtain⟨e1,e2⟩:=Dt h.cat hu ht hfr.2 hfq.2 h5 hi;exact oR e1 e2
def DB.create(h:DB c ps D){d:Cat}(hd:GoodC d){u:Tab}(hts: ∀t,t∈d.ts↔t=u∨t∈c.ts)(his:d.is=c.is)(hn: ∀t∈c.ts,t.n≠u.n):DB d ps (yS D u.n []):=by
 have same: ∀t∈c.ts,yS D u.n [] t.n=D t.n:=fun t ht=>fu (hn t ht)
 refine⟨hd,h.good,fun t ht r hr=> ?_,fun t ht=> ?_,fun a b=> ?_⟩
 · rcases(hts t).1 ht with rfl|ht'
   · rw[ct] at hr;cases hr
   · rw[same t ht'] at hr;exact h.fit t ht' r hr
 · rcases(hts t).1 ht with rfl|ht'
   · rw[ct];exact .nil
   · rw[same t ht'];exact h.dis t ht'
 · rw[h.mem,his];constructor
   · rintro ⟨t,ht,r,hr,hx⟩;exact⟨t,(hts t).2 (.inr ht),r,by rw[same t ht];exact hr,hx⟩
   · rintro ⟨t,ht,r,hr,hx⟩;rcases(hts t).1 ht with rfl|ht'
     · rw[ct] at hr;cases hr
     · rw[same t ht'] at hr;exact⟨t,ht',r,hr,hx⟩
def DB.drop(h:DB c ps D){d:Cat}(hd:GoodC d){n:Str}(hts: ∀t,t∈d.ts↔t∈c.ts∧t.n≠n)(his: ∀x,x∈d.is↔x∈c.is∧x.tb≠n)(hn:D n= []):DB d ps D:=by
 refine⟨hd,h.good,fun t ht r hr=>h.fit t ((hts t).1 ht).1 r hr,fun t ht=>h.dis t ((hts t).1 ht).1,fun a b=> ?_⟩;have ik: ∀t:Tab,t.n≠n→ ∀r,a∈cG t r c.is↔a∈cG t r d.is:=fun t ht r=>by
  rw[ixKeys_mem,ixKeys_mem];constructor
  · rintro ⟨x,hx,e1,e2,e3⟩;exact⟨x,(his x).2 ⟨hx,by rw[e1];exact ht⟩,e1,e2,e3⟩
  · rintro ⟨x,hx,e1,e2,e3⟩;exact⟨x,((his x).1 hx).1,e1,e2,e3⟩
 rw[h.mem];constructor
 · rintro ⟨t,ht,r,hr,hx⟩;have hne:t.n≠n:=fun e=>by rw[e,hn] at hr;cases hr
   rw[ik t hne r] at hx;exact⟨t,(hts t).2 ⟨ht,hne⟩,r,hr,hx⟩
 · rintro ⟨t,ht,r,hr,hx⟩;obtain⟨h1,h2⟩:=(hts t).1 ht;rw[←ik t h2 r] at hx;exact⟨t,h1,r,hr,hx⟩
def ya(h:DB c ps D){d:Cat}{t:Tab}(ht:t∈c.ts): ∀(R done:List (List Val)) {q:List Pg},aG q=true→(∀r∈R,r∈D t.n)→
 (∀a b,(a,b)∈ax q↔(a,b)∈ax ps∨ ∃r∈done,a∈cG t r d.is∧b= [])→
 aG (R.foldl (fun q r=>lu q d t r) q)=true∧ ∀a b,(a,b)∈ax (R.foldl (fun q r=>lu q d t r) q)↔(a,b)∈ax ps∨ ∃r∈done++R,a∈cG t r d.is∧b= []
 | [],done,q,hg,_,hq=>⟨hg,fun a b=>by rw[List.append_nil];exact hq a b⟩
 |r::R,done,q,hg,hR,hq=>by
  have hw:=h.cat.wide ht;have hrD:=hR r (List.mem_cons_self ..);have hfr:=h.fit t ht r hrD;obtain⟨g1,m1⟩:=AY (c:=d) hg C hfr.1;have:=ya h (d:=d) ht R (done++ [r]) g1 (fun r' hr'=>hR r' (List.mem_cons_of_mem _ hr')) (fun a b=>by
   rw[m1,hq];constructor
   · rintro (⟨h1,h2⟩|⟨h1,⟨h2,h3⟩|⟨h2,h3⟩⟩)
     · exact .inr ⟨r,by simp,h1,h2⟩
     · exact .inl ((h.mem a b).2 ⟨t,ht,r,hrD,.inl ⟨h2,h3⟩⟩)
     · rcases h3 with h3|⟨r',h3,h4⟩
       · exact .inl h3
       · exact .inr ⟨r',List.mem_append_left _ h3,h4⟩
   · rintro (h1|⟨r',h1,h2,h3⟩)
     · obtain⟨u,hu,r',hr',hx⟩:=(h.mem a b).1 h1;have hfr':=h.fit u hu r' hr';rcases hx with⟨e1,e2⟩|⟨e1,e2⟩
       · refine .inr ⟨by rw[e1];exact oz,?_⟩;by_cases e:a=jF t r
         · obtain⟨e3,e4⟩:=uV (h.cat.tname hu) (h.cat.tname ht) hfr'.2 hfr.2 (e1.symm.trans e);have:=h.cat.tinj hu ht e3;subst this;have:=sL (h.dis u hu) hr' hrD e4;subst this;exact .inl ⟨e1,e2⟩
         · exact .inr ⟨e,.inl h1⟩
       · by_cases hi:a∈cG t r d.is
         · exact .inl ⟨hi,e2⟩
         · exact .inr ⟨hi,.inr ⟨fun e=>by rw[e] at e1;exact oz e1,.inl h1⟩⟩
     · by_cases hi:a∈cG t r d.is
       · exact .inl ⟨hi,h3⟩
       · rcases mA h1 with h1|h1
         · exact .inr ⟨hi,.inr ⟨fun e=>by rw[e] at h2;exact oz h2,.inr ⟨r',h1,h2,h3⟩⟩⟩
         · rw[List.mem_singleton.1 h1] at h2;exact absurd h2 hi)
  rw[List.append_assoc] at this;exact this
def DB.mark(h:DB c ps D){d:Cat}(hd:GoodC d){x:Idx}(hts:d.ts=c.ts)(his: ∀y,y∈d.is↔y=x∨y∈c.is){t:Tab}(ht:t∈c.ts)(hx:x.tb=t.n){R:List (List Val)}(hR: ∀r,r∈R↔r∈D t.n):
 DB d (R.foldl (fun q r=>lu q d t r) ps) D:=by
 obtain⟨g,m⟩:=ya h (d:=d) ht R [] h.good (fun r hr=>(hR r).1 hr) (fun a b=>by simp);refine⟨hd,g,fun u hu r hr=>h.fit u (hts▸hu) r hr,fun u hu=>h.dis u (hts▸hu),fun a b=> ?_⟩;rw[m,h.mem,List.nil_append,hts];constructor
 · rintro (⟨u,hu,r,hr,hk⟩|⟨r,hr,h1,h2⟩)
   · refine⟨u,hu,r,hr,hk.imp id (fun hk=>⟨?_,hk.2⟩)⟩;obtain⟨y,hy,e1,e2,e3⟩:=ixKeys_mem.1 hk.1;exact ixKeys_mem.2 ⟨y,(his y).2 (.inr hy),e1,e2,e3⟩
   · exact⟨t,ht,r,(hR r).1 hr,.inr ⟨h1,h2⟩⟩
 · rintro ⟨u,hu,r,hr,hk⟩;rcases hk with hk|⟨h1,h2⟩
   · exact .inl ⟨u,hu,r,hr,.inl hk⟩
   · obtain⟨y,hy,e1,e2,e3⟩:=ixKeys_mem.1 h1;rcases(his y).1 hy with rfl|hy'
     · have:u=t:=h.cat.tinj hu ht (e1.symm.trans hx);subst this;exact .inr ⟨r,(hR r).2 hr,h1,h2⟩
     · exact .inl ⟨u,hu,r,hr,.inr ⟨ixKeys_mem.2 ⟨y,hy',e1,e2,e3⟩,h2⟩⟩
end
structure EI (c:Cat) (ps:List Pg) (D:Str→List (List Val)):Prop where
 db:DB c ps D
 few: ∀t∈c.ts,(D t.n).length≤30
 fits: ∀t∈c.ts,∀r∈D t.n,jM t r=true
def Bj{α:Type}[DecidableEq α]: ∀(l m:List α),l.Nodup→(∀x∈l,x∈m)→l.length≤m.length
 | [],m,_,_=>Nat.zero_le _
 |x::l,m,h,hm=>by
  rw[List.nodup_cons] at h;have hx:=hm x (List.mem_cons_self ..);have ih:=Bj l (m.erase x) h.2 (fun y hy=>(List.mem_erase_of_ne (fun e=>h.1 (by rw[←e];exact hy))).2 (hm y (List.mem_cons_of_mem _ hy)));rw[List.length_erase_of_mem hx] at ih;have:=List.length_pos_of_mem hx;rw[lC];omega
def ld{α β:Type}{f:α→List β}{k:Nat}: ∀{l:List α},(∀x∈l,(f x).length≤k)→(l.flatMap f).length≤l.length*k
 | [],_=>by simp
 |x::l,h=>by
  have h1:=h x (List.mem_cons_self ..);have h2:=ld (f:=f) (k:=k) (l:=l) (fun y hy=>h y (List.mem_cons_of_mem _ hy));rw[List.flatMap_cons,gV,lC,Nat.add_mul];omega
def Be: ∀{ps:List Pg},(∀p∈ps,Dm p)→ps.length≤(ax ps).length
 | [],_=>Nat.zero_le _
 |p::ps,h=>by
  have hp:=h p (List.mem_cons_self ..);have ih:=Be (ps:=ps) (fun q hq=>h q (List.mem_cons_of_mem _ hq));rw[lb,gV,lC,Pg.prs,List.length_zip];have h1:=hp.1;have h2:=hp.2.2;omega
def fA{n:Str}(h:bG n=true):n.length≤8:=by
 simp only[bG,aE,decide_eq_true_eq] at h;omega
def HL{t:Tab}(h:bG t.n=true)(r:List Val):(jF t r).length≤100:=by
 have:=fA h;have:=kZ [r.getD 0 af];simp only[jF,ap,dn,gV,lC,List.length_nil] at*;omega
def FW{t:Tab}{x:Idx}(h:bG x.n=true)(r:List Val):(iz t r x).length≤100:=by
 have:=fA h;have:=kZ [r.getD (aU t x.co).toNat af,r.getD 0 af];simp only[iz,eE,aO,gV,lC,List.length_nil] at*;omega
section
variable {c:Cat}{ps:List Pg}{D:Str→List (List Val)}
def DB.small(h:DB c ps D):ta ps:=fun x hx=>by
 obtain⟨a,b⟩:=x;obtain⟨t,ht,r,hr,hx⟩:=(h.mem a b).1 hx;have hf:=h.fit t ht r hr;have hw:=h.cat.wide ht;have hk:=kZ r;rcases hx with⟨rfl,rfl⟩|⟨h1,rfl⟩
 · have:=HL (h.cat.tname ht) r;dsimp only;omega
 · obtain⟨y,hy,_,_,rfl⟩:=ixKeys_mem.1 h1;have:=FW (t:=t) (h.cat.idx y hy).1 r;dsimp only;simp only[List.length_nil];omega
def EI.pages(h:EI c ps D):ps.length≤1000:=by
 have hg:=(eQ ps).1 h.db.good;refine Nat.le_trans (Be hg.1) ?_;refine Nat.le_trans (Bj (ax ps) (c.ts.flatMap (fun t=>(D t.n).flatMap (fun r=>(jF t r,de r)::(cG t r c.is).map (fun a=>(a,([]:Str)))))) (qy (pf h.db.good)) (fun x hx=> ?_)) ?_
 · obtain⟨a,b⟩:=x;obtain⟨t,ht,r,hr,hx⟩:=(h.db.mem a b).1 hx;refine List.mem_flatMap.2 ⟨t,ht,List.mem_flatMap.2 ⟨r,hr,?_⟩⟩;rcases hx with⟨rfl,rfl⟩|⟨h1,rfl⟩
   · exact List.mem_cons_self ..
   · exact List.mem_cons_of_mem _ (List.mem_map.2 ⟨a,h1,rfl⟩)
 · have h4:=h.db.cat.il;have h3:=h.db.cat.tl;have h1: ∀t∈c.ts,((D t.n).flatMap (fun r=>(jF t r,de r)::(cG t r c.is).map (fun a=>(a,([]:Str))))).length≤150:=fun t ht=>by
    have h30:=h.few t ht;refine Nat.le_trans (ld (k:=5) (fun r hr=> ?_)) C;rw[lC,lM,cG,lM];have:=List.length_filter_le (wW t) c.is;omega
   refine Nat.le_trans (ld (k:=150) h1) C
end
end Go.Proofs.Y
namespace Go.Abs
section
variable {P:Program}{c:Ctx}{st:St}{ops:Array Oper}{Q:Exit→Act→World→Prop}{rest:List Oper}{o:Oper}
def bm1{L:List Nat}{id:Nat}{t:TypeId}{xs:List IV}: [(id,Box.mk t (.r xs 0))].all (fun p=>AV.mentsIn L p.2.cs)=true:=by simp[AV.mentsIn_iv,AV.mentsIn]
def bo1{id:Nat}{t:TypeId}{xs:List IV}{b:Box}(h:xs≠ []):dW [] [(id,⟨t,.r xs 0⟩)] [(id,b)] =true:=by
 cases xs with
 |nil=>exact absurd U h
 |cons x l=>simp[dW,keys]
end
end Go.Abs
namespace Go.Proofs.Y
open Go.Abs Go.Proofs.Tryz
attribute [local irreducible] L Code.wp bodyPost Exit.then Exit.inBlock
def CD{gs:au}(c:Cat)(s:Stm)(ht:c.ts≠ [])(hi:c.is≠ [])(htl:c.ts.length≤3)(hil:c.is.length≤4)(k1:(s.kind==1)=false)(k2:(s.kind==2)=false)(k3:(s.kind==3)=false):
 CallG gs prog 99 [.agg (c.c.map .iv),.agg (s.cs.map .iv)] [] [] [] (.agg (c.c.map .iv)):=by
 refine iG func99 ntmps99 (fun w0 E0 hG=> ?_);have hkt: ∀e∈c.ts.map Tab.c,e.length=2:=by intro e he;obtain⟨t,_,rfl⟩:=mM he;rfl
 have hki: ∀e∈c.is.map Idx.c,e.length=3:=by intro e he;obtain⟨t,_,rfl⟩:=mM he;rfl
 have q1:=dK (c.ts.map Tab.c) hkt (by simpa using ht) (by rw[lM];simp[maxLen];omega) (by rw[lM];omega);have q2:=jh (c.is.map Idx.c) hki (by simpa using hi) (by rw[lM];simp[maxLen];omega) (by rw[lM];omega);refine wz ?_;all_goals(apply L.pubB 11 4 (es:=c.ts.map Tab.c) (k:=2);rfl;rfl;exact hkt;decide;exact(by simpa using ht);rfl;rfl;exact cN _ _;rfl;exact .cons .here (.cons .same .nil))
 all_goals(apply L.pubB 14 4 (es:=c.is.map Idx.c) (k:=3);rfl;rfl;exact hki;decide;exact(by simpa using hi);rfl;rfl;exact cN _ _;rfl;exact .cons .same (.cons .here .nil))
 all_goals refine bn ?_
 all_goals rfl
def Af{gs:au}(c:Cat)(s:Stm)(ht:c.ts≠ [])(hi:c.is≠ [])(htl:c.ts.length≤3)(hil:c.is.length≤4)(k1:(s.kind==1)=true)(hf:Falls (fun x=>decide (x<s.name)) (c.ts.map Tab.n)):
 CallG gs prog 99 [.agg (c.c.map .iv),.agg (s.cs.map .iv)] [] [] [] (.agg ((Cat.mk (c.ts.take (aW (c.ts.map Tab.n) s.name)++⟨s.name,s.cols⟩::c.ts.drop (aW (c.ts.map Tab.n) s.name)) c.is).c.map .iv)):=by
 refine iG func99 ntmps99 (fun w0 E0 hG=> ?_);have hkt: ∀e∈c.ts.map Tab.c,e.length=2:=by intro e he;obtain⟨t,_,rfl⟩:=mM he;rfl
 have hki: ∀e∈c.is.map Idx.c,e.length=3:=by intro e he;obtain⟨t,_,rfl⟩:=mM he;rfl
 have hle:aW (c.ts.map Tab.n) s.name≤c.ts.length:=by have:=jd (fun x=>decide (x<s.name)) (c.ts.map Tab.n);rwa [lM] at this
 have q1:=dK (c.ts.map Tab.c) hkt (by simpa using ht) (by rw[lM];simp[maxLen];omega) (by rw[lM];omega);have q2:=jh (c.is.map Idx.c) hki (by simpa using hi) (by rw[lM];simp[maxLen];omega) (by rw[lM];omega);have q4:=tu (c.ts.map Tab.c) [S s.name,.sl (s.cols.map Col.c)] (aW (c.ts.map Tab.n) s.name) hkt U (by simpa using ht) (by rw[lM];exact hle) (by rw[lM];simp[maxLen];omega) (by rw[lM];omega);rw[lM] at q1 q2 q4;have hE:(c.ts.map Tab.c).take (aW (c.ts.map Tab.n) s.name)++ [S s.name,.sl (s.cols.map Col.c)]::(c.ts.map Tab.c).drop (aW (c.ts.map Tab.n) s.name)=(c.ts.take (aW (c.ts.map Tab.n) s.name)++⟨s.name,s.cols⟩::c.ts.drop (aW (c.ts.map Tab.n) s.name):List Tab).map Tab.c:=by simp[List.map_take,List.map_drop,Tab.c]
 rw[hE] at q4;have hkn: ∀e∈(c.ts.take (aW (c.ts.map Tab.n) s.name)++⟨s.name,s.cols⟩::c.ts.drop (aW (c.ts.map Tab.n) s.name):List Tab).map Tab.c,e.length=2:=by intro e he;obtain⟨t,_,rfl⟩:=mM he;rfl
 have hnl:((c.ts.take (aW (c.ts.map Tab.n) s.name)++⟨s.name,s.cols⟩::c.ts.drop (aW (c.ts.map Tab.n) s.name):List Tab).map Tab.c).length=c.ts.length+1:=by simp;omega
 have q3:=(Fj (gs:=gs) c.ts s.name ht C hf).sws [(1000,11)] (args2:= [.bsh 11 0 c.ts.length 2,aS s.name,.fn 135 []]) (bx2:= [(11,⟨57,.r (c.ts.map Tab.c).flatten 0⟩)]) (bx2':= [(11,⟨57,.r (c.ts.map Tab.c).flatten 0⟩)]) (tk2':= []) (res2:= .tup [aI (aW (c.ts.map Tab.n) s.name:Int),aB (bN (c.ts.map Tab.n) s.name)]) U U U U U;have hfl:(c.ts.map Tab.c).flatten≠ []:=aD hkt dD (by simpa using ht);(repeat' first|intro hb hp|apply ac [];rfl;exact hG;exact q3;exact fS;exact B1;rfl;exact bo1 hfl;exact bm1;rfl|(refine LW.is ?_;first|apply og (es:= [[S s.name,.sl (s.cols.map Col.c)]]);rfl;rfl;rfl;rfl;rfl;rfl;rfl;rfl;rfl|apply oe;rfl;exact q4;rfl;rfl;rfl;exact hfl;exact cN _ _;rfl;rfl;rfl)|refine am ?_|refine ak ?_ ?_|fail)
 all_goals(apply L.pubB 38 4 (es:=(c.ts.take (aW (c.ts.map Tab.n) s.name)++⟨s.name,s.cols⟩::c.ts.drop (aW (c.ts.map Tab.n) s.name):List Tab).map Tab.c) (k:=2);rfl;rfl;exact hkn;decide;exact sP;exact hnl;rfl;exact cN _ _;rfl;exact .cons .here (.cons .same .nil))
 all_goals(apply L.pubB 14 4 (es:=c.is.map Idx.c) (k:=3);rfl;rfl;exact hki;decide;exact(by simpa using hi);exact lM _;rfl;exact cN _ _;rfl;exact .cons .same (.cons .here .nil))
 all_goals refine bn ?_
 all_goals rfl
def Fs{gs:au}(c:Cat)(s:Stm)(ht:c.ts≠ [])(hi:c.is≠ [])(htl:c.ts.length≤3)(hil:c.is.length≤4)(k1:(s.kind==1)=false)(k2:(s.kind==2)=true)(hf:Falls (fun x=>decide (x<s.name)) (c.is.map Idx.n)):
 CallG gs prog 99 [.agg (c.c.map .iv),.agg (s.cs.map .iv)] [] [] [] (.agg ((Cat.mk c.ts (c.is.take (aW (c.is.map Idx.n) s.name)++⟨s.name,s.table,s.col⟩::c.is.drop (aW (c.is.map Idx.n) s.name))).c.map .iv)):=by
 refine iG func99 ntmps99 (fun w0 E0 hG=> ?_);have hkt: ∀e∈c.ts.map Tab.c,e.length=2:=by intro e he;obtain⟨t,_,rfl⟩:=mM he;rfl
 have hki: ∀e∈c.is.map Idx.c,e.length=3:=by intro e he;obtain⟨t,_,rfl⟩:=mM he;rfl
 have hle:aW (c.is.map Idx.n) s.name≤c.is.length:=by have:=jd (fun x=>decide (x<s.name)) (c.is.map Idx.n);rwa [lM] at this
 have q1:=dK (c.ts.map Tab.c) hkt (by simpa using ht) (by rw[lM];simp[maxLen];omega) (by rw[lM];omega);have q2:=jh (c.is.map Idx.c) hki (by simpa using hi) (by rw[lM];simp[maxLen];omega) (by rw[lM];omega);have q4:=Bv (c.is.map Idx.c) [S s.name,S s.table,S s.col] (aW (c.is.map Idx.n) s.name) hki U (by simpa using hi) (by rw[lM];exact hle) (by rw[lM];simp[maxLen];omega) (by rw[lM];omega);rw[lM] at q1 q2 q4;have hE:(c.is.map Idx.c).take (aW (c.is.map Idx.n) s.name)++ [S s.name,S s.table,S s.col]::(c.is.map Idx.c).drop (aW (c.is.map Idx.n) s.name)=(c.is.take (aW (c.is.map Idx.n) s.name)++⟨s.name,s.table,s.col⟩::c.is.drop (aW (c.is.map Idx.n) s.name):List Idx).map Idx.c:=by simp[List.map_take,List.map_drop,Idx.c]
 rw[hE] at q4;have hkn: ∀e∈(c.is.take (aW (c.is.map Idx.n) s.name)++⟨s.name,s.table,s.col⟩::c.is.drop (aW (c.is.map Idx.n) s.name):List Idx).map Idx.c,e.length=3:=by intro e he;obtain⟨t,_,rfl⟩:=mM he;rfl
 have hnl:((c.is.take (aW (c.is.map Idx.n) s.name)++⟨s.name,s.table,s.col⟩::c.is.drop (aW (c.is.map Idx.n) s.name):List Idx).map Idx.c).length=c.is.length+1:=by simp;omega
 have q3:=(Le (gs:=gs) c.is s.name hi C hf).sws [(1000,14)] (args2:= [.bsh 14 0 c.is.length 3,aS s.name,.fn 139 []]) (bx2:= [(14,⟨67,.r (c.is.map Idx.c).flatten 0⟩)]) (bx2':= [(14,⟨67,.r (c.is.map Idx.c).flatten 0⟩)]) (tk2':= []) (res2:= .tup [aI (aW (c.is.map Idx.n) s.name:Int),aB (bN (c.is.map Idx.n) s.name)]) U U U U U;have hfl:(c.is.map Idx.c).flatten≠ []:=aD hki dD (by simpa using hi);(repeat' first|intro hb hp|apply ac [];rfl;exact hG;exact q3;exact fS;exact B1;rfl;exact bo1 hfl;exact bm1;rfl|(refine LW.is ?_;first|apply og (es:= [[S s.name,S s.table,S s.col]]);rfl;rfl;rfl;rfl;rfl;rfl;rfl;rfl;rfl|apply oe;rfl;exact q4;rfl;rfl;rfl;exact hfl;exact cN _ _;rfl;rfl;rfl)|refine am ?_|refine ak ?_ ?_|fail)
 all_goals(apply L.pubB 11 4 (es:=c.ts.map Tab.c) (k:=2);rfl;rfl;exact hkt;decide;exact(by simpa using ht);exact lM _;rfl;exact cN _ _;rfl;exact .cons .here (.cons .same .nil))
 all_goals(apply L.pubB 61 4 (es:=(c.is.take (aW (c.is.map Idx.n) s.name)++⟨s.name,s.table,s.col⟩::c.is.drop (aW (c.is.map Idx.n) s.name):List Idx).map Idx.c) (k:=3);rfl;rfl;exact hkn;decide;exact sP;exact hnl;rfl;exact cN _ _;rfl;exact .cons .same (.cons .here .nil))
 all_goals refine bn ?_
 all_goals rfl
def Bz{t:TypeId}{xs:List IV}{b:Box}(h:xs≠ [])(hb:(!b.cs.isEmpty && AV.mentsIn [1000,1001] b.cs)=true):([(1000,⟨t,.r xs 0⟩),(1001,b)]:List (Nat×Box)).all (fun p=> !p.2.cs.isEmpty && AV.mentsIn (keys [(1000,(⟨t,.r xs 0⟩:Box)),(1001,b)]) p.2.cs)=true:=by
 have h0:xs.isEmpty=false:=by cases xs with|nil=>exact absurd rfl h|cons x l=>rfl
 simp only[List.all_cons,List.all_nil,Bool.and_true,aE];refine⟨⟨by cases xs with|nil=>exact absurd rfl h|cons x l=>simp,by simp[AV.mentsIn_iv,AV.mentsIn]⟩,?_⟩;simpa[keys] using hb
def bo2{i n:Nat}{t:TypeId}{xs ys:List IV}{b:Box}(h:xs≠ [])(hb:b.cs.isEmpty=false):dW [n] [(i,⟨t,.r xs 0⟩),(3,b)] [(n,⟨t,.r ys 0⟩),(i,⟨t,.l []⟩),(3,b)] =true:=by
 cases xs with
 |nil=>exact absurd U h
 |cons x l=>simp[dW,keys,hb]
def bm2{L:List Nat}{i n:Nat}{t:TypeId}{ys:List IV}{b:Box}(hb:AV.mentsIn L b.cs=true):([(n,(⟨t,.r ys 0⟩:Box)),(i,⟨t,.l []⟩),(3,b)]:List (Nat×Box)).all (fun p=>AV.mentsIn L p.2.cs)=true:=by simp[AV.mentsIn_iv,AV.mentsIn,hb]
def Ae{gs:au}(c:Cat)(s:Stm)(ht:c.ts≠ [])(hi:c.is≠ [])(htl:c.ts.length≤3)(hil:c.is.length≤4)(k1:(s.kind==1)=false)(k2:(s.kind==2)=false)(k3:(s.kind==3)=true)
 (hkT:c.ts.filter (fun x=> !(x.n==s.name))≠ []) (hkX:c.is.filter (fun x=> !(x.tb==s.name))≠ []):
 CallG gs prog 99 [.agg (c.c.map .iv),.agg (s.cs.map .iv)] [] [] [] (.agg ((Cat.mk (c.ts.filter (fun x=> !(x.n==s.name))) (c.is.filter (fun x=> !(x.tb==s.name)))).c.map .iv)):=by
 refine iG func99 ntmps99 (fun w0 E0 hG=> ?_);have hkt: ∀e∈c.ts.map Tab.c,e.length=2:=by intro e he;obtain⟨t,_,rfl⟩:=mM he;rfl
 have hki: ∀e∈c.is.map Idx.c,e.length=3:=by intro e he;obtain⟨t,_,rfl⟩:=mM he;rfl
 have q1:=dK (c.ts.map Tab.c) hkt (by simpa using ht) (by rw[lM];simp[maxLen];omega) (by rw[lM];omega);have q2:=jh (c.is.map Idx.c) hki (by simpa using hi) (by rw[lM];simp[maxLen];omega) (by rw[lM];omega);rw[lM] at q1 q2;have hfT:(c.ts.map Tab.c).flatten≠ []:=aD hkt dD (by simpa using ht);have hfX:(c.is.map Idx.c).flatten≠ []:=aD hki dD (by simpa using hi);have q3:=wi (gs:=gs) (f:=142) (s:=s) (fun t=>t.n==s.name) c.ts ht C U (Bz hfT U) (fun y _=>((mt s y.n (.sl (y.cols.map Col.c))).toG (gs:=gs)).sws [(1000,1001)] U U U U U) hkT;have q4:=IU (gs:=gs) (f:=144) (s:=s) (fun x=>x.tb==s.name) c.is hi C U (Bz hfX U) (fun y _=>((rH s y.n y.tb (S y.co)).toG (gs:=gs)).sws [(1000,1001)] U U U U U) hkX;have q5:=q3.sws [(1002,68),(1001,3),(1000,11)] (args2:= [.bsh 11 0 c.ts.length 2,.fn 142 [.ptr 3 0]]) (bx2:= [(11,⟨57,.r (c.ts.map Tab.c).flatten 0⟩),(3,(Box.mk 80 (.l (s.cs.map .iv))))]) (bx2':= [(68,⟨57,.r ((c.ts.filter (fun x=> !(x.n==s.name))).map Tab.c).flatten 0⟩),(11,⟨57,.l []⟩),(3,(Box.mk 80 (.l (s.cs.map .iv))))]) (tk2':= []) (res2:= .bsh 68 0 (c.ts.filter (fun x=> !(x.n==s.name))).length 2) U U U U U;have q6:=q4.sws [(1002,73),(1001,3),(1000,14)] (args2:= [.bsh 14 0 c.is.length 3,.fn 144 [.ptr 3 0]]) (bx2:= [(14,⟨67,.r (c.is.map Idx.c).flatten 0⟩),(3,(Box.mk 80 (.l (s.cs.map .iv))))]) (bx2':= [(73,⟨67,.r ((c.is.filter (fun x=> !(x.tb==s.name))).map Idx.c).flatten 0⟩),(14,⟨67,.l []⟩),(3,(Box.mk 80 (.l (s.cs.map .iv))))]) (tk2':= []) (res2:= .bsh 73 0 (c.is.filter (fun x=> !(x.tb==s.name))).length 3) U U U U U;(repeat' first|intro hb hp|refine ag rfl (aA U) ?_|refine ac [68] U hG q5 fS B2 U (bo2 hfT U) (bm2 U) U ?_|refine ac [73] U hG q6 fS B2 U (bo2 hfX U) (bm2 U) U ?_|refine am ?_|refine ak ?_ ?_|fail)
 all_goals(apply L.pubB 68 4 (es:=(c.ts.filter (fun x=> !(x.n==s.name))).map Tab.c) (k:=2);rfl;rfl;(intro e he;obtain⟨t,_,rfl⟩:=mM he;rfl);decide;exact(by simpa using hkT);exact lM _;rfl;exact cN _ _;rfl;exact .cons .here (.cons .same .nil))
 all_goals(apply L.pubB 73 4 (es:=(c.is.filter (fun x=> !(x.tb==s.name))).map Idx.c) (k:=3);rfl;rfl;(intro e he;obtain⟨t,_,rfl⟩:=mM he;rfl);decide;exact(by simpa using hkX);exact lM _;rfl;exact cN _ _;rfl;exact .cons .same (.cons .here .nil))
 all_goals refine bn ?_
 all_goals rfl
def Lg{i:Nat}{t:TypeId}{xs:List IV}{b:Box}(h:xs≠ [])(hb:b.cs.isEmpty=false):dW [] [(i,⟨t,.r xs 0⟩),(3,b)] [(i,⟨t,.l []⟩),(3,b)] =true:=by
 cases xs with
 |nil=>exact absurd U h
 |cons x l=>simp[dW,keys,hb]
def Lh{L:List Nat}{i:Nat}{t:TypeId}{b:Box}(hb:AV.mentsIn L b.cs=true):([(i,(⟨t,.l []⟩:Box)),(3,b)]:List (Nat×Box)).all (fun p=>AV.mentsIn L p.2.cs)=true:=by simp[AV.mentsIn,hb]
def Gy{gs:au}(s:Stm)(k1:(s.kind==1)=false)(k2:(s.kind==2)=false)(k3:(s.kind==3)=false):
 CallG gs prog 99 [.agg ((Cat.mk [] []).c.map .iv),.agg (s.cs.map .iv)] [] [] [] (.agg ((Cat.mk ([]:List Tab) ([]:List Idx)).c.map .iv)):=by
 refine iG func99 ntmps99 (fun w0 E0 hG=> ?_);(repeat' first|intro hb hp|(refine DR.is ?_;first|refine d_C wo ?_|refine d_C gH ?_)|refine am ?_|refine ak ?_ ?_|fail)
 all_goals refine bn ?_
 all_goals rfl
def Gx{gs:au}(s:Stm)(ts:List Tab)(ht:ts≠ [])(htl:ts.length≤4)(k1:(s.kind==1)=false)(k2:(s.kind==2)=false)(k3:(s.kind==3)=false):
 CallG gs prog 99 [.agg ((Cat.mk ts []).c.map .iv),.agg (s.cs.map .iv)] [] [] [] (.agg ((Cat.mk ts ([]:List Idx)).c.map .iv)):=by
 refine iG func99 ntmps99 (fun w0 E0 hG=> ?_);have hkT: ∀e∈ts.map Tab.c,e.length=2:=by intro e he;obtain⟨t,_,rfl⟩:=mM he;rfl
 have qT:=dK (ts.map Tab.c) hkT (by simpa using ht) (by rw[lM];simp[maxLen];omega) (by rw[lM];omega);rw[lM] at qT;have hfT:(ts.map Tab.c).flatten≠ []:=aD hkT dD (by simpa using ht);(repeat' first|intro hb hp|refine DR.is (d_C gH ?_)|refine am ?_|refine ak ?_ ?_|fail)
 all_goals(apply L.pubB 11 4 (es:=ts.map Tab.c) (k:=2);rfl;rfl;exact hkT;decide;exact(by simpa using ht);exact lM _;rfl;exact cN _ _;rfl;exact .cons .here (.cons .same .nil))
 all_goals refine bn ?_
 all_goals rfl
def GG{gs:au}(s:Stm)(k1:(s.kind==1)=true):
 CallG gs prog 99 [.agg ((Cat.mk [] []).c.map .iv),.agg (s.cs.map .iv)] [] [] [] (.agg ((Cat.mk [⟨s.name,s.cols⟩] ([]:List Idx)).c.map .iv)):=by
 refine iG func99 ntmps99 (fun w0 E0 hG=> ?_);(repeat' first|intro hb hp|apply ac [];rfl;exact hG;exact Lf s.name;exact .of_pub U;exact .nil;rfl;rfl;rfl;rfl|apply ac [];rfl;exact hG;exact(Bw [S s.name,.sl (s.cols.map Col.c)] U).toG;exact .cons fR (.cons fR (.cons (Sub.row _ _) .nil));exact .nil;rfl;rfl;rfl;rfl|(refine DR.is ?_;first|refine d_C wo ?_|refine d_C gH ?_)|refine am ?_|refine ak ?_ ?_|fail)
 all_goals refine bn ?_
 all_goals rfl
def GF{gs:au}(s:Stm)(ts:List Tab)(ht:ts≠ [])(htl:ts.length≤4)(hfl:Falls (fun x=>decide (x<s.name)) (ts.map Tab.n))(k1:(s.kind==1)=true):
 CallG gs prog 99 [.agg ((Cat.mk ts []).c.map .iv),.agg (s.cs.map .iv)] [] [] [] (.agg ((Cat.mk (ts.take (aW (ts.map Tab.n) s.name)++⟨s.name,s.cols⟩::ts.drop (aW (ts.map Tab.n) s.name):List Tab) ([]:List Idx)).c.map .iv)):=by
 refine iG func99 ntmps99 (fun w0 E0 hG=> ?_);have hkT: ∀e∈ts.map Tab.c,e.length=2:=by intro e he;obtain⟨t,_,rfl⟩:=mM he;rfl
 have qT:=dK (ts.map Tab.c) hkT (by simpa using ht) (by rw[lM];simp[maxLen];omega) (by rw[lM];omega);rw[lM] at qT;have hfT:(ts.map Tab.c).flatten≠ []:=aD hkT dD (by simpa using ht);have hle:aW (ts.map Tab.n) s.name≤ts.length:=by have:=jd (fun x=>decide (x<s.name)) (ts.map Tab.n);rwa [lM] at this
 have uT:=tu (ts.map Tab.c) [S s.name,.sl (s.cols.map Col.c)] (aW (ts.map Tab.n) s.name) hkT U (by simpa using ht) (by rw[lM];exact hle) (by rw[lM];simp[maxLen];omega) (by rw[lM];omega);rw[lM] at uT;have hE:(ts.map Tab.c).take (aW (ts.map Tab.n) s.name)++ [S s.name,.sl (s.cols.map Col.c)]::(ts.map Tab.c).drop (aW (ts.map Tab.n) s.name)=(ts.take (aW (ts.map Tab.n) s.name)++⟨s.name,s.cols⟩::ts.drop (aW (ts.map Tab.n) s.name):List Tab).map Tab.c:=by simp[List.map_take,List.map_drop,Tab.c]
 rw[hE] at uT;have hkn: ∀e∈(ts.take (aW (ts.map Tab.n) s.name)++⟨s.name,s.cols⟩::ts.drop (aW (ts.map Tab.n) s.name):List Tab).map Tab.c,e.length=2:=by intro e he;obtain⟨t,_,rfl⟩:=mM he;rfl
 have hnl:((ts.take (aW (ts.map Tab.n) s.name)++⟨s.name,s.cols⟩::ts.drop (aW (ts.map Tab.n) s.name):List Tab).map Tab.c).length=ts.length+1:=by simp;omega
 have zT:=(Fj (gs:=gs) ts s.name ht C hfl).sws [(1000,11)] (args2:= [.bsh 11 0 ts.length 2,aS s.name,.fn 135 []]) (bx2:= [(11,⟨57,.r (ts.map Tab.c).flatten 0⟩)]) (bx2':= [(11,⟨57,.r (ts.map Tab.c).flatten 0⟩)]) (tk2':= []) (res2:= .tup [aI (aW (ts.map Tab.n) s.name:Int),aB (bN (ts.map Tab.n) s.name)]) U U U U U;(repeat' first|intro hb hp|apply ac [];rfl;exact hG;exact zT;exact fS;exact B1;rfl;exact bo1 hfT;exact bm1;rfl|(refine LW.is ?_;first|apply og (es:= [[S s.name,.sl (s.cols.map Col.c)]]);rfl;rfl;rfl;rfl;rfl;rfl;rfl;rfl;rfl|apply oe;rfl;exact uT;rfl;rfl;rfl;exact hfT;exact cN _ _;rfl;rfl;rfl)|refine DR.is (d_C gH ?_)|refine am ?_|refine ak ?_ ?_|fail)
 all_goals(apply L.pubB 38 4 (es:=(ts.take (aW (ts.map Tab.n) s.name)++⟨s.name,s.cols⟩::ts.drop (aW (ts.map Tab.n) s.name):List Tab).map Tab.c) (k:=2);rfl;rfl;exact hkn;decide;exact sP;exact hnl;rfl;exact cN _ _;rfl;exact .cons .here (.cons .same .nil))
 all_goals refine bn ?_
 all_goals rfl
def Gz{gs:au}(s:Stm)(ts:List Tab)(ht:ts≠ [])(htl:ts.length≤4)(k1:(s.kind==1)=false)(k2:(s.kind==2)=true):
 CallG gs prog 99 [.agg ((Cat.mk ts []).c.map .iv),.agg (s.cs.map .iv)] [] [] [] (.agg ((Cat.mk ts [⟨s.name,s.table,s.col⟩]).c.map .iv)):=by
 refine iG func99 ntmps99 (fun w0 E0 hG=> ?_);have hkT: ∀e∈ts.map Tab.c,e.length=2:=by intro e he;obtain⟨t,_,rfl⟩:=mM he;rfl
 have qT:=dK (ts.map Tab.c) hkT (by simpa using ht) (by rw[lM];simp[maxLen];omega) (by rw[lM];omega);rw[lM] at qT;have hfT:(ts.map Tab.c).flatten≠ []:=aD hkT dD (by simpa using ht);(repeat' first|intro hb hp|apply ac [];rfl;exact hG;exact Ld s.name;exact .of_pub U;exact .nil;rfl;rfl;rfl;rfl|apply ac [];rfl;exact hG;exact(Bu [S s.name,S s.table,S s.col] U).toG;exact .cons fR (.cons fR (.cons (Sub.row _ _) .nil));exact .nil;rfl;rfl;rfl;rfl|refine DR.is (d_C gH ?_)|refine am ?_|refine ak ?_ ?_|fail)
 all_goals(apply L.pubB 11 4 (es:=ts.map Tab.c) (k:=2);rfl;rfl;exact hkT;decide;exact(by simpa using ht);exact lM _;rfl;exact cN _ _;rfl;exact .cons .here (.cons .same .nil))
 all_goals refine bn ?_
 all_goals rfl
def GD{gs:au}(s:Stm)(ts:List Tab)(ht:ts≠ [])(htl:ts.length≤4)(hkT0:ts.filter (fun x=> !(x.n==s.name))≠ [])(k1:(s.kind==1)=false)(k2:(s.kind==2)=false)(k3:(s.kind==3)=true):
 CallG gs prog 99 [.agg ((Cat.mk ts []).c.map .iv),.agg (s.cs.map .iv)] [] [] [] (.agg ((Cat.mk (ts.filter (fun x=> !(x.n==s.name))) ([]:List Idx)).c.map .iv)):=by
 refine iG func99 ntmps99 (fun w0 E0 hG=> ?_);have hkT: ∀e∈ts.map Tab.c,e.length=2:=by intro e he;obtain⟨t,_,rfl⟩:=mM he;rfl
 have qT:=dK (ts.map Tab.c) hkT (by simpa using ht) (by rw[lM];simp[maxLen];omega) (by rw[lM];omega);rw[lM] at qT;have hfT:(ts.map Tab.c).flatten≠ []:=aD hkT dD (by simpa using ht);have rT:=wi (gs:=gs) (f:=142) (s:=s) (fun t=>t.n==s.name) ts ht C U (Bz hfT U) (fun y _=>((mt s y.n (.sl (y.cols.map Col.c))).toG (gs:=gs)).sws [(1000,1001)] U U U U U) hkT0;have sT:=rT.sws [(1002,68),(1001,3),(1000,11)] (args2:= [.bsh 11 0 ts.length 2,.fn 142 [.ptr 3 0]]) (bx2:= [(11,⟨57,.r (ts.map Tab.c).flatten 0⟩),(3,(Box.mk 80 (.l (s.cs.map .iv))))]) (bx2':= [(68,⟨57,.r ((ts.filter (fun x=> !(x.n==s.name))).map Tab.c).flatten 0⟩),(11,⟨57,.l []⟩),(3,(Box.mk 80 (.l (s.cs.map .iv))))]) (tk2':= []) (res2:= .bsh 68 0 (ts.filter (fun x=> !(x.n==s.name))).length 2) U U U U U;have sX:=(Fh (gs:=gs) (f:=144) (s:=s)).sws [(1001,3)] (args2:= [.iv (.sl []),.fn 144 [.ptr 3 0]]) (bx2:= [(3,(Box.mk 80 (.l (s.cs.map .iv))))]) (bx2':= [(3,(Box.mk 80 (.l (s.cs.map .iv))))]) (tk2':= []) (res2:= .iv (.sl [])) U U U U U;(repeat' first|intro hb hp|apply ac [68];rfl;exact hG;exact sT;exact fS;exact B2;rfl;exact bo2 hfT U;exact bm2 U;rfl|apply ac [];rfl;exact hG;exact sX;exact .of_pub U;exact B1;rfl;rfl;rfl;rfl|apply ag;rfl;apply aA;rfl|refine DR.is (d_C gH ?_)|refine am ?_|refine ak ?_ ?_|fail)
 all_goals(apply L.pubB 68 4 (es:=(ts.filter (fun x=> !(x.n==s.name))).map Tab.c) (k:=2);rfl;rfl;exact(by intro e he;obtain⟨t,_,rfl⟩:=mM he;rfl);decide;exact(by simpa using hkT0);exact lM _;rfl;exact cN _ _;rfl;exact .cons .here (.cons .same .nil))
 all_goals refine bn ?_
 all_goals rfl
def GC{gs:au}(s:Stm)(ts:List Tab)(ht:ts≠ [])(htl:ts.length≤4)(hkT0:ts.filter (fun x=> !(x.n==s.name))≠ [])(is:List Idx)(hi:is≠ [])(hil:is.length≤4)(hnX0:is.filter (fun x=> !(x.tb==s.name))= [])(iX:Nat)(xX:Idx)(hbX: ∀y∈is.take iX,(fun x=>x.tb==s.name) y=false)(hxX:is[iX]?=some xX)(hpX:(fun x=>x.tb==s.name) xX=true)(k1:(s.kind==1)=false)(k2:(s.kind==2)=false)(k3:(s.kind==3)=true):
 CallG gs prog 99 [.agg ((Cat.mk ts is).c.map .iv),.agg (s.cs.map .iv)] [] [] [] (.agg ((Cat.mk (ts.filter (fun x=> !(x.n==s.name))) []).c.map .iv)):=by
 refine iG func99 ntmps99 (fun w0 E0 hG=> ?_);have hkT: ∀e∈ts.map Tab.c,e.length=2:=by intro e he;obtain⟨t,_,rfl⟩:=mM he;rfl
 have qT:=dK (ts.map Tab.c) hkT (by simpa using ht) (by rw[lM];simp[maxLen];omega) (by rw[lM];omega);rw[lM] at qT;have hfT:(ts.map Tab.c).flatten≠ []:=aD hkT dD (by simpa using ht);have rT:=wi (gs:=gs) (f:=142) (s:=s) (fun t=>t.n==s.name) ts ht C U (Bz hfT U) (fun y _=>((mt s y.n (.sl (y.cols.map Col.c))).toG (gs:=gs)).sws [(1000,1001)] U U U U U) hkT0;have sT:=rT.sws [(1002,68),(1001,3),(1000,11)] (args2:= [.bsh 11 0 ts.length 2,.fn 142 [.ptr 3 0]]) (bx2:= [(11,⟨57,.r (ts.map Tab.c).flatten 0⟩),(3,(Box.mk 80 (.l (s.cs.map .iv))))]) (bx2':= [(68,⟨57,.r ((ts.filter (fun x=> !(x.n==s.name))).map Tab.c).flatten 0⟩),(11,⟨57,.l []⟩),(3,(Box.mk 80 (.l (s.cs.map .iv))))]) (tk2':= []) (res2:= .bsh 68 0 (ts.filter (fun x=> !(x.n==s.name))).length 2) U U U U U;have hkX: ∀e∈is.map Idx.c,e.length=3:=by intro e he;obtain⟨t,_,rfl⟩:=mM he;rfl
 have qX:=jh (is.map Idx.c) hkX (by simpa using hi) (by rw[lM];simp[maxLen];omega) (by rw[lM];omega);rw[lM] at qX;have hfX:(is.map Idx.c).flatten≠ []:=aD hkX dD (by simpa using hi);have rX:=BS (gs:=gs) (f:=144) (s:=s) (fun x=>x.tb==s.name) is hi C U (Bz hfX U) (fun y _=>((rH s y.n y.tb (S y.co)).toG (gs:=gs)).sws [(1000,1001)] U U U U U) hnX0 iX xX hbX hxX hpX;have sX:=rX.sws [(1001,3),(1000,14)] (args2:= [.bsh 14 0 is.length 3,.fn 144 [.ptr 3 0]]) (bx2:= [(14,⟨67,.r (is.map Idx.c).flatten 0⟩),(3,(Box.mk 80 (.l (s.cs.map .iv))))]) (bx2':= [(14,⟨67,.l []⟩),(3,(Box.mk 80 (.l (s.cs.map .iv))))]) (tk2':= []) (res2:= .iv (.sl [])) U U U U U;(repeat' first|intro hb hp|apply ac [68];rfl;exact hG;exact sT;exact fS;exact B2;rfl;exact bo2 hfT U;exact bm2 U;rfl|apply ac [];rfl;exact hG;exact sX;exact fS;exact B2;rfl;exact Lg hfX U;exact Lh U;rfl|apply ag;rfl;apply aA;rfl|refine am ?_|refine ak ?_ ?_|fail)
 all_goals(apply L.pubB 68 4 (es:=(ts.filter (fun x=> !(x.n==s.name))).map Tab.c) (k:=2);rfl;rfl;exact(by intro e he;obtain⟨t,_,rfl⟩:=mM he;rfl);decide;exact(by simpa using hkT0);exact lM _;rfl;exact cN _ _;rfl;exact .cons .here (.cons .same .nil))
 all_goals refine bn ?_
 all_goals rfl
def GB{gs:au}(s:Stm)(ts:List Tab)(ht:ts≠ [])(htl:ts.length≤4)(hnT0:ts.filter (fun x=> !(x.n==s.name))= [])(iT:Nat)(xT:Tab)(hbT: ∀y∈ts.take iT,(fun t=>t.n==s.name) y=false)(hxT:ts[iT]?=some xT)(hpT:(fun t=>t.n==s.name) xT=true)(k1:(s.kind==1)=false)(k2:(s.kind==2)=false)(k3:(s.kind==3)=true):
 CallG gs prog 99 [.agg ((Cat.mk ts []).c.map .iv),.agg (s.cs.map .iv)] [] [] [] (.agg ((Cat.mk [] ([]:List Idx)).c.map .iv)):=by
 refine iG func99 ntmps99 (fun w0 E0 hG=> ?_);have hkT: ∀e∈ts.map Tab.c,e.length=2:=by intro e he;obtain⟨t,_,rfl⟩:=mM he;rfl
 have qT:=dK (ts.map Tab.c) hkT (by simpa using ht) (by rw[lM];simp[maxLen];omega) (by rw[lM];omega);rw[lM] at qT;have hfT:(ts.map Tab.c).flatten≠ []:=aD hkT dD (by simpa using ht);have rT:=BT (gs:=gs) (f:=142) (s:=s) (fun t=>t.n==s.name) ts ht C U (Bz hfT U) (fun y _=>((mt s y.n (.sl (y.cols.map Col.c))).toG (gs:=gs)).sws [(1000,1001)] U U U U U) hnT0 iT xT hbT hxT hpT;have sT:=rT.sws [(1001,3),(1000,11)] (args2:= [.bsh 11 0 ts.length 2,.fn 142 [.ptr 3 0]]) (bx2:= [(11,⟨57,.r (ts.map Tab.c).flatten 0⟩),(3,(Box.mk 80 (.l (s.cs.map .iv))))]) (bx2':= [(11,⟨57,.l []⟩),(3,(Box.mk 80 (.l (s.cs.map .iv))))]) (tk2':= []) (res2:= .iv (.sl [])) U U U U U;have sX:=(Fh (gs:=gs) (f:=144) (s:=s)).sws [(1001,3)] (args2:= [.iv (.sl []),.fn 144 [.ptr 3 0]]) (bx2:= [(3,(Box.mk 80 (.l (s.cs.map .iv))))]) (bx2':= [(3,(Box.mk 80 (.l (s.cs.map .iv))))]) (tk2':= []) (res2:= .iv (.sl [])) U U U U U;(repeat' first|intro hb hp|apply ac [];rfl;exact hG;exact sT;exact fS;exact B2;rfl;exact Lg hfT U;exact Lh U;rfl|apply ac [];rfl;exact hG;exact sX;exact .of_pub U;exact B1;rfl;rfl;rfl;rfl|apply ag;rfl;apply aA;rfl|refine DR.is (d_C gH ?_)|refine am ?_|refine ak ?_ ?_|fail)
 all_goals refine bn ?_
 all_goals rfl
def GA{gs:au}(s:Stm)(ts:List Tab)(ht:ts≠ [])(htl:ts.length≤4)(hnT0:ts.filter (fun x=> !(x.n==s.name))= [])(iT:Nat)(xT:Tab)(hbT: ∀y∈ts.take iT,(fun t=>t.n==s.name) y=false)(hxT:ts[iT]?=some xT)(hpT:(fun t=>t.n==s.name) xT=true)(is:List Idx)(hi:is≠ [])(hil:is.length≤4)(hnX0:is.filter (fun x=> !(x.tb==s.name))= [])(iX:Nat)(xX:Idx)(hbX: ∀y∈is.take iX,(fun x=>x.tb==s.name) y=false)(hxX:is[iX]?=some xX)(hpX:(fun x=>x.tb==s.name) xX=true)(k1:(s.kind==1)=false)(k2:(s.kind==2)=false)(k3:(s.kind==3)=true):
 CallG gs prog 99 [.agg ((Cat.mk ts is).c.map .iv),.agg (s.cs.map .iv)] [] [] [] (.agg ((Cat.mk [] []).c.map .iv)):=by
 refine iG func99 ntmps99 (fun w0 E0 hG=> ?_);have hkT: ∀e∈ts.map Tab.c,e.length=2:=by intro e he;obtain⟨t,_,rfl⟩:=mM he;rfl
 have qT:=dK (ts.map Tab.c) hkT (by simpa using ht) (by rw[lM];simp[maxLen];omega) (by rw[lM];omega);rw[lM] at qT;have hfT:(ts.map Tab.c).flatten≠ []:=aD hkT dD (by simpa using ht);have rT:=BT (gs:=gs) (f:=142) (s:=s) (fun t=>t.n==s.name) ts ht C U (Bz hfT U) (fun y _=>((mt s y.n (.sl (y.cols.map Col.c))).toG (gs:=gs)).sws [(1000,1001)] U U U U U) hnT0 iT xT hbT hxT hpT;have sT:=rT.sws [(1001,3),(1000,11)] (args2:= [.bsh 11 0 ts.length 2,.fn 142 [.ptr 3 0]]) (bx2:= [(11,⟨57,.r (ts.map Tab.c).flatten 0⟩),(3,(Box.mk 80 (.l (s.cs.map .iv))))]) (bx2':= [(11,⟨57,.l []⟩),(3,(Box.mk 80 (.l (s.cs.map .iv))))]) (tk2':= []) (res2:= .iv (.sl [])) U U U U U;have hkX: ∀e∈is.map Idx.c,e.length=3:=by intro e he;obtain⟨t,_,rfl⟩:=mM he;rfl
 have qX:=jh (is.map Idx.c) hkX (by simpa using hi) (by rw[lM];simp[maxLen];omega) (by rw[lM];omega);rw[lM] at qX;have hfX:(is.map Idx.c).flatten≠ []:=aD hkX dD (by simpa using hi);have rX:=BS (gs:=gs) (f:=144) (s:=s) (fun x=>x.tb==s.name) is hi C U (Bz hfX U) (fun y _=>((rH s y.n y.tb (S y.co)).toG (gs:=gs)).sws [(1000,1001)] U U U U U) hnX0 iX xX hbX hxX hpX;have sX:=rX.sws [(1001,3),(1000,14)] (args2:= [.bsh 14 0 is.length 3,.fn 144 [.ptr 3 0]]) (bx2:= [(14,⟨67,.r (is.map Idx.c).flatten 0⟩),(3,(Box.mk 80 (.l (s.cs.map .iv))))]) (bx2':= [(14,⟨67,.l []⟩),(3,(Box.mk 80 (.l (s.cs.map .iv))))]) (tk2':= []) (res2:= .iv (.sl [])) U U U U U;(repeat' first|intro hb hp|apply ac [];rfl;exact hG;exact sT;exact fS;exact B2;rfl;exact Lg hfT U;exact Lh U;rfl|apply ac [];rfl;exact hG;exact sX;exact fS;exact B2;rfl;exact Lg hfX U;exact Lh U;rfl|apply ag;rfl;apply aA;rfl|refine am ?_|refine ak ?_ ?_|fail)
 all_goals refine bn ?_
 all_goals rfl
end Go.Proofs.Y
