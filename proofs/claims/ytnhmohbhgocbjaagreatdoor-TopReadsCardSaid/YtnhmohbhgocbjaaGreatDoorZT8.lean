/- Lemmas towards the law. Conditions: each one says its own. -/
import Derived.Test.YtnhmohbhgocbjaaGreatDoorZT7
set_option linter.all false
set_option maxHeartbeats 64000000
set_option maxRecDepth 100000
namespace Go.Proofs.Y
open Go.Abs Go.Proofs.Tryz
attribute [local irreducible] L Code.wp bodyPost Exit.then Exit.inBlock
def aU(t:Tab)(name:Str):Int:=iB (fun c:Col=>c.n==name) t.cols
def ab(c:Cat)(name:Str):Tab×Bool:=match c.ts.find? (fun t=>t.n==name) with|some t=>(t,true)|none=>(⟨[],[]⟩,false)
def zQ{gs:au}(x:Col)(name:Str)(q:Nat):
 CallG gs prog 65 [.agg (x.c.map .iv),.ptr q 0] [(q,⟨9,.l [aS name]⟩)] [(q,⟨9,.l [aS name]⟩)] [] (aB (x.n==name)):=by
 have h:CallG gs prog 65 [.agg (x.c.map .iv),.ptr 1000 0] [(1000,⟨9,.l [aS name]⟩)] [(1000,⟨9,.l [aS name]⟩)] [] (aB (x.n==name)):=by
  refine iG func65 ntmps65 (fun w0 E0 hG=> ?_);refine wz ?_;all_goals exact L.ends U U fR wK
 exact h.at1 U U U U
def eJ(t:Tab)(name:Str)(hl:t.cols.length≤140737488355328):
 CallA prog 38 [.agg (t.c.map .iv),aS name] [] [] [] (aI (aU t name)):=by
 refine CallG.toA ?_;have k:=ss (gs:= []) (f:=65) (caps:= [.ptr 3 0]) (bxi:= [(3,⟨9,.l [aS name]⟩)]) (fun c:Col=>c.n==name) t.cols hl (fun y _=>zQ y name 3) B1 U;refine iG func38 ntmps38 (fun w0 E0 hG=> ?_);(repeat' first|intro hb hp|refine ag rfl (aA U) ?_|refine LW.is (kJ (q:=3) U hG k U U U U U ?_)|refine am ?_|refine ak ?_ ?_|fail)
 all_goals refine bn ?_
 all_goals rfl
def gj(c:Cat)(name:Str)(hl:c.ts.length≤140737488355328):
 CallA prog 53 [.agg (c.c.map .iv),aS name] [] [] [] (.tup [.agg ((ab c name).1.c.map .iv),.iv (B (ab c name).2)]):=by
 refine iA func53 ntmps53 (fun w0 E0=> ?_);refine wz ?_;refine ae (ι:=Nat) (fun i=>⟨[(11,aI (i:Int)),(10,aI ((c.ts.map Tab.c).length:Int)),(9,.iv (.sl (c.ts.map Tab.c))),(1,aS name),(4,.ptr 4 0)],[(4,⟨57,.l [.iv (S []),.nils]⟩)],[]⟩) (fun i=>c.ts.length - i) (fun i=>c.ts.find? (fun t=>t.n==name)=(c.ts.drop i).find? (fun t=>t.n==name)) (i0:=0) ?_ U ?_
 · exact df
 intro i hI K hK;cases hx:c.ts[i]? with
 |none=>
  have hlt:=fa (l:=c.ts.map Tab.c) (bf hx);rw[oN hx] at hI;have e:ab c name=(⟨[],[]⟩,false):=by rw[ab,hI];rfl
  rw[e];refine wz ?_;all_goals refine bn ?_
  all_goals rfl
 |some t=>
  have hlt:=eZ (l:=c.ts.map Tab.c) (cq (f:=Tab.c) hx);have hlt':=eP hx;have g1:(c.ts.map Tab.c)[((i:Nat):Int).toNat]?=some [S t.n,.sl (t.cols.map Col.c)]:=by rw[iN,gP,hx];rfl
  rw[eS hx,List.find?_cons] at hI;cases hq:(t.n==name) with
  |true=>
   have e:ab c name=(t,true):=by rw[ab,hI,hq]
   rw[e];refine wz ?_;all_goals refine bn ?_
   all_goals rfl
  |false=>
   rw[hq] at hI;refine wz ?_;refine hK _ (i+1) hI C ?_;exact df
def tJ(t:Tab)(i:Nat)(c:Col):Bool:= !((!bG c.n||((c.t !=1) && (c.t !=2)))||(aU t c.n !=(i:Int)))
def DP(t:Tab):Bool:=t.cols.zipIdx.all (fun p=>tJ t p.2 p.1)
def cw(t:Tab):Bool:=DP t && (bG t.n && (decide (1≤t.cols.length) && (decide (t.cols.length≤4) && (t.cols.headD ⟨[],0,false⟩).m)))
structure Tab.Ok (t:Tab):Prop where
 n:t.n.length≤140737488355328
 l:t.cols.length≤140737488355328
 c: ∀c∈t.cols,c.n.length≤140737488355328
def pR(t:Tab)(hok:t.Ok):CallG tV prog 52 [.agg (t.c.map .iv)] [] [] [] (aB (cw t)):=by
 have kn:=je t.n hok.n;obtain⟨hn,hl,hcn⟩:=hok;refine iG func52 ntmps52 (fun w0 E0 hG=> ?_);refine wz ?_;refine ae (ι:=Nat) (fun i=>⟨[(8,aI (i:Int)),(7,aI ((t.cols.map Col.c).length:Int)),(6,.iv (.sl (t.cols.map Col.c))),(1,.ptr 1 0)],[(1,⟨57,.l [aS t.n,.iv (.sl (t.cols.map Col.c))]⟩)],[]⟩) (fun i=>t.cols.length - i) (fun i=>DP t=((t.cols.drop i).zipIdx i).all (fun p=>tJ t p.2 p.1)) (i0:=0) ?_ U ?_
 · exact df
 intro i hI K hK;cases hx:t.cols[i]? with
 |none=>
  have hlt:=fa (l:=t.cols.map Col.c) (bf hx);rw[oN hx] at hI;have hI:DP t=true:=hI;have el:((t.cols.map Col.c).length:Int)=(t.cols.length:Int):=by simp
  cases h0:bG t.n with
  |false=>
   rw[h0] at kn;refine wz ?_;all_goals refine bn ?_
   simp[cw,h0]
  |true=>
   rw[h0] at kn;cases h1:decide ((1:Int)≤((t.cols.map Col.c).length:Int)) with
   |false=>
    refine wz ?_;all_goals refine bn ?_
    have:decide (1≤t.cols.length)=false:=dF h1 (fun h=>by omega);simp[cw,this]
   |true=>
    have e1:decide (1≤t.cols.length)=true:=dT h1 (fun h=>by omega);cases h2:decide (((t.cols.map Col.c).length:Int)≤4) with
    |false=>
     refine wz ?_;all_goals refine bn ?_
     have:decide (t.cols.length≤4)=false:=dF h2 (fun h=>by omega);simp[cw,this]
    |true=>
     have e2:decide (t.cols.length≤4)=true:=dT h2 (fun h=>by omega);obtain⟨c0,hc0⟩: ∃c0,t.cols[0]?=some c0:=⟨_,gG (by have:=of_decide_eq_true e1;omega)⟩
     have g0:(t.cols.map Col.c)[(0:Int).toNat]?=some [S c0.n,I c0.t,.im (.bool c0.m)]:=by rw[show(0:Int).toNat=0 from rfl,gP,hc0];rfl
     refine wz ?_;all_goals refine bn ?_
     have e3:t.cols.headD ⟨[],0,false⟩=c0:=by
      cases hcs:t.cols with
      |nil=>rw[hcs] at hc0;simp at hc0
      |cons a l=>rw[hcs] at hc0;simp at hc0;subst hc0;rfl
     rw[cw,hI,h0,e1,e2,e3];rfl
 |some y=>
  have hlt:=eZ (l:=t.cols.map Col.c) (cq (f:=Col.c) hx);have hlt':=eP hx;have g1:(t.cols.map Col.c)[((i:Nat):Int).toNat]?=some [S y.n,I y.t,.im (.bool y.m)]:=by rw[iN,gP,hx];rfl
  have ky:=je y.n (hcn y (gE hx));have kf:=eJ t y.n hl;rw[eS hx,List.zipIdx_cons,List.all_cons] at hI;(repeat' first|intro hb hp|refine am ?_|refine ak ?_ ?_|fail)
  all_goals try refine bn ?_
  all_goals try (simp[cw,hI,tJ, *];done)
  all_goals(refine hK _ (i+1) ?_ C ?_)
  all_goals try exact df
  all_goals(rw[hI];have hc:tJ t i y=true:=(by clear hI;simp[tJ, *]);simp only[hc,Bool.true_and])
structure Cat.Ok (c:Cat):Prop where
 t:c.ts.length≤140737488355328
 i:c.is.length≤140737488355328
 ts: ∀t∈c.ts,t.Ok
 is: ∀x∈c.is,x.n.length≤140737488355328
def qJ(c:Cat)(i:Nat)(t:Tab):Bool:= !(!cw t||(decide ((0:Int)<(i:Int)) && !(Op.bytesLess (c.ts.getD (i - 1) ⟨[],[]⟩).n t.n)))
def yY(c:Cat):Bool:=c.ts.zipIdx.all (fun p=>qJ c p.2 p.1)
def tv(c:Cat)(i:Nat)(x:Idx):Bool:= !(((!bG x.n|| !(ab c x.tb).2)||decide (aU (ab c x.tb).1 x.co<0))||(decide ((0:Int)<(i:Int)) && !(Op.bytesLess (c.is.getD (i - 1) ⟨[],[],[]⟩).n x.n)))
def zF(c:Cat):Bool:=c.is.zipIdx.all (fun p=>tv c p.2 p.1)
def dJ(c:Cat):Bool:=yY c && (zF c && (decide ((c.ts.length:Int)≤3) && decide ((c.is.length:Int)≤4)))
def cV{α:Type}{l:List α}{i:Nat}(d:α)(h:i<l.length):l[i]?=some (l.getD i d):=by
 rw[List.getD_eq_getElem?_getD,gG h];rfl
def IH{c:Cat}(h:c.Ok)(name:Str):(ab c name).1.Ok:=by
 unfold ab;cases hf:c.ts.find? (fun t=>t.n==name) with
 |none=>exact⟨by decide,by decide,by simp⟩
 |some t=>exact h.ts t (List.mem_of_find?_eq_some hf)
def tw(c:Cat)(hok:c.Ok):CallG tV prog 25 [.agg (c.c.map .iv)] [] [] [] (aB (dJ c)):=by
 have hok':=hok;obtain⟨ht,hi,hts,his⟩:=hok;refine iG func25 ntmps25 (fun w0 E0 hG=> ?_);refine wz ?_;refine ae (ι:=Nat) (fun i=>⟨[(12,aI (i:Int)),(11,aI ((c.ts.map Tab.c).length:Int)),(10,.iv (.sl (c.ts.map Tab.c))),(1,.ptr 1 0)],[(1,⟨47,.l [.iv (.sl (c.ts.map Tab.c)),.iv (.sl (c.is.map Idx.c))]⟩)],[]⟩) (fun i=>c.ts.length - i) (fun i=>yY c=((c.ts.drop i).zipIdx i).all (fun p=>qJ c p.2 p.1)) (i0:=0) ?_ U ?_
 · exact df
 intro i hI K hK;cases hx:c.ts[i]? with
 |some y=>
  have hlt:=eZ (l:=c.ts.map Tab.c) (cq (f:=Tab.c) hx);have hlt':=eP hx;have g1:(c.ts.map Tab.c)[((i:Nat):Int).toNat]?=some [S y.n,.sl (y.cols.map Col.c)]:=by rw[iN,gP,hx];rfl
  have g2:0<i→(c.ts.map Tab.c)[((i:Int) - 1).toNat]?=some [S (c.ts.getD (i - 1) ⟨[],[]⟩).n,.sl ((c.ts.getD (i - 1) ⟨[],[]⟩).cols.map Col.c)]:=fun h=>by
   rw[show((i:Int) - 1).toNat=i - 1 by omega,gP,cV ⟨[],[]⟩ (show i - 1<c.ts.length by omega)];rfl
  have ky:=pR y (hts y (gE hx));rw[eS hx,List.zipIdx_cons,List.all_cons] at hI;generalize hprev:c.ts.getD (i - 1) ⟨[],[]⟩=prev at g2;(repeat' first|intro hb hp|refine DR.is (bk U (cd U U C (g2 C) U) ?_)|refine am ?_|refine ak ?_ ?_|fail)
  all_goals try refine bn ?_
  all_goals try (have hc:qJ c i y=false:=(by clear hI;rw[qJ,hprev];clear hprev;simp only[*,bb]);rw[dJ,hI,hc];rfl)
  all_goals(refine hK _ (i+1) ?_ C ?_)
  all_goals try exact df
  all_goals(rw[hI];have hc:qJ c i y=true:=(by clear hI;rw[qJ,hprev];clear hprev;simp only[*,bb]);simp only[hc,Bool.true_and])
 |none=>
  have hlt:=fa (l:=c.ts.map Tab.c) (bf hx);rw[oN hx] at hI;have hT:yY c=true:=hI;clear hI hK;refine wz ?_;refine ae (ι:=Nat) (fun i=>⟨[(40,aI (i:Int)),(39,aI ((c.is.map Idx.c).length:Int)),(38,.iv (.sl (c.is.map Idx.c))),(1,.ptr 1 0)],[(1,⟨47,.l [.iv (.sl (c.ts.map Tab.c)),.iv (.sl (c.is.map Idx.c))]⟩)],[]⟩) (fun i=>c.is.length - i) (fun i=>zF c=((c.is.drop i).zipIdx i).all (fun p=>tv c p.2 p.1)) (i0:=0) ?_ U ?_
  · exact df
  clear hx hlt;intro i hI K hK;cases hx:c.is[i]? with
  |some y=>
   have hlt:=eZ (l:=c.is.map Idx.c) (cq (f:=Idx.c) hx);have hlt':=eP hx;have g1:(c.is.map Idx.c)[((i:Nat):Int).toNat]?=some [S y.n,S y.tb,S y.co]:=by rw[iN,gP,hx];rfl
   have g2:0<i→(c.is.map Idx.c)[((i:Int) - 1).toNat]?=some [S (c.is.getD (i - 1) ⟨[],[],[]⟩).n,S (c.is.getD (i - 1) ⟨[],[],[]⟩).tb,S (c.is.getD (i - 1) ⟨[],[],[]⟩).co]:=fun h=>by
    rw[show((i:Int) - 1).toNat=i - 1 by omega,gP,cV ⟨[],[],[]⟩ (show i - 1<c.is.length by omega)];rfl
   have ky:=je y.n (his y (gE hx));have kf:=gj c y.tb ht;have hfo:=IH hok' y.tb;rw[eS hx,List.zipIdx_cons,List.all_cons] at hI;generalize hprev:c.is.getD (i - 1) ⟨[],[],[]⟩=prev at g2;generalize hft:ab c y.tb=ft at kf hfo;obtain⟨tt,is⟩:=ft;have kc:=eJ tt y.co hfo.l;(repeat' first|intro hb hp|refine DR.is (bk U (cd U U C (g2 C) U) ?_)|refine am ?_|refine ak ?_ ?_|fail)
   all_goals try refine bn ?_
   all_goals try (have hc:tv c i y=false:=(by clear hI;rw[tv,hprev,hft];clear hprev hft;simp only[*,bb]);rw[dJ,hT,hI,hc];rfl)
   all_goals(refine hK _ (i+1) ?_ C ?_)
   all_goals try exact df
   all_goals(rw[hI];have hc:tv c i y=true:=(by clear hI;rw[tv,hprev,hft];clear hprev hft;simp only[*,bb]);simp only[hc,Bool.true_and])
  |none=>
   have hlt:=fa (l:=c.is.map Idx.c) (bf hx);rw[oN hx] at hI;have hU:zF c=true:=hI;clear hI hK;have l1:((c.ts.map Tab.c).length:Int)=(c.ts.length:Int):=by simp
   have l2:((c.is.map Idx.c).length:Int)=(c.is.length:Int):=by simp
   cases h3:decide (((c.ts.map Tab.c).length:Int)≤3) with
   |false=>
    refine wz ?_;all_goals refine bn ?_
    rw[dJ,hT,hU,←l1,h3];rfl
   |true=>
    refine wz ?_;all_goals refine bn ?_
    rw[dJ,hT,hU,←l1,←l2,h3];rfl
def Ex.cs(e:Ex):List IV:= [I e.op,I e.v.k,I e.v.n,S e.v.s,S e.s,S e.name,I e.n,.sl (e.l.map Ex.c)]
def aN(e:Ex):e.c=e.cs:=by cases e;exact Ex.c_eq _ _ _ _ _ _
def nilE:Ex:= .mk 0 ⟨0,0,[]⟩ [] [] 0 []
structure Ast where
 co:Str
 e:Ex
def Ast.c(x:Ast):List IV:=S x.co::x.e.cs
def no(n:Int):List IV:= [I n]
structure Stm where
 kind:Int
 name:Str
 table:Str
 col:Str
 cols:List Col
 rows:List (List Ex)
 sets:List Ast
 frm:List Str
 out:List Ex
 wh:Ex
 ord:List Ex
 down:Bool
 n:Int
def bg(r:List Ex):List IV:= [.sl (r.map Ex.c)]
def Stm.cs(s:Stm):List IV:= [I s.kind,S s.name,S s.table,S s.col,.sl (s.cols.map Col.c),.sl (s.rows.map bg),.sl (s.sets.map Ast.c),.sl (s.frm.map Str.c),.sl (s.out.map Ex.c),
 I s.wh.op,I s.wh.v.k,I s.wh.v.n,S s.wh.v.s,S s.wh.s,S s.wh.name,I s.wh.n,.sl (s.wh.l.map Ex.c),.sl (s.ord.map Ex.c),.im (.bool s.down),I s.n]
mutual
def xZ{l:List Nat}: ∀(v:AV),AV.mentIn [] v=true→AV.mentIn l v=true
 | .any,_=>rfl
 | .iv _,_=>rfl
 | .nils,_=>rfl
 | .emp,_=>rfl
 | .el _,_=>rfl
 | .row _ _,h=>by simp[AV.mentIn] at h
 | .ptr _ _,h=>by simp[AV.mentIn] at h
 | .bsl _ _ _ _,h=>by simp[AV.mentIn] at h
 | .bsh _ _ _ _,h=>by simp[AV.mentIn] at h
 | .agg cs,h=>by rw[AV.mentIn] at h⊢;exact fB h
 | .tup cs,h=>by rw[AV.mentIn] at h⊢;exact fB h
 | .fn _ cs,h=>by rw[AV.mentIn] at h⊢;exact fB h
 | .opt _ v,h=>by rw[AV.mentIn] at h⊢;exact xZ v h
def fB{l:List Nat}: ∀{cs:List AV},AV.mentsIn [] cs=true→AV.mentsIn l cs=true
 | [],_=>rfl
 |c::cs,h=>by
  rw[AV.mentsIn,aE] at h⊢;exact⟨xZ c h.1,fB h.2⟩
end
def LD:Stm:=⟨0,[],[],[],[],[],[],[],[],nilE,[],false,0⟩
section
variable {b:Box}{bxi:List (Nat×Box)}{caps:List AV}{f:FuncId}{gs:au}
def oB[CallTy prog f](p:Ex→Bool)(l:List Ex)(hl:l.length≤140737488355328)(hc: ∀y∈l,CallG gs prog f (.agg ((Ex.cs y).map .iv)::caps) bxi bxi [] (aB (p y)))
 (hw:WkB bxi bxi) (hmb:bxi.all (fun p=> !p.2.cs.isEmpty && AV.mentsIn (keys bxi) p.2.cs)=true):
 CallG gs prog 108 [.iv (.sl (l.map Ex.c)),.fn f caps] bxi bxi [] (aI (iB p l)):=by
 refine iG func108 ntmps108 (fun w0 E0 hG=> ?_);refine wz ?_;refine ae (ι:=Nat) (fun i=>⟨[(8,aI (i:Int)),(7,aI ((l.map Ex.c).length:Int)),(0,.iv (.sl (l.map Ex.c))),(1,.fn f caps)],bxi,[]⟩) (fun i=>l.length - i) (fun i=> ∀y∈l.take i,p y=false) (i0:=0) ?_ sP ?_
 · exact Wk.mkX ay F4 (fun s v h=>h) .nil
 intro i hI K hK;cases hx:l[i]? with
 |none=>
  have hlt:=fa (l:=l.map Ex.c) (bf hx);rw[jG (fK hI hx)];refine wz ?_;apply L.ends;rfl;rfl;exact fR;exact Wk.mkX ay .nil (fun s v h=>h) .nil
 |some y=>
  have hlt:=eZ (l:=l.map Ex.c) (cq (f:=Ex.c) hx);have hlt':=eP hx;have hcy:=hc y (gE hx);have g1:(l.map Ex.c)[((i:Nat):Int).toNat]?=some [I y.op,I y.v.k,I y.v.n,S y.v.s,S y.s,S y.name,I y.n,.sl (y.l.map Ex.c)]:=by rw[iN,gP,hx];exact congrArg some (aN y)
  cases hq:p y with
  |true=>
   rw[hq] at hcy;have hcz:CallG gs prog f ([.agg ((Ex.cs y).map .iv)] ++caps) bxi bxi [] _:=hcy;rw[gC hI hx hq];(repeat' first|intro hb hp|refine aY (f:=f) U hG U hcz U hw hmb U ?_|refine am ?_|refine ak ?_ ?_|fail)
   apply L.ends;rfl;rfl;exact fR;exact Wk.mkX ay .nil (fun s v h=>ee h) .nil
  |false=>
   rw[hq] at hcy;have hcz:CallG gs prog f ([.agg ((Ex.cs y).map .iv)] ++caps) bxi bxi [] _:=hcy;(repeat' first|intro hb hp|refine aY (f:=f) U hG U hcz U hw hmb U ?_|refine am ?_|refine ak ?_ ?_|fail)
   refine hK _ (i+1) (gN hI hx hq) C ?_;exact Wk.mkX ay F4 (fun s v h=>ee h) .nil
def xc[CallTy prog f](p:Ex→Bool)(l:List Ex)(hl:l.length≤140737488355328)(hbn:b.cs.isEmpty=false)(hm:AV.mentsIn [] b.cs=true)
 (hc: ∀y∈l,CallG gs prog f [.agg ((Ex.cs y).map .iv),.ptr 1000 0] [(1000,b)] [(1000,b)] [] (aB (p y))):
 CallG gs prog 85 [.iv (.sl (l.map Ex.c)),.fn f [.ptr 1000 0]] [(1000,b)] [(1000,b)] [] (aB (l.any p)):=by
 have k:=oB (f:=f) (caps:= [.ptr 1000 0]) (bxi:= [(1000,b)]) p l hl hc B1 (by simp[hbn,fB hm]);refine iG func85 ntmps85 (fun w0 E0 hG=> ?_);rw[←su];(repeat' first|intro hb hp|refine LW.is (kJ (q:=1000) U hG k U U hbn hm U ?_)|refine am ?_|refine ak ?_ ?_|fail)
 all_goals exact L.ends U U fR wK
def vK[CallTy prog f](p:Idx→Bool)(l:List Idx)(hl:l.length≤140737488355328)(hc: ∀y∈l,CallG gs prog f (.agg ((Idx.c y).map .iv)::caps) bxi bxi [] (aB (p y)))
 (hw:WkB bxi bxi) (hmb:bxi.all (fun p=> !p.2.cs.isEmpty && AV.mentsIn (keys bxi) p.2.cs)=true):
 CallG gs prog 111 [.iv (.sl (l.map Idx.c)),.fn f caps] bxi bxi [] (aI (iB p l)):=by
 refine iG func111 ntmps111 (fun w0 E0 hG=> ?_);refine wz ?_;refine ae (ι:=Nat) (fun i=>⟨[(8,aI (i:Int)),(7,aI ((l.map Idx.c).length:Int)),(0,.iv (.sl (l.map Idx.c))),(1,.fn f caps)],bxi,[]⟩) (fun i=>l.length - i) (fun i=> ∀y∈l.take i,p y=false) (i0:=0) ?_ sP ?_
 · exact Wk.mkX ay F4 (fun s v h=>h) .nil
 intro i hI K hK;cases hx:l[i]? with
 |none=>
  have hlt:=fa (l:=l.map Idx.c) (bf hx);rw[jG (fK hI hx)];refine wz ?_;apply L.ends;rfl;rfl;exact fR;exact Wk.mkX ay .nil (fun s v h=>h) .nil
 |some y=>
  have hlt:=eZ (l:=l.map Idx.c) (cq (f:=Idx.c) hx);have hlt':=eP hx;have hcy:=hc y (gE hx);have g1:(l.map Idx.c)[((i:Nat):Int).toNat]?=some [S y.n,S y.tb,S y.co]:=by rw[iN,gP,hx];rfl
  cases hq:p y with
  |true=>
   rw[hq] at hcy;have hcz:CallG gs prog f ([.agg ((Idx.c y).map .iv)] ++caps) bxi bxi [] _:=hcy;rw[gC hI hx hq];(repeat' first|intro hb hp|refine aY (f:=f) U hG U hcz U hw hmb U ?_|refine am ?_|refine ak ?_ ?_|fail)
   apply L.ends;rfl;rfl;exact fR;exact Wk.mkX ay .nil (fun s v h=>ee h) .nil
  |false=>
   rw[hq] at hcy;have hcz:CallG gs prog f ([.agg ((Idx.c y).map .iv)] ++caps) bxi bxi [] _:=hcy;(repeat' first|intro hb hp|refine aY (f:=f) U hG U hcz U hw hmb U ?_|refine am ?_|refine ak ?_ ?_|fail)
   refine hK _ (i+1) (gN hI hx hq) C ?_;exact Wk.mkX ay F4 (fun s v h=>ee h) .nil
def wZ[CallTy prog f](p:Idx→Bool)(l:List Idx)(hl:l.length≤140737488355328)(hbn:b.cs.isEmpty=false)(hm:AV.mentsIn [] b.cs=true)
 (hc: ∀y∈l,CallG gs prog f [.agg ((Idx.c y).map .iv),.ptr 1000 0] [(1000,b)] [(1000,b)] [] (aB (p y))):
 CallG gs prog 89 [.iv (.sl (l.map Idx.c)),.fn f [.ptr 1000 0]] [(1000,b)] [(1000,b)] [] (aB (l.any p)):=by
 have k:=vK (f:=f) (caps:= [.ptr 1000 0]) (bxi:= [(1000,b)]) p l hl hc B1 (by simp[hbn,fB hm]);refine iG func89 ntmps89 (fun w0 E0 hG=> ?_);rw[←su];(repeat' first|intro hb hp|refine LW.is (kJ (q:=1000) U hG k U U hbn hm U ?_)|refine am ?_|refine ak ?_ ?_|fail)
 all_goals exact L.ends U U fR wK
def vL[CallTy prog f](p:Ast→Bool)(l:List Ast)(hl:l.length≤140737488355328)(hc: ∀y∈l,CallG gs prog f (.agg ((Ast.c y).map .iv)::caps) bxi bxi [] (aB (p y)))
 (hw:WkB bxi bxi) (hmb:bxi.all (fun p=> !p.2.cs.isEmpty && AV.mentsIn (keys bxi) p.2.cs)=true):
 CallG gs prog 154 [.iv (.sl (l.map Ast.c)),.fn f caps] bxi bxi [] (aI (iB p l)):=by
 refine iG func154 ntmps154 (fun w0 E0 hG=> ?_);refine wz ?_;refine ae (ι:=Nat) (fun i=>⟨[(8,aI (i:Int)),(7,aI ((l.map Ast.c).length:Int)),(0,.iv (.sl (l.map Ast.c))),(1,.fn f caps)],bxi,[]⟩) (fun i=>l.length - i) (fun i=> ∀y∈l.take i,p y=false) (i0:=0) ?_ sP ?_
 · exact Wk.mkX ay F4 (fun s v h=>h) .nil
 intro i hI K hK;cases hx:l[i]? with
 |none=>
  have hlt:=fa (l:=l.map Ast.c) (bf hx);rw[jG (fK hI hx)];refine wz ?_;apply L.ends;rfl;rfl;exact fR;exact Wk.mkX ay .nil (fun s v h=>h) .nil
 |some y=>
  have hlt:=eZ (l:=l.map Ast.c) (cq (f:=Ast.c) hx);have hlt':=eP hx;have hcy:=hc y (gE hx);have g1:(l.map Ast.c)[((i:Nat):Int).toNat]?=some [S y.co,I y.e.op,I y.e.v.k,I y.e.v.n,S y.e.v.s,S y.e.s,S y.e.name,I y.e.n,.sl (y.e.l.map Ex.c)]:=by rw[iN,gP,hx];rfl
  cases hq:p y with
  |true=>
   rw[hq] at hcy;have hcz:CallG gs prog f ([.agg ((Ast.c y).map .iv)] ++caps) bxi bxi [] _:=hcy;rw[gC hI hx hq];(repeat' first|intro hb hp|refine aY (f:=f) U hG U hcz U hw hmb U ?_|refine am ?_|refine ak ?_ ?_|fail)
   apply L.ends;rfl;rfl;exact fR;exact Wk.mkX ay .nil (fun s v h=>ee h) .nil
  |false=>
   rw[hq] at hcy;have hcz:CallG gs prog f ([.agg ((Ast.c y).map .iv)] ++caps) bxi bxi [] _:=hcy;(repeat' first|intro hb hp|refine aY (f:=f) U hG U hcz U hw hmb U ?_|refine am ?_|refine ak ?_ ?_|fail)
   refine hK _ (i+1) (gN hI hx hq) C ?_;exact Wk.mkX ay F4 (fun s v h=>ee h) .nil
def xa[CallTy prog f](p:Ast→Bool)(l:List Ast)(hl:l.length≤140737488355328)(hbn:b.cs.isEmpty=false)(hm:AV.mentsIn [] b.cs=true)
 (hc: ∀y∈l,CallG gs prog f [.agg ((Ast.c y).map .iv),.ptr 1000 0] [(1000,b)] [(1000,b)] [] (aB (p y))):
 CallG gs prog 113 [.iv (.sl (l.map Ast.c)),.fn f [.ptr 1000 0]] [(1000,b)] [(1000,b)] [] (aB (l.any p)):=by
 have k:=vL (f:=f) (caps:= [.ptr 1000 0]) (bxi:= [(1000,b)]) p l hl hc B1 (by simp[hbn,fB hm]);refine iG func113 ntmps113 (fun w0 E0 hG=> ?_);rw[←su];(repeat' first|intro hb hp|refine LW.is (kJ (q:=1000) U hG k U U hbn hm U ?_)|refine am ?_|refine ak ?_ ?_|fail)
 all_goals exact L.ends U U fR wK
def vM[CallTy prog f](p:Int→Bool)(l:List Int)(hl:l.length≤140737488355328)(hc: ∀y∈l,CallG gs prog f (aI y::caps) bxi bxi [] (aB (p y)))
 (hw:WkB bxi bxi) (hmb:bxi.all (fun p=> !p.2.cs.isEmpty && AV.mentsIn (keys bxi) p.2.cs)=true):
 CallG gs prog 191 [.iv (.sl (l.map no)),.fn f caps] bxi bxi [] (aI (iB p l)):=by
 refine iG func191 ntmps191 (fun w0 E0 hG=> ?_);refine wz ?_;refine ae (ι:=Nat) (fun i=>⟨[(8,aI (i:Int)),(7,aI ((l.map no).length:Int)),(0,.iv (.sl (l.map no))),(1,.fn f caps)],bxi,[]⟩) (fun i=>l.length - i) (fun i=> ∀y∈l.take i,p y=false) (i0:=0) ?_ sP ?_
 · exact Wk.mkX ay F4 (fun s v h=>h) .nil
 intro i hI K hK;cases hx:l[i]? with
 |none=>
  have hlt:=fa (l:=l.map no) (bf hx);rw[jG (fK hI hx)];refine wz ?_;apply L.ends;rfl;rfl;exact fR;exact Wk.mkX ay .nil (fun s v h=>h) .nil
 |some y=>
  have hlt:=eZ (l:=l.map no) (cq (f:=no) hx);have hlt':=eP hx;have hcy:=hc y (gE hx);have g1:(l.map no)[((i:Nat):Int).toNat]?=some [I y]:=by rw[iN,gP,hx];rfl
  cases hq:p y with
  |true=>
   rw[hq] at hcy;have hcz:CallG gs prog f ([aI y] ++caps) bxi bxi [] _:=hcy;rw[gC hI hx hq];(repeat' first|intro hb hp|refine aY (f:=f) U hG U hcz U hw hmb U ?_|refine am ?_|refine ak ?_ ?_|fail)
   apply L.ends;rfl;rfl;exact fR;exact Wk.mkX ay .nil (fun s v h=>ee h) .nil
  |false=>
   rw[hq] at hcy;have hcz:CallG gs prog f ([aI y] ++caps) bxi bxi [] _:=hcy;(repeat' first|intro hb hp|refine aY (f:=f) U hG U hcz U hw hmb U ?_|refine am ?_|refine ak ?_ ?_|fail)
   refine hK _ (i+1) (gN hI hx hq) C ?_;exact Wk.mkX ay F4 (fun s v h=>ee h) .nil
def xb[CallTy prog f](p:Int→Bool)(l:List Int)(hl:l.length≤140737488355328)(hbn:b.cs.isEmpty=false)(hm:AV.mentsIn [] b.cs=true)
 (hc: ∀y∈l,CallG gs prog f [aI y,.ptr 1000 0] [(1000,b)] [(1000,b)] [] (aB (p y))):
 CallG gs prog 156 [.iv (.sl (l.map no)),.fn f [.ptr 1000 0]] [(1000,b)] [(1000,b)] [] (aB (l.any p)):=by
 have k:=vM (f:=f) (caps:= [.ptr 1000 0]) (bxi:= [(1000,b)]) p l hl hc B1 (by simp[hbn,fB hm]);refine iG func156 ntmps156 (fun w0 E0 hG=> ?_);rw[←su];(repeat' first|intro hb hp|refine LW.is (kJ (q:=1000) U hG k U U hbn hm U ?_)|refine am ?_|refine ak ?_ ?_|fail)
 all_goals exact L.ends U U fR wK
def wl[CallTy prog f](p:Ex→Bool)(l:List Ex)(hl:l.length≤140737488355328)
 (hc: ∀y∈l,CallG gs prog f [.agg ((Ex.cs y).map .iv)] [] [] [] (aB (p y))):
 CallG gs prog 85 [.iv (.sl (l.map Ex.c)),.fn f []] [] [] [] (aB (l.any p)):=by
 have k:=oB (f:=f) (caps:= []) (bxi:= []) p l hl hc .nil U;refine iG func85 ntmps85 (fun w0 E0 hG=> ?_);rw[←su];refine wz ?_;all_goals refine bn ?_
 all_goals rfl
end
end Go.Proofs.Y
