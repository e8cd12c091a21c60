/- Lemmas towards the law. Conditions: each one says its own. -/
import Derived.Test.YtnhmohbhgocbjaaGreatDoorZU16
set_option linter.all false
set_option maxHeartbeats 64000000
set_option maxRecDepth 100000
namespace Go.Proofs.Y
open Go Go.Abs
instance:A0 Tryz.prog 19:=⟨kR⟩
instance:A0 Tryz.prog 20:=⟨kR⟩
end Go.Proofs.Y
namespace Go.Abs
section
variable {P:Program}{c:C7}{st:St}{fn:Func}{res:AV}{rs:List ResultVar}{y z u:IV}{cs:List AV}
variable {bx':List (Nat×A5)}
end
end Go.Abs
namespace Go.Proofs.Y
open Go.Abs
attribute [local irreducible] L Code.wp bodyPost Exit.then Exit.inBlock
def eqSl_iff: ∀{l m:List Str},wt l m=true↔l=m
 | [],[] =>by simp[wt]
 | [],_::_=>by simp[wt]
 |_::_,[] =>by simp[wt]
 |a::l,b::m=>by simp[wt,eqSl_iff]
end Go.Proofs.Y
namespace Go.Proofs.Y
open Go.Abs Go.Proofs.Tryz
attribute [local irreducible] L Code.wp bodyPost Exit.then Exit.inBlock
def sameRows_any(R:List (List A3))(hl:R.length<=100000000)(hr: ∀r∈R,r.length<=100000000):CallA prog 22 [.iv (.sl (R.map ai)),.iv (.sl (R.map ai))] [] [] [] (aB true):=by
 have q0:((((R.map ai).length:Nat):Int) !=(((R.map ai).length:Nat):Int))=false:=by simp
 refine iA func22 ntmps22 (fun w0 E0=> ?_);refine wz ?_;refine ae (ι:=Nat) (fun i=>⟨[(14,aI (i:Int)),(13,aI ((R.map ai).length:Int)),(0,.iv (.sl (R.map ai))),(1,.iv (.sl (R.map ai)))],[],[]⟩) (fun i=>R.length - i) (fun i=>True) (i0:=0) ?_ trivial ?_
 · exact wL
 intro i _ K hK;cases T:R[i]? with
 |none=>
  have aR:=gc (l:=R.map ai) (bz T);clear hK;refine wz ?_;all_goals refine aU ?_
  all_goals rfl
 |some x=>
  have aR:=fZ (l:=R.map ai) (cM (f:=ai) T);have a1:=fM T;have a2:=hr x (gE T);have g1:(R.map ai)[((i:Nat):Int).toNat]?=some [.sl (x.map A3.c)]:=by rw[iN,gP,T];rfl
  have q1:((((x.map A3.c).length:Nat):Int) !=(((x.map A3.c).length:Nat):Int))=false:=by simp
  clear hr q0;refine wz ?_;refine ae (ι:=Nat) (fun j=>⟨[(33,aI (j:Int)),(32,aI ((x.map A3.c).length:Int)),(5,aI (i:Int)),(14,aI (i:Int)),(13,aI ((R.map ai).length:Int)),(0,.iv (.sl (R.map ai))),(1,.iv (.sl (R.map ai)))],[],[]⟩) (fun j=>x.length - j) (fun j=>True) (i0:=0) ?_ trivial ?_
  · exact wL
  intro j _ K2 ad;cases hy:x[j]? with
  |none=>
   have ar:=gc (l:=x.map A3.c) (bz hy);clear ad;refine wz ?_;refine hK _ (i+1) trivial C ?_;exact wL
  |some v=>
   have ar:=fZ (l:=x.map A3.c) (cM (f:=A3.c) hy);have a0:=fM hy;have g2:(x.map A3.c)[((j:Nat):Int).toNat]?=some [I v.k,I v.n,S v.s]:=by rw[iN,gP,hy];rfl
   have q2:(!((v.k==v.k) && ((v.n==v.n) && ((v.s==v.s) && true))))=false:=by simp
   clear hK;refine wz ?_;refine ad _ (j+1) trivial C ?_;exact wL
end Go.Proofs.Y
namespace Go.Proofs.Y
open Go.Abs Go.Proofs.Tryz
attribute [local irreducible] L Code.wp bodyPost Exit.then Exit.inBlock
variable [C3]
def quiet_any{gs:aw}(x:Str)(r:D3):CallG gs prog 16 ([.ptr 1010 0,.agg [aS x],r.av] ++ []) [] [] [] (aB true):=by
 refine iG func16 ntmps16 (fun w0 E0 T=> ?_);refine wz ?_;all_goals exact L.ends U U sE wK
def playGo(g:C0)(l:List Str):C0:=l.foldl (fun g x=>(fz g x).1) g
def playM(l:List Str):C0:=playGo eng0 (l.take 40)
def playGo_ok: ∀(l:List Str) {g:C0},B6 g->B6 (playGo g l)
 | [],_,h=>h
 |x::l,g,h=>playGo_ok l (la h x)
def play_ok(l:List Str):B6 (playM l):=playGo_ok _ tW
def play_any(l:List Str)(hl:l.length<=140737488355328):
 CallG cH prog 15 [.iv (.sl (l.map Str.c)),.fn 16 []] [] [(1010,(playM l).b)] [] (.tup [.ptr 1010 0,aB true]):=by
 have ka:=FU;have kn:=Er (gs:=cH);generalize hZ:playM l=Z;refine iG func15 ntmps15 (fun w0 E0 hG=> ?_);(repeat' first|intro hb hp|refine ac [1010] rfl hG kn .nil .nil rfl rfl rfl rfl ?_|refine am ?_|refine al ?_ ?_|fail)
 refine ae (ι:=Nat×C0) (fun i=>⟨[(7,aI (i.1:Int)),(0,.iv (.sl (l.map Str.c))),(1,.fn 16 []),(6,.ptr 1010 0)],[(1010,i.2.b)],[]⟩) (fun i=>l.length - i.1) (fun i=>B6 i.2/\i.1<=40/\playGo i.2 ((l.take 40).drop i.1)=Z) (i0:=(0,eng0)) ?_ ⟨tW,by decide,hZ⟩ ?_
 · exact wL
 rintro ⟨i,g⟩ ⟨hg,hi,T⟩ K hK;dsimp only at hg hi T hK;by_cases ar:i<40
 case neg=>
  have q2:decide ((i:Int)<40)=false:=decide_eq_false C;rw[dL (by rw[lT];omega)] at T;have T:g=Z:=T;subst T;clear hK;by_cases a2:i<l.length
  · have q1:decide ((i:Int)<((l.map Str.c).length:Int))=true:=decide_eq_true (by rw[lM];omega);refine wz ?_;all_goals exact L.ends U U fR wK
  · have q1:decide ((i:Int)<((l.map Str.c).length:Int))=false:=decide_eq_false (by rw[lM];omega);refine wz ?_;all_goals exact L.ends U U fR wK
 have q2:decide ((i:Int)<40)=true:=decide_eq_true C;cases hx:l[i]? with
 |none=>
  have q1:=gc (l:=l.map Str.c) (bz hx);rw[dL (by rw[lT];have:=gO hx;omega)] at T;have T:g=Z:=T;subst T;clear hK;refine wz ?_;all_goals exact L.ends U U fR wK
 |some x=>
  have q1:=fZ (l:=l.map Str.c) (cM (f:=Str.c) hx);have a1:=fM hx;have g1:(l.map Str.c)[((i:Nat):Int).toNat]?=some [S x]:=by rw[iN,gP,hx];rfl
  have ad:(l.take 40)[i]?=some x:=by rw[List.getElem?_take,if_pos ar];exact hx
  have aR:(l.take 40).drop i=x::(l.take 40).drop (i+1):=fu ad;rw[aR] at T;have kd:=oI g hg x;have a0:=la hg x;have kq:=quiet_any (gs:=cH) x (fz g x).2;(repeat' first|intro hb hp|refine ac [] rfl hG kd fS B1 rfl rfl rfl rfl ?_|refine DR.is (eY (f:=16) U hG U kq U .nil U U U ?_)|refine am ?_|refine al ?_ ?_|fail)
  exact hK _ (i+1,(fz g x).1) ⟨a0,by omega,T⟩ oD wL
end Go.Proofs.Y
namespace Go.Proofs.Y
open Go.Abs
attribute [local irreducible] L Code.wp bodyPost Exit.then Exit.inBlock
def MI(g:C0)(x:Str):(fz g x).1.n<=g.n+1/\g.n<=(fz g x).1.n:=by
 unfold fz;split
 · exact⟨by dsimp only;omega,by dsimp only;omega⟩
 split
 · exact⟨by dsimp only;omega,by dsimp only;omega⟩
 split
 · exact⟨by dsimp only;omega,by dsimp only;omega⟩
 · exact⟨by dsimp only;omega,by dsimp only;omega⟩
def AE: ∀(l:List Str) (g:C0),(playGo g l).n<=g.n+l.length
 | [],g=>by show g.n<=_;omega
 |x::l,g=>by
  have h1:=AE l (fz g x).1;have h2:=(MI g x).1;have e:playGo g (x::l)=playGo (fz g x).1 l:=rfl;rw[e,lC];omega
def Lw(l:List Str):(playM l).n<=40:=by
 have:=AE (l.take 40) eng0;have e:eng0.n=0:=rfl;rw[lT] at this;rw[playM];omega
def Ag(c:B0)(ps:List Pg)(x:Str):B0×List Pg×D3:=
 if(cj x).2≠0 then(c,ps,⟨(cj x).2,0,[]⟩)
 else match ib c ps ln 0 (cj x).1 with
  | .error e=>(c,ps,⟨e.1,e.2,[]⟩)
  | .ok r=>r
def zr{c:B0}{ps:List Pg}{n:Int}{x:Str}(h:n<150):fz ⟨c,ps,n⟩ x=(⟨(Ag c ps x).1,(Ag c ps x).2.1,n+1⟩,(Ag c ps x).2.2):=by
 have h1: ¬150<=n:=C;unfold fz Ag;dsimp only;rw[if_neg h1];by_cases h2:(cj x).2≠0
 · rw[if_pos h2,if_pos h2]
 · rw[if_neg h2,if_neg h2];cases ib c ps ln 0 (cj x).1<;>rfl
def Md{g:C0}{x:Str}(hn:g.n<150)(he:(cj x).2≠0):(fz g x).2.code=(cj x).2:=by
 unfold fz;rw[if_neg C,if_pos he]
variable [C3]
end Go.Proofs.Y
namespace Go.Proofs.Y
open Go.Abs
def stp(w:Str):Prop:=w= [59] \/w= [41]
structure Loc {α:Type} (f:Rd->α×Rd):Prop where
 sf: ∀r,Sf r (f r).2
 bd: ∀r,(f r).2.bad=false->r.bad=false
 lc: ∀(c p:List Str) (w:Str) (x:List Str) (v:α),stp w->f ⟨c++w::x,false⟩=(v,⟨p++w::x,false⟩)-> ∀(w':Str) (y:List Str),stp w'->f ⟨c++w'::y,false⟩=(v,⟨p++w'::y,false⟩)
section
variable {a s t:Rd->Ex×Rd}{b:Bool}{c ws x:List Str}{op:Int}{r:Rd}{w:Str}{α:Type}
def Loc.bind{β:Type}{f:Rd->α×Rd}{g:α->Rd->β×Rd}(hf:Loc f)(T: ∀a,Loc (g a)):Loc (fun r=>g (f r).1 (f r).2) where
 sf r:=(hf.sf r).trans ((T _).sf _)
 bd r h:=hf.bd _ ((T _).bd _ h)
 lc c p w x v hw h w' y ad:=by
  try dsimp only at h|-
  generalize hq:f ⟨c++w::x,false⟩=q at h;obtain⟨a,l,b⟩:=q;try dsimp only at h
  have nb:b=false:=(T a).bd ⟨l,b⟩ (by rw[h]);subst nb;obtain⟨t,ht⟩:=((T a).sf ⟨l,false⟩).h;rw[h] at ht;dsimp only at ht;have e1:l=(t++p)++w::x:=by rw[<-ht,List.append_assoc]
  subst e1;rw[hf.lc c (t++p) w x a hw hq w' y ad];exact(T a).lc (t++p) p w x v hw h w' y ad
def Loc.pure(v:α):Loc (fun r=>(v,r)) where
 sf r:= .refl r
 bd r h:=h
 lc c p w x u hw h w' y T:=by
  injection h with h1 h2
  injection h2 with h3 h4
  rw[h1,List.append_cancel_right h3]
def Loc.marked(v:α):Loc (fun r=>(v,(⟨r.l,true⟩:Rd))) where
 sf r:= .mark r true
 bd r h:=by cases h
 lc c p w x u hw h w' y T:=by injection h with h1 h2;injection h2 with h3 h4;cases h4
def Loc.check(v:α)(b:Bool):Loc (fun r=>(v,(⟨r.l,r.bad||b⟩:Rd))) where
 sf r:= .mark r _
 bd r h:=by simp at h;exact h.1
 lc c p w x u hw h w' y T:=by
  injection h with h1 h2
  injection h2 with h3 h4
  rw[h1,List.append_cancel_right h3,h4]
def Loc.cond{c:Prop}[Decidable c]{f g:Rd->α×Rd}(T:Loc f)(hg:Loc g):Loc (fun r=>if c then f r else g r):=by
 by_cases h:c
 · simp only[if_pos h];exact T
 · simp only[if_neg h];exact hg
def Loc.ifb{v:α}{f:Rd->α×Rd}(T:Loc f):Loc (fun r=>if r.bad then(v,r) else f r) where
 sf r:=by
  show Sf r (if r.bad then(v,r) else f r).2;split
  · exact .refl r
  · exact T.sf r
 bd r h:=by
  try dsimp only at h
  split at h
  · exact h
  · exact T.bd r h
 lc c p w x u hw h w' y ad:=T.lc c p w x u hw h w' y ad
def Loc.ifbad{v:α}{f:Rd->α×Rd}(T:Loc f):Loc (fun r=>if r.bad then(v,(⟨r.l,true⟩:Rd)) else f r) where
 sf r:=by
  show Sf r (if r.bad then(v,(⟨r.l,true⟩:Rd)) else f r).2;split
  · exact .mark r true
  · exact T.sf r
 bd r h:=by
  try dsimp only at h
  split at h
  · cases h
  · exact T.bd r h
 lc c p w x u hw h w' y ad:=T.lc c p w x u hw h w' y ad
def at_bd(r:Rd)(ws:List Str):(ak r ws).2.bad=r.bad:=by
 unfold ak;split
 · rfl
 · split<;>rfl
def at_cut(hn: ∀u∈ws,¬stp u)(hw:stp w):ak ⟨c++w::x,b⟩ ws=if ws<+:c then(true,⟨c.drop ws.length++w::x,b⟩) else(false,⟨c++w::x,b⟩):=by
 unfold ak;dsimp only;by_cases T:ws<+:c
 · obtain⟨t,rfl⟩:=T;rw[if_neg sP,if_pos (by rw[eqSl_iff];simp),if_pos (List.prefix_append _ _)];simp
 · rw[if_neg T];split
   · rfl
   · rw[if_neg];intro h;rw[eqSl_iff] at h;by_cases hl:ws.length<=c.length
     · rw[tA hl] at h;exact T ⟨c.drop ws.length,by(conv=>lhs;rw[<-h]);rw[show(c.take ws.length).length=ws.length by rw[lT];omega,List.take_append_drop]⟩
     · refine hn w ?_ hw;rw[<-h,List.take_append];obtain⟨k,hk⟩: ∃k,ws.length - c.length=k+1:=⟨ws.length - c.length - 1,by omega⟩
       rw[hk];simp
def Loc.at(hn: ∀u∈ws,¬stp u):Loc (fun r=>ak r ws) where
 sf r:=aW r ws
 bd r h:=by rw[at_bd] at h;exact h
 lc c p w x v hw h w' y T:=by
  try dsimp only at h|-
  rw[at_cut hn hw] at h;rw[at_cut hn T];split at h
  · rename_i k;rw[if_pos k];injection h with h1 h2
    injection h2 with h3 h4
    rw[<-h1,List.append_cancel_right h3]
  · rename_i k;rw[if_neg k];injection h with h1 h2
    injection h2 with h3 h4
    rw[<-h1,List.append_cancel_right h3]
def Loc.opt{f g:Rd->α×Rd}(hn: ∀u∈ws,¬stp u)(hf:Loc f)(hg:Loc g):Loc (fun r=>if(ak r ws).1 then f (ak r ws).2 else g r) where
 sf r:=by
  show Sf r (if(ak r ws).1 then f (ak r ws).2 else g r).2;split
  · exact(aW r ws).trans (hf.sf _)
  · exact hg.sf r
 bd r h:=by
  try dsimp only at h
  split at h
  · have:=hf.bd _ h;rw[at_bd] at this;exact this
  · exact hg.bd r h
 lc c p w x v hw h w' y T:=by
  try dsimp only at h|-
  rw[at_cut hn hw] at h;rw[at_cut hn T];by_cases k:ws<+:c
  · rw[if_pos k] at h|-;exact hf.lc _ p w x v hw h w' y T
  · rw[if_neg k] at h|-;exact hg.lc c p w x v hw h w' y T
def at_in(h:ws<+:c):ak ⟨c++x,b⟩ ws=(true,⟨c.drop ws.length++x,b⟩):=by
 obtain⟨t,rfl⟩:=h;unfold ak;dsimp only;rw[if_neg sP,if_pos (by rw[eqSl_iff];simp)];simp
def take_in{p:List Str}(h:aL ⟨c++w::x,false⟩ ws=⟨p++w::x,false⟩):ws<+:c/\c.drop ws.length=p:=by
 have hs:(ak ⟨c++w::x,false⟩ ws).1=true:=by
  unfold aL at h;split at h
  · assumption
  · injection h with h3 h4;cases h4
 unfold aL at h;rw[if_pos hs] at h;unfold ak at h hs;dsimp only at h hs;by_cases k1:(c++w::x).length<ws.length
 · rw[if_pos k1] at hs;cases hs
 rw[if_neg k1] at hs h;by_cases k2:wt ((c++w::x).take ws.length) ws=true
 · rw[if_pos k2] at h;injection h with h3 h4
   have hl:=congrArg List.length h3;simp only[lD,gV,lC] at hl k1;have T:ws.length<=c.length:=C;rw[tA T,eqSl_iff] at k2;rw[List.drop_append_of_le_length T] at h3;exact⟨⟨c.drop ws.length,by(conv=>lhs;rw[<-k2]);rw[show(c.take ws.length).length=ws.length by rw[lT];omega,List.take_append_drop]⟩,List.append_cancel_right h3⟩
 · rw[if_neg k2] at hs;cases hs
def Loc.take(ws:List Str):Loc (fun r=>((),aL r ws)) where
 sf r:=bI r ws
 bd r h:=by
  dsimp only at h;unfold aL at h;split at h
  · rw[at_bd] at h;exact h
  · cases h
 lc c p w x v hw h w' y T:=by
  injection h with h1 h2
  obtain⟨i1,i2⟩:=take_in h2;unfold aL;rw[at_in i1,if_pos U,i2]
def Loc.next:Loc eB where
 sf:=tM
 bd r h:=by
  unfold eB at h;split at h
  · cases h
  · exact h
 lc c p w x v hw h w' y T:=by
  unfold eB at h|-;cases c with
  |nil=>
   split at h
   · injection h with h1 h2;injection h2 with h3 h4;cases h4
   · injection h with h1 h2;injection h2 with h3 h4
     have:=congrArg List.length h3;simp at this;omega
  |cons a c=>
   have e1:(⟨a::c++w::x,false⟩:Rd).front=a:=rfl;have e2:(⟨a::c++w'::y,false⟩:Rd).front=a:=rfl;rw[e1] at h;rw[e2];split at h
   · injection h with h1 h2;injection h2 with h3 h4;cases h4
   · rename_i k;rw[if_neg k];injection h with h1 h2
     injection h2 with h3 h4
     have h5:c=p:=List.append_cancel_right h3;rw[h1,<-h5];rfl
def Loc.name:Loc aq:=Loc.next.bind (g:=fun a r=>(a,⟨r.l,r.bad|| !bF a⟩)) (fun a=>Loc.check a _)
def Loc.number:Loc dj:=Loc.next.bind (g:=fun a r=>match CO a with|some n=>(n,r)|none=>(0,⟨r.l,true⟩)) (fun a=>by
 cases CO a with
 |none=>exact Loc.marked 0
 |some n=>exact Loc.pure n)
def Loc.ref:Loc qD:=Loc.name.bind (g:=fun s r=>if(ak r [[46]]).1 then(Ex.mk 2 af s (aq (ak r [[46]]).2).1 0 [],(aq (ak r [[46]]).2).2) else(.mk 2 af [] s 0 [],(ak r [[46]]).2)) (fun s=>
 (Loc.at (ws:= [[46]]) (by simp[stp])).bind (g:=fun b r=>if b then(Ex.mk 2 af s (aq r).1 0 [],(aq r).2) else(.mk 2 af [] s 0 [],r)) (fun b=>
   Loc.cond (Loc.name.bind (g:=fun t r=>(Ex.mk 2 af s t 0 [],r)) (fun t=>Loc.pure _)) (Loc.pure _)))
def psLit2(r:Rd):(A3×Bool)×Rd:=
 if r.front≠ [] /\lb (r.front.headD 0)=true then((⟨1,(dj r).1,[]⟩,true),(dj r).2)
 else if r.front≠ [] /\r.front.headD 0=39 then((uJ r.front,true),⟨(eB r).2.l,(eB r).2.bad|| !au (uJ r.front)⟩)
 else((af,false),r)
def front_cut(T:stp w)(b:Bool):psLit2 ⟨w::x,b⟩=((af,false),⟨w::x,b⟩):=by
 unfold psLit2;rw[show(⟨w::x,b⟩:Rd).front=w from rfl];rcases T with rfl|rfl
 · rw[if_neg dD,if_neg dD]
 · rw[if_neg dD,if_neg dD]
def Loc.lit2:Loc psLit2 where
 sf r:=by
  unfold psLit2;split
  · exact rD r
  split
  · exact(tM r).to _
  · exact .refl r
 bd r h:=by
  unfold psLit2 at h;split at h
  · exact Loc.number.bd r h
  split at h
  · simp at h;exact Loc.next.bd r h.1
  · exact h
 lc c p w x v hw h w' y T:=by
  cases c with
  |nil=>
   rw[List.nil_append,front_cut hw] at h;rw[List.nil_append,front_cut T];exact(Loc.pure (af,false)).lc [] p w x v hw h w' y T
  |cons a c=>
   unfold psLit2 at h|-;rw[show(⟨a::c++w::x,false⟩:Rd).front=a from rfl] at h;rw[show(⟨a::c++w'::y,false⟩:Rd).front=a from rfl];split at h
   · rename_i k;rw[if_pos k];exact(Loc.number.bind (g:=fun n r=>(((⟨1,n,[]⟩:A3),true),r)) (fun n=>Loc.pure _)).lc (a::c) p w x v hw h w' y T
   rename_i k;rw[if_neg k];split at h
   · rename_i k2;rw[if_pos k2];exact(Loc.next.bind (g:=fun _ r=>((uJ a,true),(⟨r.l,r.bad|| !au (uJ a)⟩:Rd))) (fun _=>Loc.check _ _)).lc (a::c) p w x v hw h w' y T
   · rename_i k2;rw[if_neg k2];exact(Loc.pure (af,false)).lc (a::c) p w x v hw h w' y T
def Loc.lit:Loc kM:=
 Loc.opt (ws:= [[110,117,108,108]]) (f:=fun r=>((af,true),r)) (g:=fun r=>if(ak r [[45]]).1 then(((⟨1,-(dj (ak r [[45]]).2).1,[]⟩:A3),true),(dj (ak r [[45]]).2).2) else psLit2 r) (by simp[stp]) (Loc.pure _)
  (Loc.opt (ws:= [[45]]) (f:=fun r=>(((⟨1,-(dj r).1,[]⟩:A3),true),(dj r).2)) (g:=psLit2) (by simp[stp]) (Loc.number.bind (g:=fun n r=>(((⟨1,-n,[]⟩:A3),true),r)) (fun n=>Loc.pure _)) Loc.lit2)
def lit_same(h:(kM r).1.2=false):(kM r).2=r:=by
 unfold kM at h|-;split at h
 · cases h
 rename_i T;rw[if_neg T];split at h
 · cases h
 rename_i k2;rw[if_neg k2];split at h
 · cases h
 rename_i k3;rw[if_neg k3];split at h
 · cases h
 rename_i k4;rw[if_neg k4]
def Loc.atom{o:Rd->Ex×Rd}(h:Loc o):Loc (qe o):=by
 have hl:Loc (fun r=>if(kM r).1.2 then(Ex.mk 1 (kM r).1.1 [] [] 0 [],(kM r).2) else qD r):=by
  have k:=Loc.lit.bind (g:=fun a r=>if a.2=true then(Ex.mk 1 a.1 [] [] 0 [],r) else qD r) (fun a=>Loc.cond (Loc.pure _) Loc.ref);have e:(fun r=>if(kM r).1.2 then(Ex.mk 1 (kM r).1.1 [] [] 0 [],(kM r).2) else qD r)=(fun r=>(fun(a:A3×Bool) r=>if a.2=true then(Ex.mk 1 a.1 [] [] 0 [],r) else qD r) (kM r).1 (kM r).2):=by
   funext r
   dsimp only;cases T:(kM r).1.2 with
   |true=>rfl
   |false=>rw[lit_same T]
  rw[e];exact k
 exact Loc.ifbad (Loc.opt (ws:= [[40]]) (f:=fun r=>((o r).1,aL (o r).2 [[41]])) (by simp[stp]) (h.bind (g:=fun e r=>(e,aL r [[41]])) (fun e=>(Loc.take [[41]]).bind (g:=fun _ r=>(e,r)) (fun _=>Loc.pure e))) hl)
def Loc.fuel{f:Rd->α×Rd}{F:Nat->Rd->α×Rd}(T: ∀n,Loc (F n))(he: ∀n r,r.l.length<n->f r=F n r):Loc f where
 sf r:=by rw[he (r.l.length+1) r C];exact(T _).sf r
 bd r h:=by rw[he (r.l.length+1) r C] at h;exact(T _).bd r h
 lc c p w x v hw h w' y ad:=by
  rw[he ((c++w::x).length+(c++w'::y).length+1) _ oD] at h|-;exact(T _).lc c p w x v hw h w' y ad
def Loc.sumL(h:Loc a): ∀(n:Nat) (e:Ex),Loc (lZ a n e)
 |0,e=>Loc.pure e
 |n+1,e=>Loc.ifb (Loc.opt (ws:= [[43]]) (f:=fun r=>lZ a n (Bm 3 e (a r).1) (a r).2) (by simp[stp]) (h.bind (g:=fun b r=>lZ a n (Bm 3 e b) r) (fun b=>Loc.sumL h n _))
   (Loc.opt (ws:= [[45]]) (f:=fun r=>lZ a n (Bm 4 e (a r).1) (a r).2) (by simp[stp]) (h.bind (g:=fun b r=>lZ a n (Bm 4 e b) r) (fun b=>Loc.sumL h n _)) (Loc.pure e)))
def sumL_fuel(h: ∀r,Sf r (a r).2): ∀(n m:Nat) (e:Ex) (r:Rd),r.l.length<n->r.l.length<m->lZ a n e r=lZ a m e r
 |0,_,_,_,hn,_=>by omega
 |_+1,0,_,_,_,hm=>by omega
 |n+1,m+1,e,r,hn,hm=>by
  unfold lZ;by_cases k:r.bad=true
  · rw[if_pos k,if_pos k]
  rw[if_neg k,if_neg k];by_cases T:(ak r [[43]]).1=true
  · have:=lS T dD;have:=(h (ak r [[43]]).2).le;rw[if_pos T,if_pos T,sumL_fuel h n m _ _ C C]
  rw[if_neg T,if_neg T];by_cases k2:(ak r [[45]]).1=true
  · have:=lS k2 dD;have:=(h (ak r [[45]]).2).le;rw[if_pos k2,if_pos k2,sumL_fuel h n m _ _ C C]
  rw[if_neg k2,if_neg k2]
def Loc.sum(h:Loc a):Loc (AC a):=
 Loc.fuel (F:=fun n r=>lZ a n (a r).1 (a r).2) (fun n=>h.bind (fun e=>Loc.sumL h n e)) (fun n r hn=>by
  have:=(h.sf r).le;exact sumL_fuel h.sf _ _ _ _ C C)
def Loc.joinL(T: ¬stp w)(h:Loc s): ∀(n:Nat) (e:Ex),Loc (gw op w s n e)
 |0,e=>Loc.pure e
 |n+1,e=>Loc.ifb (Loc.opt (ws:= [w]) (f:=fun r=>gw op w s n (Bm op e (s r).1) (s r).2) (by simp[T]) (h.bind (g:=fun b r=>gw op w s n (Bm op e b) r) (fun b=>Loc.joinL T h n _)) (Loc.pure e))
def joinL_fuel(h: ∀r,Sf r (s r).2): ∀(n m:Nat) (e:Ex) (r:Rd),r.l.length<n->r.l.length<m->gw op w s n e r=gw op w s m e r
 |0,_,_,_,hn,_=>by omega
 |_+1,0,_,_,_,hm=>by omega
 |n+1,m+1,e,r,hn,hm=>by
  unfold gw;by_cases k:r.bad=true
  · rw[if_pos k,if_pos k]
  rw[if_neg k,if_neg k];by_cases T:(ak r [w]).1=true
  · have:=lS T sP;have:=(h (ak r [w]).2).le;rw[if_pos T,if_pos T,joinL_fuel h n m _ _ C C]
  rw[if_neg T,if_neg T]
def Loc.join(T: ¬stp w)(h:Loc s):Loc (nY op w s):=
 Loc.fuel (F:=fun n r=>gw op w s n (s r).1 (s r).2) (fun n=>h.bind (fun e=>Loc.joinL T h n e)) (fun n r hn=>by
  have:=(h.sf r).le;exact joinL_fuel h.sf _ _ _ _ C C)
def Loc.or(h:Loc t):Loc (Mx t):=Loc.join (by simp[stp]) (Loc.join (by simp[stp]) h)
def Loc.test(ht:Loc t)(hs:Loc s):Loc (pZ t s):=
 Loc.ifbad (Loc.opt (ws:= [[110,111,116]]) (f:=fun r=>(ex1 9 (t r).1,(t r).2)) (by simp[stp]) (ht.bind (g:=fun e r=>(ex1 9 e,r)) (fun e=>Loc.pure _))
  (hs.bind (g:=fun e r=>if(ak r [[105,115],[110,117,108,108]]).1 then(ex1 10 e,(ak r [[105,115],[110,117,108,108]]).2) else if(ak r [[61]]).1 then(Bm 5 e (s (ak r [[61]]).2).1,(s (ak r [[61]]).2).2) else if(ak r [[60]]).1 then(Bm 6 e (s (ak r [[60]]).2).1,(s (ak r [[60]]).2).2) else(e,r)) (fun e=>
    Loc.opt (ws:= [[105,115],[110,117,108,108]]) (f:=fun r=>(ex1 10 e,r)) (by simp[stp]) (Loc.pure _)
     (Loc.opt (ws:= [[61]]) (f:=fun r=>(Bm 5 e (s r).1,(s r).2)) (by simp[stp]) (hs.bind (g:=fun b r=>(Bm 5 e b,r)) (fun b=>Loc.pure _))
       (Loc.opt (ws:= [[60]]) (f:=fun r=>(Bm 6 e (s r).1,(s r).2)) (by simp[stp]) (hs.bind (g:=fun b r=>(Bm 6 e b,r)) (fun b=>Loc.pure _)) (Loc.pure e))))))
def Loc.tt: ∀k,Loc (Lv k)
 |0=>Loc.marked nilE
 |k+1=>Loc.test (Loc.tt k) (Loc.sum (Loc.atom (Loc.or (Loc.tt k))))
def Loc.o(k:Nat):Loc (ma k):=Loc.or (Loc.tt k)
def Loc.ord:Loc jJ:=
 Loc.opt (ws:= [eZ,zB]) (f:=fun r=>(([(ma 6 r).1],(ak (ma 6 r).2 [wO]).1),(ak (ma 6 r).2 [wO]).2)) (by simp[stp,eZ,zB])
  ((Loc.o 6).bind (g:=fun e r=>(([e],(ak r [wO]).1),(ak r [wO]).2)) (fun e=>(Loc.at (ws:= [wO]) (by simp[stp,wO])).bind (g:=fun b r=>(([e],b),r)) (fun b=>Loc.pure _))) (Loc.pure ([],false))
def Loc.limit:Loc ip:=Loc.opt (ws:= [jY]) (by simp[stp,jY]) Loc.number (Loc.pure (-1))
def ixb_app: ∀(r b:Str) (k:UInt8),0<=Lib.indexByte r k->Lib.indexByte (r++b) k=Lib.indexByte r k
 | [],b,k,h=>by simp[Lib.indexByte] at h
 |x::r,b,k,h=>by
  rw[List.cons_append];unfold Lib.indexByte at h|-;split
  · rfl
  · rename_i T;rw[if_neg T] at h;split at h
    · omega
    · rename_i h1;have g:=Lib.indexByte_ge r k;have h2: ¬Lib.indexByte r k= -1:=by simpa using h1
      have e:=ixb_app r b k C;rw[e]
def take_semi(h:(aL r [w]).bad=false): ∃l,r=⟨w::l,false⟩/\aL r [w] =⟨l,false⟩:=by
 obtain⟨l,b⟩:=r;unfold aL ak at h|-;dsimp only at h|-;by_cases k1:l.length< [w].length
 · rw[if_pos k1] at h;cases h
 rw[if_neg k1] at h|-;by_cases T:wt (l.take [w].length) [w] =true
 · rw[if_pos T] at h|-;rw[eqSl_iff] at T;cases l with
   |nil=>simp at k1
   |cons a l=>
    simp at T;subst T;refine⟨l,?_,?_⟩
    · congr 1
    · simp at h|-;exact h
 · rw[if_neg T] at h;cases h
def scriptL_of_bad(h:r.bad=true): ∀(n:Nat) (l:List A9),fH n l r=(l,r)
 |0,l=>rfl
 |n+1,l=>by unfold fH;rw[if_pos (.inr h)]
def scriptL_acc: ∀(n:Nat) (l:List A9) (r:Rd),fH n l r=(l++(fH n [] r).1,(fH n [] r).2)
 |0,l,r=>by simp[fH]
 |n+1,l,r=>by
  unfold fH;split
  · simp
  · rw[scriptL_acc n (l++ [(fe r).1]),scriptL_acc n ([] ++ [(fe r).1])];simp
def scriptL_bd: ∀(n:Nat) (l:List A9) (r:Rd),(fH n l r).2.bad=false->r.bad=false
 |0,l,r,h=>h
 |n+1,l,r,h=>by
  cases T:r.bad with
  |false=>rfl
  |true=>rw[scriptL_of_bad T] at h;rw[<-T];exact h
def ps_parts{s:Str}{l:List A9}(h:cj s=(l,0)):s.length<=1500/\l.length<=6/\ ∃t,cW s=some t/\fH (t.length+1) [] ⟨t,false⟩=(l,(fH (t.length+1) [] ⟨t,false⟩).2)/\(fH (t.length+1) [] ⟨t,false⟩).2.bad=false:=by
 unfold cj at h;split at h
 · cases h
 rename_i h1;split at h
 · cases h
 rename_i h2;split at h
 · cases h
 rename_i h3;injection h with h4 _
 subst h4;unfold nF at*
 cases hs:cW s with
 |none=>
  rw[hs] at h2;exfalso;apply h2;rw[scriptL_of_bad U]
 |some t=>
  rw[hs] at h2 h3;refine⟨by omega,Nat.le_of_not_lt h3,t,rfl,?_,by simpa using h2⟩;rfl
end
def split_low{w:Str}(h0:w≠ [])(T:w.all iP=true){r:Str}(hr:(r.headD 0|>iP)=false):cW (w++r)=(cW r).map (w:: ·):=by
 cases w with
 |nil=>exact absurd U h0
 |cons c w=>
  simp only[List.all_cons,aE] at T;have hc: ¬(c=32\/c=10):=by
   rintro (rfl|rfl)
   · simp[iP] at T
   · simp[iP] at T
  have ad:((w++r).takeWhile iP)=w:=by
   clear h0 hc;obtain⟨_,T⟩:=T;induction w with
   |nil=>
    cases r with
    |nil=>rfl
    |cons a r=>simp at hr;simp[hr]
   |cons a w ih=>
    simp only[List.all_cons,aE] at T;rw[List.cons_append,List.takeWhile_cons,if_pos T.1,ih T.2]
  have ht:fc c (w++r)=some (w.length+1):=by
   unfold fc;rw[if_pos T.1,ad,Nat.add_comm]
  rw[List.cons_append,uj hc ht];simp
def split_sp(r:Str):cW (32::r)=cW r:=sJ (.inl U)
def split_semi(r:Str):cW (59::r)=(cW r).map ([59]:: ·):=by
 have:fc 59 r=some 1:=by unfold fc;rw[if_neg dD,if_neg dD,if_neg dD];decide
 rw[uj dD this];rfl
def named_low{s:Str}(h:bF s=true):s≠ [] /\s.all iP=true/\ ∀w∈words,s≠w:=by
 simp only[bF,aE,decide_eq_true_eq,Bool.not_eq_true',List.any_eq_false,beq_iff_eq] at h;obtain⟨h1,h2,h3,h4⟩:=h;exact⟨fun e=>by rw[e] at h2;simp at h2,h1,fun w T e=>h4 w T e⟩
def at_not{w:Str}{x:List Str}{b:Bool}{u:Str}{us:List Str}(h:w≠u):ak ⟨w::x,b⟩ (u::us)=(false,⟨w::x,b⟩):=by
 unfold ak;dsimp only;split
 · rfl
 · rw[if_neg];intro e;rw[eqSl_iff] at e;rw[lC,List.take_succ_cons] at e;exact h (List.cons.inj e).1
def at_one{w:Str}{x:List Str}{b:Bool}:ak ⟨w::x,b⟩ [w] =(true,⟨x,b⟩):=by
 unfold ak;dsimp only;rw[if_neg sP,if_pos (by rw[eqSl_iff];simp)];simp
def at_two{w u:Str}{x:List Str}{b:Bool}:ak ⟨w::u::x,b⟩ [w,u] =(true,⟨x,b⟩):=by
 unfold ak;dsimp only;rw[if_neg sP,if_pos (by rw[eqSl_iff];simp)];simp
def name_read{s:Str}(h:bF s=true){x:List Str}:aq ⟨s::x,false⟩=(s,⟨x,false⟩):=by
 have h0:=(named_low h).1;have e:(⟨s::x,false⟩:Rd).front=s:=rfl;unfold aq eB;rw[e,if_neg h0];simp[h]
def list_one{α:Type}{f:Rd->α×Rd}{r:Rd}{a:α}{w:Str}{x:List Str}(T:r.bad=false)(hf:f r=(a,⟨w::x,false⟩))(hw:w≠ [44]):aP f r=([a],⟨w::x,false⟩):=by
 unfold aP dM;rw[if_neg (by rw[T];decide),hf];dsimp only;rw[at_not hw,if_neg Bool.false_ne_true];rfl
def script_one{l:List Str}{s:A9}(h:fe ⟨l,false⟩=(s,⟨[[59]],false⟩))(hl:l≠ [])(n:Nat):fH (n+2) [] ⟨l,false⟩=([s],⟨[],false⟩):=by
 unfold fH;rw[if_neg (by simp[hl]),h];dsimp only;unfold aL;rw[at_one,if_pos U];unfold fH;rw[if_pos (.inl U)];rfl
def ps_one{t:Str}{l:List Str}{s:A9}(hs:cW t=some l)(hl:l≠ [])(ht:t.length<=1500)(h:fe ⟨l,false⟩=(s,⟨[[59]],false⟩)):cj t=([s],0):=by
 have hn:l.length+1=(l.length - 1)+2:=by have:=gU hl;omega
 unfold cj nF;rw[if_neg C,hs];dsimp only;rw[hn,script_one h hl,if_neg Bool.false_ne_true,if_neg sP]
def split_name{s:Str}(h:bF s=true){r:Str}(hr:(r.headD 0|>iP)=false):cW (s++r)=(cW r).map (s:: ·):=split_low (named_low h).1 (named_low h).2.1 hr
def Up{α:Type}(f g:Rd->α×Rd):Prop:= ∀r,(f r).2.bad=false->g r=f r
section
variable {E:Ex}{a a' s s' t':Rd->Ex×Rd}{c x:List Str}{cndT t w:Str}{op:Int}{r:Rd}
def Up.trans{α:Type}{f g h:Rd->α×Rd}(a:Up f g)(b:Up g h):Up f h:=fun r hr=>by
 rw[b r (by rw[a r hr];exact hr),a r hr]
def Up.atom{o o':Rd->Ex×Rd}(h:Up o o'):Up (qe o) (qe o'):=fun r T=>by
 unfold qe at T|-;by_cases k:r.bad=true
 · rw[if_pos k,if_pos k]
 rw[if_neg k] at T|-;rw[if_neg k];by_cases k1:(ak r [[40]]).1=true
 · rw[if_pos k1] at T|-;rw[if_pos k1];dsimp only at T;rw[h _ ((Loc.take [[41]]).bd _ T)]
 · rw[if_neg k1,if_neg k1]
def Up.sumL(ha:Loc a)(h:Up a a'): ∀(n:Nat) (e:Ex),Up (lZ a n e) (lZ a' n e)
 |0,e=>fun r T=>rfl
 |n+1,e=>fun r T=>by
  unfold lZ at T|-;by_cases k:r.bad=true
  · rw[if_pos k,if_pos k]
  rw[if_neg k] at T|-;rw[if_neg k];by_cases k1:(ak r [[43]]).1=true
  · rw[if_pos k1] at T|-;rw[if_pos k1];rw[h _ ((Loc.sumL ha n _).bd _ T)];exact Up.sumL ha h n _ _ T
  rw[if_neg k1] at T|-;rw[if_neg k1];by_cases k2:(ak r [[45]]).1=true
  · rw[if_pos k2] at T|-;rw[if_pos k2];rw[h _ ((Loc.sumL ha n _).bd _ T)];exact Up.sumL ha h n _ _ T
  · rw[if_neg k2,if_neg k2]
def Up.sum(ha:Loc a)(h:Up a a'):Up (AC a) (AC a'):=fun r T=>by
 unfold AC at T|-;rw[h r ((Loc.sumL ha _ _).bd _ T)];exact Up.sumL ha h _ _ _ T
def Up.joinL(hw: ¬stp w)(hs:Loc s)(h:Up s s'): ∀(n:Nat) (e:Ex),Up (gw op w s n e) (gw op w s' n e)
 |0,e=>fun r T=>rfl
 |n+1,e=>fun r T=>by
  unfold gw at T|-;by_cases k:r.bad=true
  · rw[if_pos k,if_pos k]
  rw[if_neg k] at T|-;rw[if_neg k];by_cases k1:(ak r [w]).1=true
  · rw[if_pos k1] at T|-;rw[if_pos k1];rw[h _ ((Loc.joinL hw hs n _).bd _ T)];exact Up.joinL hw hs h n _ _ T
  · rw[if_neg k1,if_neg k1]
def Up.join(hw: ¬stp w)(hs:Loc s)(h:Up s s'):Up (nY op w s) (nY op w s'):=fun r T=>by
 unfold nY at T|-;rw[h r ((Loc.joinL hw hs _ _).bd _ T)];exact Up.joinL hw hs h _ _ _ T
def nst_and: ¬stp [97,110,100]:=by simp[stp]
def nst_or: ¬stp [111,114]:=by simp[stp]
def Up.or{t:Rd->Ex×Rd}(ht:Loc t)(h:Up t t'):Up (Mx t) (Mx t'):=Up.join nst_or (Loc.join nst_and ht) (Up.join nst_and ht h)
def Up.test{t:Rd->Ex×Rd}(ht:Up t t')(ls:Loc s)(hs:Up s s'):Up (pZ t s) (pZ t' s'):=fun r T=>by
 unfold pZ at T|-;by_cases k:r.bad=true
 · rw[if_pos k,if_pos k]
 rw[if_neg k] at T|-;rw[if_neg k];by_cases k1:(ak r [[110,111,116]]).1=true
 · rw[if_pos k1] at T|-;rw[if_pos k1];rw[ht _ T]
 rw[if_neg k1] at T|-;rw[if_neg k1];have e:(s r).2.bad=false->s' r=s r:=hs r;by_cases k2:(ak (s r).2 [[105,115],[110,117,108,108]]).1=true
 · rw[if_pos k2] at T;have ad:(s r).2.bad=false:=by rw[<-at_bd];exact T
   rw[e ad,if_pos k2,if_pos k2]
 rw[if_neg k2] at T;by_cases k3:(ak (s r).2 [[61]]).1=true
 · rw[if_pos k3] at T;have ar:=ls.bd _ T;have ad:(s r).2.bad=false:=by rw[<-at_bd];exact ar
   rw[e ad,if_neg k2,if_neg k2,if_pos k3,if_pos k3,hs _ T]
 rw[if_neg k3] at T;by_cases k4:(ak (s r).2 [[60]]).1=true
 · rw[if_pos k4] at T;have ar:=ls.bd _ T;have ad:(s r).2.bad=false:=by rw[<-at_bd];exact ar
   rw[e ad,if_neg k2,if_neg k2,if_neg k3,if_neg k3,if_pos k4,if_pos k4,hs _ T]
 rw[if_neg k4] at T;rw[e T,if_neg k2,if_neg k2,if_neg k3,if_neg k3,if_neg k4,if_neg k4]
def Up.tt: ∀k,Up (Lv k) (Lv (k+1))
 |0=>fun r T=>by cases T
 |k+1=>Up.test (Up.tt k) (Loc.sum (Loc.atom (Loc.o k))) (Up.sum (Loc.atom (Loc.o k)) (Up.atom (Up.or (Loc.tt k) (Up.tt k))))
def Up.o(k:Nat):Up (ma k) (ma (k+1)):=Up.or (Loc.tt k) (Up.tt k)
def Up.o6: ∀m k,k+m=6->Up (ma k) (ma 6)
 |0,k,h=>by cases h;exact fun r T=>rfl
 |m+1,k,h=>(Up.o k).trans (Up.o6 m (k+1) C)
def o_par(h:ma 6 ⟨c++ [[59]],false⟩=(E,⟨[[59]],false⟩)){k:Nat}(hk:k<=6){x:List Str}(T:(ma k ⟨c++ [41]::x,false⟩).2.bad=false):ma k ⟨c++ [41]::x,false⟩=(E,⟨[41]::x,false⟩):=by
 rw[<-Up.o6 (6 - k) k C _ T];exact(Loc.o 6).lc c [] [59] [] E (.inl U) h [41] x (.inr U)
def atom_par(h:ma 6 ⟨c++ [[59]],false⟩=(E,⟨[[59]],false⟩)){k:Nat}(hk:k<=6){x:List Str}(T:(qe (ma k) ⟨[40]::(c++ [41]::x),false⟩).2.bad=false):qe (ma k) ⟨[40]::(c++ [41]::x),false⟩=(E,⟨x,false⟩):=by
 unfold qe at T|-;rw[if_neg Bool.false_ne_true,at_one,if_pos U] at T|-;dsimp only at T|-;rw[o_par h hk ((Loc.take [[41]]).bd _ T)];dsimp only;unfold aL;rw[at_one,if_pos U]
def sum_par(h:ma 6 ⟨c++ [[59]],false⟩=(E,⟨[[59]],false⟩)){k:Nat}(hk:k<=6){w:Str}{x:List Str}(h1:w≠ [43])(h2:w≠ [45])(T:(AC (qe (ma k)) ⟨[40]::(c++ [41]::w::x),false⟩).2.bad=false):AC (qe (ma k)) ⟨[40]::(c++ [41]::w::x),false⟩=(E,⟨w::x,false⟩):=by
 unfold AC at T|-;rw[atom_par h hk ((Loc.sumL (Loc.atom (Loc.o k)) _ _).bd _ T)];dsimp only;unfold lZ;rw[if_neg Bool.false_ne_true,at_not h1,if_neg Bool.false_ne_true,at_not h2,if_neg Bool.false_ne_true]
def test_sum{t:Rd->Ex×Rd}(ls:Loc s)(h1:w≠ [110,111,116])(T:(pZ t s ⟨w::x,false⟩).2.bad=false):(s ⟨w::x,false⟩).2.bad=false:=by
 unfold pZ at T;rw[if_neg Bool.false_ne_true,at_not h1,if_neg Bool.false_ne_true] at T;split at T
 · rw[<-at_bd];exact T
 split at T
 · rw[<-at_bd];exact ls.bd _ T
 split at T
 · rw[<-at_bd];exact ls.bd _ T
 · exact T
def t_par(h:ma 6 ⟨c++ [[59]],false⟩=(E,⟨[[59]],false⟩)){k:Nat}(hk:k<=6)(T:(Lv (k+1) ⟨[40]::(c++ [[41],[59]]),false⟩).2.bad=false):Lv (k+1) ⟨[40]::(c++ [[41],[59]]),false⟩=(E,⟨[[59]],false⟩):=by
 have hs:=sum_par (x:= []) h hk (w:= [59]) dD dD (test_sum (Loc.sum (Loc.atom (Loc.o k))) dD T);show pZ (Lv k) (AC (qe (ma k))) _=_;unfold pZ;rw[if_neg Bool.false_ne_true,at_not dD,if_neg Bool.false_ne_true,hs];dsimp only;rw[at_not dD,if_neg Bool.false_ne_true,at_not dD,if_neg Bool.false_ne_true,at_not dD,if_neg Bool.false_ne_true]
def t_null(h:ma 6 ⟨c++ [[59]],false⟩=(E,⟨[[59]],false⟩)){k:Nat}(hk:k<=6)(T:(Lv (k+1) ⟨[40]::(c++ [[41],[105,115],[110,117,108,108],[59]]),false⟩).2.bad=false):Lv (k+1) ⟨[40]::(c++ [[41],[105,115],[110,117,108,108],[59]]),false⟩=(ex1 10 E,⟨[[59]],false⟩):=by
 have hs:=sum_par (x:= [[110,117,108,108],[59]]) h hk (w:= [105,115]) dD dD (test_sum (Loc.sum (Loc.atom (Loc.o k))) dD T);show pZ (Lv k) (AC (qe (ma k))) _=_;unfold pZ;rw[if_neg Bool.false_ne_true,at_not dD,if_neg Bool.false_ne_true,hs];dsimp only;rw[at_two,if_pos U]
def t_not(h:ma 6 ⟨c++ [[59]],false⟩=(E,⟨[[59]],false⟩)){k:Nat}(hk:k<=6)(T:(Lv (k+2) ⟨[110,111,116]:: [40]::(c++ [[41],[59]]),false⟩).2.bad=false):Lv (k+2) ⟨[110,111,116]:: [40]::(c++ [[41],[59]]),false⟩=(ex1 9 E,⟨[[59]],false⟩):=by
 have e:Lv (k+2) ⟨[110,111,116]:: [40]::(c++ [[41],[59]]),false⟩=(ex1 9 (Lv (k+1) ⟨[40]::(c++ [[41],[59]]),false⟩).1,(Lv (k+1) ⟨[40]::(c++ [[41],[59]]),false⟩).2):=by
  show pZ (Lv (k+1)) (AC (qe (ma (k+1)))) _=_;unfold pZ;rw[if_neg Bool.false_ne_true,at_one,if_pos U]
 rw[e] at T|-;rw[t_par h hk T]
def o_test{k:Nat}{e:Ex}(h:(Lv k r).2.bad=false->Lv k r=(e,⟨[59]::x,false⟩))(T:(ma k r).2.bad=false):ma k r=(e,⟨[59]::x,false⟩):=by
 have ha:(My (Lv k) r).2.bad=false->My (Lv k) r=(e,⟨[59]::x,false⟩):=fun T=>by
  unfold My nY at T|-;rw[h ((Loc.joinL nst_and (Loc.tt k) _ _).bd _ T)];dsimp only;unfold gw;rw[if_neg Bool.false_ne_true,at_not dD,if_neg Bool.false_ne_true]
 unfold ma Mx nY at T|-;rw[ha ((Loc.joinL nst_or (Loc.join nst_and (Loc.tt k)) _ _).bd _ T)];dsimp only;unfold gw;rw[if_neg Bool.false_ne_true,at_not dD,if_neg Bool.false_ne_true]
def selE(t:Str)(e:Ex):A9:={ia with kind:=7,frm:= [t],wh:=e}
def selW(t:Str)(c:List Str):List Str:=ji:: [42]::fi::t::rr::c
def stm_sel(ht:bF t=true){c:List Str}{e:Ex}(h:(ma 6 ⟨c,false⟩).2.bad=false->ma 6 ⟨c,false⟩=(e,⟨[[59]],false⟩))(T:(fe ⟨selW t c,false⟩).2.bad=false):fe ⟨selW t c,false⟩=(selE t e,⟨[[59]],false⟩):=by
 have hO:io ⟨[42]::fi::t::rr::c,false⟩=([],⟨fi::t::rr::c,false⟩):=by
  unfold io;rw[at_one,if_pos U]
 have hF:kP ⟨fi::t::rr::c,false⟩=([t],⟨rr::c,false⟩):=by
  unfold kP aL;rw[at_one,if_pos U];exact list_one U (name_read ht) dD
 have hW:dh ⟨rr::c,false⟩=ma 6 ⟨c,false⟩:=by
  unfold dh;rw[at_one,if_pos U]
 have e0:fe ⟨selW t c,false⟩=mC ⟨[42]::fi::t::rr::c,false⟩:=by
  unfold fe selW;rw[at_not dD,if_neg Bool.false_ne_true,at_not dD,if_neg Bool.false_ne_true,at_not dD,if_neg Bool.false_ne_true,at_not dD,if_neg Bool.false_ne_true,at_not dD,if_neg Bool.false_ne_true,
   at_not dD,if_neg Bool.false_ne_true,at_one,if_pos U]
 rw[e0] at T|-;unfold mC at T|-;rw[hO] at T|-;dsimp only at T|-;rw[hF] at T|-;dsimp only at T|-;rw[hW] at T|-;have h1:=Loc.limit.bd _ T;have h2:=Loc.ord.bd _ h1;rw[h h2];dsimp only;have hR:jJ ⟨[[59]],false⟩=(([],false),⟨[[59]],false⟩):=by
  unfold jJ;rw[at_not dD,if_neg Bool.false_ne_true]
 have hL:ip ⟨[[59]],false⟩=(-1,⟨[[59]],false⟩):=by
  unfold ip;rw[at_not dD,if_neg Bool.false_ne_true]
 rw[hR];dsimp only;rw[hL];rfl
def takeBad{ws:List Str}(h:r.bad=true):(aL r ws).bad=true:=by
 cases T:(aL r ws).bad with
 |true=>rfl
 |false=>have:=(Loc.take ws).bd r T;rw[h] at this;cases this
def ps_two{l:List Str}{s:A9}(hs:cW t=some l)(hl:l≠ [])(h:(fe ⟨l,false⟩).2.bad=false->fe ⟨l,false⟩=(s,⟨[[59]],false⟩)):cj t=([s],0)\/(cj t).2≠0:=by
 by_cases hn:t.length<=1500
 · cases T:(fe ⟨l,false⟩).2.bad with
   |false=>exact .inl (ps_one hs hl hn (h T))
   |true=>
    right
    have hB:(fH (l.length+1) [] ⟨l,false⟩).2.bad=true:=by
     unfold fH;rw[if_neg (by simp[hl]),scriptL_of_bad (takeBad T)];exact takeBad T
    unfold cj nF;rw[if_neg C,hs];dsimp only;rw[if_pos hB];decide
 · right
   unfold cj;rw[if_pos C];decide
def tok_cut{c:UInt8}{r:Str}{n:Nat}(h:fc c (r++ [59])=some n)(y:Str):n<=r.length+1/\fc c (r++41::y)=some n:=by
 have T: ∀(p:UInt8->Bool),p 59=false->p 41=false-> ∀r:Str,(r++ [59]).takeWhile p=r.takeWhile p/\(r++41::y).takeWhile p=r.takeWhile p:=fun p h1 h2 r=>by
  induction r with
  |nil=>simp[h1,h2]
  |cons a r ih=>cases ha:p a<;>simp[ha,ih]
 have tl: ∀(p:UInt8->Bool) (r:Str),(r.takeWhile p).length<=r.length:=fun p r=>(List.takeWhile_prefix p).length_le
 have ad: ∀r:Str,0<=Lib.indexByte (r++ [59]) 39->Lib.indexByte (r++ [59]) 39=Lib.indexByte r 39/\Lib.indexByte r 39<r.length:=fun r=>by
  induction r with
  |nil=>intro h;exact absurd h dD
  |cons a r ih=>
   intro h;rw[List.cons_append] at h|-;unfold Lib.indexByte at h|-;by_cases ha:(a==39)=true
   · rw[if_pos ha,if_pos ha];exact⟨rfl,by simp⟩
   rw[if_neg ha] at h|-;rw[if_neg ha];have g:=Lib.indexByte_ge (r++ [59]) 39;by_cases hm:Lib.indexByte (r++ [59]) 39= -1
   · rw[if_pos (by simpa using hm)] at h;omega
   · have i:=ih C;rw[i.1] at hm|-;rw[if_neg (by simpa using hm),lC];exact⟨rfl,by have:=i.2;omega⟩
 unfold fc at h|-;by_cases h1:iP c=true
 · rw[if_pos h1] at h|-;injection h with h
   have k:=T iP dD dD r;have:=tl iP r;rw[k.1] at h;rw[k.2];exact⟨by omega,by rw[h]⟩
 rw[if_neg h1] at h|-;by_cases h2:lb c=true
 · rw[if_pos h2] at h|-;injection h with h
   have k:=T lb dD dD r;have:=tl lb r;rw[k.1] at h;rw[k.2];exact⟨by omega,by rw[h]⟩
 rw[if_neg h2] at h|-;by_cases h3:c=39
 · rw[if_pos h3] at h|-;by_cases h4:Lib.indexByte (r++ [59]) 39<0
   · rw[if_pos h4] at h;cases h
   rw[if_neg h4] at h;injection h with h
   obtain⟨i1,i2⟩:=ad r C;have i3:=ixb_app r (41::y) 39 C;rw[i3,if_neg C,<-i1,h];exact⟨by omega,rfl⟩
 rw[if_neg h3] at h|-;split at h
 · rename_i h5;rw[if_pos h5];injection h with h
   exact⟨by omega,by rw[h]⟩
 · cases h
def split_cut(y:Str): ∀(k:Nat) (a:Str) (l:List Str),a.length<=k->cW (a++ [59])=some l-> ∃m,l=m++ [[59]] /\cW (a++41::y)=(cW y).map (m++ [41]:: ·)
 |_,[],l,_,h=>by
  rw[List.nil_append,split_semi,rB] at h;injection h with h
  refine⟨[],h.symm,?_⟩;have:fc 41 y=some 1:=by unfold fc;rw[if_neg dD,if_neg dD,if_neg dD];decide
  rw[List.nil_append,uj dD this];rfl
 |0,c::r,l,hk,_=>by simp at hk
 |k+1,c::r,l,hk,h=>by
  simp only[lC] at hk;rw[List.cons_append] at h|-;by_cases T:c=32\/c=10
  · rw[sJ T] at h|-;exact split_cut y k r l C h
  cases ht:fc c (r++ [59]) with
  |none=>rw[ul T ht] at h;cases h
  |some n=>
   obtain⟨n1,n2⟩:=tok_cut ht y;have n0:=yz ht;rw[uj T ht,<-List.cons_append,List.drop_append_of_le_length (by simpa using n1),tA (by simpa using n1)] at h;rw[uj T n2,<-List.cons_append,List.drop_append_of_le_length (by simpa using n1),tA (by simpa using n1)];cases hs:cW ((c::r).drop n++ [59]) with
   |none=>rw[hs] at h;cases h
   |some l'=>
    rw[hs] at h;injection h with h
    obtain⟨m,e1,e2⟩:=split_cut y k ((c::r).drop n) l' (by simp only[lD,lC];omega) hs;refine⟨(c::r).take n::m,by rw[<-h,e1];rfl,?_⟩;rw[e2];cases cW y<;>rfl
def split_one{w:UInt8}(h1: ¬(w=32\/w=10))(h2:iP w=false)(h3:lb w=false)(h4:w≠39)(h5:0<=Lib.indexByte DX w)(r:Str):cW (w::r)=(cW r).map ([w]:: ·):=by
 have:fc w r=some 1:=by unfold fc;rw[if_neg (by rw[h2];decide),if_neg (by rw[h3];decide),if_neg h4,if_pos h5]
 rw[uj h1 this];rfl
def split_sel(ht:bF t=true)(r:Str):cW (ji++32::42::32::(fi++32::(t++32::(rr++32::r))))=(cW r).map (selW t):=by
 rw[split_low dD dD U,split_sp,split_one dD dD dD dD dD,split_sp,split_low dD dD U,split_sp,split_name ht U,split_sp,split_low dD dD U,split_sp];cases cW r<;>rfl
def split_all(ht:bF t=true):cW (ji++32::42::32::(fi++32::(t++ [59])))=some [ji,[42],fi,t,[59]]:=by
 rw[split_low dD dD U,split_sp,split_one dD dD dD dD dD,split_sp,split_low dD dD U,split_sp,split_name ht U,split_semi,rB];rfl
def stm_all(ht:bF t=true):fe ⟨[ji,[42],fi,t,[59]],false⟩=(selE t nilE,⟨[[59]],false⟩):=by
 have hO:io ⟨[[42],fi,t,[59]],false⟩=([],⟨[fi,t,[59]],false⟩):=by
  unfold io;rw[at_one,if_pos U]
 have T:kP ⟨[fi,t,[59]],false⟩=([t],⟨[[59]],false⟩):=by
  unfold kP aL;rw[at_one,if_pos U];exact list_one U (name_read ht) dD
 have hW:dh ⟨[[59]],false⟩=(nilE,⟨[[59]],false⟩):=by
  unfold dh;rw[at_not dD,if_neg Bool.false_ne_true]
 have hR:jJ ⟨[[59]],false⟩=(([],false),⟨[[59]],false⟩):=by
  unfold jJ;rw[at_not dD,if_neg Bool.false_ne_true]
 have hL:ip ⟨[[59]],false⟩=(-1,⟨[[59]],false⟩):=by
  unfold ip;rw[at_not dD,if_neg Bool.false_ne_true]
 unfold fe;rw[at_not dD,if_neg Bool.false_ne_true,at_not dD,if_neg Bool.false_ne_true,at_not dD,if_neg Bool.false_ne_true,at_not dD,if_neg Bool.false_ne_true,at_not dD,if_neg Bool.false_ne_true,
  at_not dD,if_neg Bool.false_ne_true,at_one,if_pos U]
 unfold mC;rw[hO];dsimp only;rw[T];dsimp only;rw[hW];dsimp only;rw[hR];dsimp only;rw[hL];rfl
def named_len8(ht:bF t=true):t.length<=8:=by simp only[bF,aE,decide_eq_true_eq] at ht;exact ht.2.2.1
def ps_all(ht:bF t=true):cj (ji++32::42::32::(fi++32::(t++ [59])))=([selE t nilE],0):=
 ps_one (split_all ht) sP (by have:=named_len8 ht;simp[ji,fi];omega) (stm_all ht)
def ps_del(ht:bF t=true){s:A9}(h:cj (fj++32::(fi++32::(t++32::(rr++32::(cndT++ [59])))))=([s],0)):
 ∃(E:Ex) (m:List Str),ma 6 ⟨m++ [[59]],false⟩=(E,⟨[[59]],false⟩)/\ ∀y,cW (cndT++41::y)=(cW y).map (m++ [41]:: ·):=by
 obtain⟨hn,_,l,hs,hp,hb⟩:=ps_parts h;rw[split_low dD dD U,split_sp,split_low dD dD U,split_sp,split_name ht U,split_sp,split_low dD dD U,split_sp] at hs;cases hc:cW (cndT++ [59]) with
 |none=>rw[hc] at hs;cases hs
 |some c=>
  rw[hc] at hs;injection hs with hs
  subst hs;have e0:fH ((fj::fi::t::rr::c).length+1) [] ⟨fj::fi::t::rr::c,false⟩=fH (c.length+4) [(fe ⟨fj::fi::t::rr::c,false⟩).1] (aL (fe ⟨fj::fi::t::rr::c,false⟩).2 [[59]]):=by
   conv=>lhs;unfold fH
   rw[if_neg sP];rfl
  rw[e0] at hb hp;have h1:=scriptL_bd _ _ _ hb;obtain⟨x,T,e2⟩:=take_semi h1;rw[e2,scriptL_acc] at hp;have hx:x= []:=by
   cases x with
   |nil=>rfl
   |cons a x=>
    exfalso;have:=congrArg (fun p=>p.1.length) hp;rw[show c.length+4=(c.length+3)+1 from rfl] at this;conv at this=>lhs;unfold fH
    rw[if_neg sP,scriptL_acc] at this;simp at this
  subst hx;have e3:fe ⟨fj::fi::t::rr::c,false⟩=mG ⟨t::rr::c,false⟩:=by
   unfold fe;rw[at_not dD,if_neg Bool.false_ne_true,at_not dD,if_neg Bool.false_ne_true,at_not dD,if_neg Bool.false_ne_true,at_not dD,if_neg Bool.false_ne_true,at_two,if_pos U]
  have hW:dh ⟨rr::c,false⟩=ma 6 ⟨c,false⟩:=by
   unfold dh;rw[at_one,if_pos U]
  rw[e3] at T;unfold mG at T;rw[name_read ht] at T;dsimp only at T;rw[hW] at T;obtain⟨m0,e4⟩:=((Loc.o 6).sf ⟨c,false⟩).h;rw[T] at e4;dsimp only at e4;refine⟨(ma 6 ⟨c,false⟩).1,m0,by rw[e4];exact Prod.ext U T,fun y=> ?_⟩;obtain⟨m,f1,f2⟩:=split_cut y cndT.length cndT c nR hc;have:m=m0:=List.append_cancel_right (f1.symm.trans e4.symm);rw[<-this];exact f2
def ps_three(ht:bF t=true){s:A9}(h:cj (fj++32::(fi++32::(t++32::(rr++32::(cndT++ [59])))))=([s],0)):
 ∃E:Ex,(cj (ji++32::42::32::(fi++32::(t++32::(rr++32::40::(cndT++ [41,59])))))=([selE t E],0)\/(cj (ji++32::42::32::(fi++32::(t++32::(rr++32::40::(cndT++ [41,59])))))).2≠0)/\
  (cj (ji++32::42::32::(fi++32::(t++32::(rr++32::([110,111,116] ++32::40::(cndT++ [41,59]))))))=([selE t (ex1 9 E)],0)\/(cj (ji++32::42::32::(fi++32::(t++32::(rr++32::([110,111,116] ++32::40::(cndT++ [41,59]))))))).2≠0)/\
  (cj (ji++32::42::32::(fi++32::(t++32::(rr++32::40::(cndT++41::32::([105,115] ++32::([110,117,108,108] ++ [59])))))))=([selE t (ex1 10 E)],0)\/(cj (ji++32::42::32::(fi++32::(t++32::(rr++32::40::(cndT++41::32::([105,115] ++32::([110,117,108,108] ++ [59])))))))).2≠0):=by
 obtain⟨E,m,hE,hs⟩:=ps_del ht h;have T: ∀r,cW (40::r)=(cW r).map ([40]:: ·):=split_one dD dD dD dD dD;refine⟨E,?_,?_,?_⟩
 · refine ps_two (l:=selW t ([40]::(m++ [[41],[59]]))) (by rw[split_sel ht,T,hs [59],split_semi,rB];rfl) (by simp[selW]) (stm_sel ht (o_test (k:=6) (t_par (k:=5) hE dD)))
 · refine ps_two (l:=selW t ([110,111,116]:: [40]::(m++ [[41],[59]]))) (by rw[split_sel ht,split_low dD dD U,split_sp,T,hs [59],split_semi,rB];rfl) (by simp[selW]) (stm_sel ht (o_test (k:=6) (t_not (k:=4) hE dD)))
 · refine ps_two (l:=selW t ([40]::(m++ [[41],[105,115],[110,117,108,108],[59]]))) (by rw[split_sel ht,T,hs (32::([105,115] ++32::([110,117,108,108] ++ [59]))),split_sp,split_low dD dD U,split_sp,split_low dD dD U,split_semi,rB];rfl) (by simp[selW]) (stm_sel ht (o_test (k:=6) (t_null (k:=5) hE dD)))
end
def bind_sel(c:B0)(t:Str)(e:Ex):(aJ c (selE t e)).2≠0\/((ab c t).2=true/\gh c (selE t e)=true/\(dN [(ab c t).1] e).2=0/\aJ c (selE t e)=({selE t (dN [(ab c t).1] e).1 with out:=fh [(ab c t).1] 0},0)):=by
 by_cases hf:gh c (selE t e)=false
 · left;unfold aJ;rw[if_pos hf];show(1:Int)≠0;decide
 have hp:aJ c (selE t e)=if(iH c (selE t e)).2≠0 then(La,(iH c (selE t e)).2) else((iH c (selE t e)).1,0):=by
  unfold aJ;rw[if_neg hf];rfl
 cases hF:(ab c t).2 with
 |false=>
  have hA:eG ([t].zipIdx.map fun p=>(ce c [t] p).2)=3:=by simp[List.zipIdx,ce,hF,eG]
  have hc:iH c (selE t e)=(selE t e,3):=by
   unfold iH selE ia;dsimp only;rw[if_neg sP,hA,if_pos (by show(3:Int)≠0;decide)]
  left
  rw[hp,hc,if_pos (by show(3:Int)≠0;decide)];show(3:Int)≠0;decide
 |true=>
  have hA:eG ([t].zipIdx.map fun p=>(ce c [t] p).2)=0:=by simp[List.zipIdx,ce,hF,eG]
  have hT:([t].zipIdx.map fun p=>(ce c [t] p).1)= [(ab c t).1]:=by simp[List.zipIdx,sW]
  have hc:iH c (selE t e)=({selE t (dN [(ab c t).1] e).1 with out:=fh [(ab c t).1] 0},(dN [(ab c t).1] e).2):=by
   unfold iH selE ia;dsimp only;rw[if_neg sP,hA,if_neg dD,hT];rfl
  by_cases T:(dN [(ab c t).1] e).2=0
  · right
    refine⟨rfl,by simpa using hf,T,?_⟩;rw[hp,hc,if_neg (by simpa using T)]
  · left
    rw[hp,hc,if_pos T];exact T
def ne_pair{α:Type}{a:α}{b:Int}{p:α×Int}(h:p=(a,b)):p.2=b:=by rw[h]
def rise_uniq{α:Type}{R:α->α->Prop}(ha: ∀a b,R a b-> ¬R b a): ∀{l m:List α},l.Pairwise R->m.Pairwise R->(∀x,x∈l↔x∈m)->l=m
 | [],[],_,_,_=>rfl
 | [],b::m,_,_,h=>by have:=(h b).2 (List.mem_cons_self ..);cases this
 |a::l,[],_,_,h=>by have:=(h a).1 (List.mem_cons_self ..);cases this
 |a::l,b::m,h1,h2,h=>by
  obtain⟨p1,p2⟩:=List.pairwise_cons.1 h1;obtain⟨q1,q2⟩:=List.pairwise_cons.1 h2;have e:a=b:=by
   rcases List.mem_cons.1 ((h a).1 (List.mem_cons_self ..)) with e|h3
   · exact e
   rcases List.mem_cons.1 ((h b).2 (List.mem_cons_self ..)) with e|h4
   · exact e.symm
   · exact absurd (q1 a h3) (ha _ _ (p1 b h4))
  subst e;have hi: ¬R a a:=fun k=>ha a a k k
  rw[rise_uniq ha p2 q2 (fun x=>⟨fun T=> ?_,fun T=> ?_⟩)]
  · rcases List.mem_cons.1 ((h x).1 (List.mem_cons_of_mem _ T)) with e|k
    · subst e;exact absurd (p1 x T) hi
    · exact k
  · rcases List.mem_cons.1 ((h x).2 (List.mem_cons_of_mem _ T)) with e|k
    · subst e;exact absurd (q1 x T) hi
    · exact k
section
variable {c:B0}{ps:List Pg}{D:Str->List (List A3)}
def chosen_rise(h:DB c ps D){t:A4}(ht:t∈c.ts)(e:Ex):(cG c ps t e).Pairwise (fun x y=>rW x y<0):=by
 obtain⟨_,P,hp,_⟩:=BL h ht [] e;have hd:(ci ps t (bO c t 0 e)).Pairwise (fun r r'=>r.getD 0 af≠r'.getD 0 af):=(hp.pairwise_iff (fun k=>Ne.symm k)).2 ((h.dis t ht).filter _);have T:(cG c ps t e).Pairwise (fun r r'=>r.getD 0 af≠r'.getD 0 af):=((List.mergeSort_perm _ _).pairwise_iff (fun k=>Ne.symm k)).2 (hd.filter _);have hs:(cG c ps t e).Pairwise (fun x y=>cL rW x y=true):=List.pairwise_mergeSort (le:=cL rW)
  (fun a b c h1 h2=>by
    simp only[cL,Bool.not_eq_true',decide_eq_false_iff_not] at h1 h2|-;have:=ord_keyF.tr a b c (by have:=ord_keyF.anti a b;omega) (by have:=ord_keyF.anti b c;omega);have:=ord_keyF.anti a c;omega)
  (fun a b=>by
    have:=ord_keyF.anti a b;simp only[cL,Bool.or_eq_true,Bool.not_eq_true',decide_eq_false_iff_not];omega) _
 refine(T.and hs).imp (fun{a b} k=> ?_);obtain⟨k1,k2⟩:=k;simp only[cL,Bool.not_eq_true',decide_eq_false_iff_not] at k2;have:=ord_keyF.anti a b;have:rW a b≠0:=fun k3=>k1 (nz k3)
 omega
def key_asym(a b:List A3)(h:rW a b<0): ¬rW b a<0:=by have:=ord_keyF.anti a b;omega
def chosen_filter(h:DB c ps D){t:A4}(ht:t∈c.ts)(e:Ex):cG c ps t e=(cG c ps t nilE).filter (bL e):=by
 refine rise_uniq key_asym (chosen_rise h ht e) ((chosen_rise h ht nilE).filter _) (fun x=> ?_);rw[List.mem_filter,nA h ht,nA h ht];exact⟨fun k=>⟨⟨k.1,rfl⟩,k.2⟩,fun k=>⟨k.1.1,k.2⟩⟩
def out_all{t:A4}{x:List A3}(hx:x.length=t.cols.length):(fh [t] 0).map (aC x)=x:=by
 have e:fh [t] 0=t.cols.zipIdx.map (tB t 0):=by simp[fh]
 rw[e];apply List.ext_getElem?;intro i;rw[gP,gP,List.getElem?_zipIdx];cases hc:t.cols[i]? with
 |none=>
  have:=gO hc;rw[List.getElem?_eq_none_iff.2 C];rfl
 |some cl=>
  have:=(gS hc).1;obtain⟨v,T⟩: ∃v,x[i]?=some v:=⟨_,gG C⟩
  rw[T];show some (aC x (tB t 0 (cl,0+i)))=some v;have e2:aC x (tB t 0 (cl,0+i))=uH (((0:Nat):Int)+((0+i:Nat):Int)) x:=by
   unfold tB;rw[eP,oC]
  rw[e2];unfold uH;rw[if_pos C,show(((0:Nat):Int)+((0+i:Nat):Int)).toNat=i by omega,T];rfl
def sel_chosen(h:DB c ps D){t:Str}(ht:(ab c t).1∈c.ts)(w:Ex):jM c ps {selE t w with out:=fh [(ab c t).1] 0}=cG c ps (ab c t).1 w:=by
 have T: ∀J,og c ps {selE t w with out:=fh [(ab c t).1] 0} J=J:=fun J=>by
  unfold og;rw[if_neg (by simp[selE])]
 have ho: ∀W,dc {selE t w with out:=fh [(ab c t).1] 0} W=rW:=fun W=>by
  funext x y
  unfold dc;rw[if_neg (by simp[selE,ia,qF]),if_pos (.inr (by simp[selE]))];rfl
 have hl: ∀l,qN {selE t w with out:=fh [(ab c t).1] 0} l=l:=fun l=>by
  unfold qN;exact if_neg (by simp[selE,ia])
 unfold jM Al;rw[T,ho,hl];show(cG c ps (ab c t).1 w).map (yQ {selE t w with out:=fh [(ab c t).1] 0})=_;conv=>rhs;rw[<-List.map_id (cG c ps (ab c t).1 w)]
 refine List.map_congr_left (fun x hx=> ?_);have hm:=((nA h ht w x).1 hx).1;exact out_all (h.fit _ ht x hm).1
def one_of_three{ts:List A4}{row:List A3}(hr:KL ts row){E:Ex}{ty:Int}{b:Ex}(h0:E.op≠0)(hg:E.op=1->au E.v=true)(hb:an ts E=(b,ty,0))(T:ty=3\/ty=0)(ad:b.op=E.op):
 (bL b row=true/\bL (ex1 9 b) row=false/\bL (ex1 10 b) row=false)\/(bL b row=false/\bL (ex1 9 b) row=true/\bL (ex1 10 b) row=false)\/(bL b row=false/\bL (ex1 9 b) row=false/\bL (ex1 10 b) row=true):=by
 have hk:=(FQ hr hg hb).1;have e9:aC row (ex1 9 b)=dW (uU (rm (aC row b))):=by
  unfold ex1;rw[eP,jO _ _ _ _ dD dD];rfl
 have ar:aC row (ex1 10 b)=dW (yT ((aC row b).k==0)):=by
  unfold ex1;rw[eP,jO _ _ _ _ dD dD];rfl
 have q1:bL b row=(rm (aC row b)==1):=by
  unfold bL;rw[show(b.op==0)=false by rw[ad];simpa using h0];rfl
 have q9:bL (ex1 9 b) row=(rm (dW (uU (rm (aC row b))))==1):=by unfold bL;rw[e9];rfl
 have aR:bL (ex1 10 b) row=(rm (dW (yT ((aC row b).k==0)))==1):=by unfold bL;rw[ar];rfl
 rw[q1,q9,aR];generalize aC row b=v at*
 have a0:v.k=0\/v.k=3:=by
  rcases hk with h|h
  · exact .inl h
  · rcases T with k|k
    · exact .inr (h.trans k)
    · exact .inl (h.trans k)
 rcases a0 with h|h
 · right;right
   have o1:rm v=2:=by unfold rm;rw[if_neg C]
   rw[o1,h];exact⟨by decide,by decide,by decide⟩
 · have o1:rm v=v.n % 2:=by unfold rm;rw[if_pos h]
   rw[o1,h];have h2:v.n % 2=0\/v.n % 2=1:=C;rcases h2 with h2|h2<;>rw[h2]
   · right;left;exact⟨by decide,by decide,by decide⟩
   · left;exact⟨by decide,by decide,by decide⟩
end
def bind_op{ts:List A4}{E b:Ex}{ty:Int}(h:an ts E=(b,ty,0)):b.op=E.op/\E.op≠0:=by
 obtain⟨op,v,s,name,n,l⟩:=E;rw[iJ] at h;unfold bQ at h;repeat' split at h
 all_goals(simp only[Prod.mk.injEq,wC] at h)
 all_goals first
  |(exfalso;omega)
  |(obtain⟨h1,_,h3⟩:=h;rw[<-h1];refine⟨rfl,?_⟩;show op≠0;omega)
def bind_one{ts:List A4}{E:Ex}{op:Int}(ad:op=9\/op=10)(T:(an ts (ex1 op E)).2.2=0):(an ts E).2.2=0/\(an ts (ex1 op E)).1=ex1 op (an ts E).1:=by
 unfold ex1 at T|-;rw[iJ] at T|-;have he:eG ([E].map fun x=>(an ts x).2.2)=(an ts E).2.2:=by
  by_cases k:(an ts E).2.2=0
  · simp[eG,k]
  · simp[eG,k]
 rw[he] at T|-;unfold bQ at T|-;by_cases k:(an ts E).2.2≠0
 · rw[if_pos k] at T;exact absurd T k
 rw[if_neg k] at T|-;have k0:=Decidable.not_not.1 k;refine⟨k0,?_⟩;rcases ad with rfl|rfl
 · rw[if_neg dD,if_neg dD,if_neg dD,if_neg dD,if_pos dD] at T|-;split at T
   · rename_i k2;rw[if_pos k2];rfl
   · cases T
 · rw[if_neg dD,if_neg dD,if_neg dD,if_neg dD,if_neg dD,if_pos dD];rfl
structure I7 (R A B C:List (List A3)):Prop where
 p: ∃a b c:List A3->Bool,A=R.filter a/\B=R.filter b/\C=R.filter c/\ ∀x∈R,(a x=true/\b x=false/\c x=false)\/(a x=false/\b x=true/\c x=false)\/(a x=false/\b x=false/\c x=true)
 rise:R.Pairwise (fun x y=>rW x y<0)
 wide: ∃w,1<=w/\w<=4/\ ∀x∈R,x.length=w
 few:R.length<=30
def where_op{ts:List A4}{e:Ex}(h0:e.op≠0)(h:(dN ts e).2=0): ∃ty,an ts e=((dN ts e).1,ty,0)/\(ty=3\/ty=0):=by
 unfold dN at h|-;rw[if_neg h0] at h|-;unfold dw at h|-;split at h
 · rename_i k;exact absurd h k
 rename_i k;rw[if_neg k];split at h
 · cases h
 rename_i T;rw[if_neg T];refine⟨(an ts e).2.1,Prod.ext U (Prod.ext U (Decidable.not_not.1 k)),?_⟩;simp only[aE,bne_iff_ne,ne_eq,not_and,Decidable.not_not] at T;by_cases k3:(an ts e).2.1=3
 · exact .inl k3
 · exact .inr (T k3)
def three_law{c:B0}{ps:List Pg}{D:Str->List (List A3)}(h:EI c ps D){t:Str}{E:Ex}{s0 s1 s2 s3:A9}(b0:aJ c (selE t nilE)=(s0,0))(b1:aJ c (selE t E)=(s1,0))(b2:aJ c (selE t (ex1 9 E))=(s2,0))(b3:aJ c (selE t (ex1 10 E))=(s3,0)):
 I7 (jM c ps s0) (jM c ps s1) (jM c ps s2) (jM c ps s3)/\s0.kind=7/\s1.kind=7/\s2.kind=7/\s3.kind=7:=by
 have G: ∀{e:Ex} {s:A9},aJ c (selE t e)=(s,0)->(ab c t).2=true/\gh c (selE t e)=true/\(dN [(ab c t).1] e).2=0/\s={selE t (dN [(ab c t).1] e).1 with out:=fh [(ab c t).1] 0}:=fun{e s} hb=>by
  rcases bind_sel c t e with k|⟨k1,k2,k3,k4⟩
  · exact absurd (ne_pair hb) k
  · rw[k4] at hb;exact⟨k1,k2,k3,(Prod.mk.inj hb).1.symm⟩
 obtain⟨hF,_,_,rfl⟩:=G b0;obtain⟨_,f1,w1,rfl⟩:=G b1;obtain⟨_,f2,w2,rfl⟩:=G b2;obtain⟨_,f3,w3,rfl⟩:=G b3;have hm:=(bU hF).1;refine⟨?_,rfl,rfl,rfl,rfl⟩;rw[sel_chosen h.db hm,sel_chosen h.db hm,sel_chosen h.db hm,sel_chosen h.db hm];have e0:(dN [(ab c t).1] nilE).1=nilE:=rfl;rw[e0,chosen_filter h.db hm (dN [(ab c t).1] E).1,chosen_filter h.db hm (dN [(ab c t).1] (ex1 9 E)).1,chosen_filter h.db hm (dN [(ab c t).1] (ex1 10 E)).1];obtain⟨aR,c2,_⟩:=where_op (e:=ex1 9 E) (by show(9:Int)≠0;decide) w2;obtain⟨g1,g2⟩:=bind_one (.inl U) (by rw[c2]);have hE:an [(ab c t).1] E=((an [(ab c t).1] E).1,(an [(ab c t).1] E).2.1,0):=Prod.ext U (Prod.ext U g1);obtain⟨i1,i2⟩:=bind_op hE;obtain⟨a0,c1,ad⟩:=where_op i2 w1;obtain⟨a1,c3,_⟩:=where_op (e:=ex1 10 E) (by show(10:Int)≠0;decide) w3;obtain⟨_,g3⟩:=bind_one (.inr U) (by rw[c3]);rw[c2] at g2;dsimp only at g2;rw[c3] at g3;dsimp only at g3;have g4:(an [(ab c t).1] E).1=(dN [(ab c t).1] E).1:=by rw[c1]
 rw[g4] at g2 g3 i1;rw[g2,g3];have T:E.op=1->au E.v=true:=by
  refine vu (d:=1) ?_;simp only[gh,Bool.not_eq_true',Bool.or_eq_false_iff] at f1;have:=f1.2;rw[List.any_eq_false] at this;have:=this E (by unfold dq selE;simp[i2]);simpa using this
 refine⟨⟨_,_,_,rfl,rfl,rfl,fun x hx=> ?_⟩,chosen_rise h.db hm nilE,⟨_,(h.db.cat.wide hm).1,(h.db.cat.wide hm).2,fun x hx=>(h.db.fit _ hm x ((nA h.db hm nilE x).1 hx).1).1⟩,vR h hm nilE⟩;have ar:=((nA h.db hm nilE x).1 hx).1;exact one_of_three (Hj (h.fits _ hm x ar)) i2 T c1 ad i1
def filter_at{R:List (List A3)}{p:List A3->Bool}{n:Nat}{x:List A3}(hx:R[n]?=some x)(hp:p x=true):(R.filter p)[((R.take n).filter p).length]?=some x/\((R.take (n+1)).filter p).length=((R.take n).filter p).length+1:=by
 have hs:R=R.take n++x::R.drop (n+1):=by
  have hn:=(gS hx).1;conv=>lhs;rw[<-List.take_append_drop n R,List.drop_eq_getElem_cons hn]
  rw[(gS hx).2]
 have ht:R.take (n+1)=R.take n++ [x]:=by rw[List.take_add_one,hx];rfl
 refine⟨?_,by rw[ht,List.filter_append];simp[hp]⟩;conv=>lhs;rw[hs]
 rw[List.filter_append,List.filter_cons,if_pos hp];have:R.take n=R.take n:=rfl;generalize hT:(R.take n).filter p=T;have e2:(R.take n++x::R.drop (n+1)).take n=R.take n:=by rw[<-hs]
 rw[e2,hT];simp
def filter_no{R:List (List A3)}{p:List A3->Bool}{n:Nat}{x:List A3}(T:R[n]?=some x)(hp:p x=false):((R.take (n+1)).filter p).length=((R.take n).filter p).length:=by
 have ht:R.take (n+1)=R.take n++ [x]:=by rw[List.take_add_one,T];rfl
 rw[ht,List.filter_append];simp[hp]
def filter_next{R:List (List A3)}{p:List A3->Bool}{n:Nat}{x y:List A3}(hr:R.Pairwise (fun x y=>rW x y<0))(hx:R[n]?=some x)(hp:p x=false)(hy:(R.filter p)[((R.take n).filter p).length]?=some y):y∈R/\rW x y<0:=by
 have hs:R=R.take n++x::R.drop (n+1):=by
  have hn:=(gS hx).1;conv=>lhs;rw[<-List.take_append_drop n R,List.drop_eq_getElem_cons hn]
  rw[(gS hx).2]
 have hm:y∈R:=(List.mem_filter.1 (gE hy)).1;refine⟨hm,?_⟩;generalize hk:((R.take n).filter p).length=k at hy;generalize hT:R.take n=T at*
 generalize R.drop (n+1)=Uu at*
 subst hs;rw[List.filter_append,List.filter_cons,if_neg (by rw[hp];decide),List.getElem?_append_right C] at hy;have h1:=gE hy;have h2:=(List.mem_filter.1 h1).1;rw[List.pairwise_append] at hr;exact(List.pairwise_cons.1 hr.2.1).1 y h2
end Go.Proofs.Y
namespace Go.Proofs.Y
open Go.Abs Go.Proofs.Tryz
attribute [local irreducible] L Code.wp bodyPost Exit.then Exit.inBlock
def sq_bad{c:B0}{ps:List Pg}{X:Str}{s:A9}(hX:cj X=([s],0))(T:(aJ c s).2≠0):(Ag c ps X).2.2.code≠0:=by
 unfold Ag;rw[hX];dsimp only;rw[if_neg sP,ib,if_pos T];exact T
def sq_ok{c:B0}{ps:List Pg}{X:Str}{s b:A9}(T:cj X=([s],0))(hb:aJ c s=(b,0))(hk:b.kind=7):Ag c ps X=(c,ps,⟨0,0,jM c ps b⟩):=by
 have ho:cK c ps b=⟨c,ps,⟨0,0,jM c ps b⟩,0⟩:=by
  unfold cK;simp[hk]
 unfold Ag;rw[T];dsimp only;rw[if_neg sP,ib,hb];dsimp only;rw[if_neg sP,ho];dsimp only;rw[if_neg sP,ib]
variable [C3]
def rowsQ_any(g:C0)(T:B6 g)(x:Str):CallG cH prog 19 [.ptr 1010 0,aS x] [(1010,g.b)] [(1010,(fz g x).1.b)] [] (.tup [.iv (.sl ((fz g x).2.rows.map ai)),aB ((fz g x).2.code==0)]):=by
 have kd:=oI g T x;refine iG func19 ntmps19 (fun w0 E0 hG=> ?_);(repeat' first|intro hb hp|refine ac [] rfl hG kd fS B1 rfl rfl rfl rfl ?_|refine am ?_|refine al ?_ ?_|fail)
 all_goals exact L.ends U U fR wK
end Go.Proofs.Y
namespace Go.Proofs.Y
open Go.Abs Go.Proofs.Tryz
attribute [local irreducible] L Code.wp bodyPost Exit.then Exit.inBlock
def val_neq{v w:A3}(h:v≠w):(!((v.k==w.k) && ((v.n==w.n) && ((v.s==w.s) && true))))=true:=by
 cases T:((v.k==w.k) && ((v.n==w.n) && ((v.s==w.s) && true))) with
 |false=>rfl
 |true=>
  exfalso;simp only[aE,beq_iff_eq,Bool.and_true] at T;obtain⟨h1,h2,h3⟩:=T;apply h;cases v;cases w
  simp_all
def sameRowsNe_any(x y:List A3)(v w:A3)(hx:x[0]?=some v)(hy:y[0]?=some w)(hl:x.length=y.length)(hn:x.length<=100)(h:v≠w):
 CallA prog 22 [.iv (.sl [ai x]),.iv (.sl [ai y])] [] [] [] (aB false):=by
 have q:=val_neq h;have q0:(((x.map A3.c).length:Int) !=((y.map A3.c).length:Int))=false:=by rw[lM,lM,hl];simp
 have g1:([ai x])[((0:Nat):Int).toNat]?=some [.sl (x.map A3.c)]:=rfl;have g2:([ai y])[((0:Nat):Int).toNat]?=some [.sl (y.map A3.c)]:=rfl;have g3:(x.map A3.c)[((0:Nat):Int).toNat]?=some [I v.k,I v.n,S v.s]:=by rw[iN,gP,hx];rfl
 have g4:(y.map A3.c)[((0:Nat):Int).toNat]?=some [I w.k,I w.n,S w.s]:=by rw[iN,gP,hy];rfl
 have ad:1<=x.length:=by have:=(gS hx).1;omega
 have ar:(x.map A3.c).length<=100:=by rw[lM];exact hn
 have aR:(y.map A3.c).length<=100:=by rw[lM];omega
 have t1:decide (((0:Nat):Int)<1)=true:=rfl;have t2:decide (((0:Nat):Int)<((x.map A3.c).length:Int))=true:=decide_eq_true (by rw[lM];omega);refine iA func22 ntmps22 (fun w0 E0=> ?_);refine wz ?_;refine ae (ι:=Nat) (fun i=>⟨[(14,aI (i:Int)),(13,aI 1),(0,.iv (.sl [ai x])),(1,.iv (.sl [ai y]))],[],[]⟩) (fun i=>i) (fun i=>i=0) (i0:=0) ?_ U ?_
 · exact wL
 rintro i rfl K hK;clear hK;refine wz ?_;refine ae (ι:=Nat) (fun j=>⟨[(33,aI (j:Int)),(32,aI ((x.map A3.c).length:Int)),(5,aI ((0:Nat):Int)),(14,aI ((0:Nat):Int)),(13,aI 1),(0,.iv (.sl [ai x])),(1,.iv (.sl [ai y]))],[],[]⟩) (fun j=>j) (fun j=>j=0) (i0:=0) ?_ U ?_
 · exact wL
 rintro j rfl K2 T;clear T;refine wz ?_;all_goals exact L.ends U U sE wK
def sameRowEq_any(x:List A3)(T:x.length<=100):CallA prog 20 [.iv (.sl (x.map A3.c)),.iv (.sl (x.map A3.c))] [] [] [] (aB true):=by
 have k:CallA prog 22 [.iv (.sl [ai x]),.iv (.sl [ai x])] [] [] [] (aB true):=sameRows_any [x] sP (fun r hr=>by rw[List.mem_singleton.1 hr];omega);refine iA func20 ntmps20 (fun w0 E0=> ?_);refine wz ?_;all_goals exact L.ends U U sE wK
def sameRowNe_any(x y:List A3)(hl:x.length=y.length)(h1:1<=x.length)(hn:x.length<=100)(h:rW x y<0):CallA prog 20 [.iv (.sl (x.map A3.c)),.iv (.sl (y.map A3.c))] [] [] [] (aB false):=by
 have k:=sameRowsNe_any x y (x.getD 0 af) (y.getD 0 af) (by rw[List.getD_eq_getElem?_getD,gG C];rfl) (by rw[List.getD_eq_getElem?_getD,gG C];rfl) hl hn (fun e=>by
  unfold rW at h;rw[e] at h;have:=ord_cmpM.anti (y.getD 0 af) (y.getD 0 af);omega)
 refine iA func20 ntmps20 (fun w0 E0=> ?_);refine wz ?_;all_goals exact L.ends U U sE wK
def threes{g:C0}(hg:B6 g)(hn:g.n+3<150){t c:Str}(ht:bF t=true){s:A9}(hs:cj ([100,101,108,101,116,101,32,102,114,111,109,32] ++t++ [32,119,104,101,114,101,32] ++c++ [59])=([s],0)){Z0 Z1 Z2 Z3:C0×D3}
 (e0:fz g ([115,101,108,101,99,116,32,42,32,102,114,111,109,32] ++t++ [59])=Z0) (e1:fz Z0.1 ([115,101,108,101,99,116,32,42,32,102,114,111,109,32] ++t++ [32,119,104,101,114,101,32,40] ++c++ [41,59])=Z1) (e2:fz Z1.1 ([115,101,108,101,99,116,32,42,32,102,114,111,109,32] ++t++ [32,119,104,101,114,101,32,110,111,116,32,40] ++c++ [41,59])=Z2) (e3:fz Z2.1 ([115,101,108,101,99,116,32,42,32,102,114,111,109,32] ++t++ [32,119,104,101,114,101,32,40] ++c++ [41,32,105,115,32,110,117,108,108,59])=Z3):
 (Z0.2.code≠0\/Z1.2.code≠0\/Z2.2.code≠0\/Z3.2.code≠0)\/(Z0.2.code=0/\Z1.2.code=0/\Z2.2.code=0/\Z3.2.code=0/\I7 Z0.2.rows Z1.2.rows Z2.2.rows Z3.2.rows):=by
 obtain⟨cat,ps,n⟩:=g;obtain⟨_,D,hd⟩:=hg;dsimp only at hn hd;have x0:([100,101,108,101,116,101,32,102,114,111,109,32] ++t++ [32,119,104,101,114,101,32] ++c++ [59])=fj++32::(fi++32::(t++32::(rr++32::(c++ [59])))):=by simp[fj,fi,rr]
 have y0:([115,101,108,101,99,116,32,42,32,102,114,111,109,32] ++t++ [59])=ji++32::42::32::(fi++32::(t++ [59])):=by simp[ji,fi]
 have y1:([115,101,108,101,99,116,32,42,32,102,114,111,109,32] ++t++ [32,119,104,101,114,101,32,40] ++c++ [41,59])=ji++32::42::32::(fi++32::(t++32::(rr++32::40::(c++ [41,59])))):=by simp[ji,fi,rr]
 have y2:([115,101,108,101,99,116,32,42,32,102,114,111,109,32] ++t++ [32,119,104,101,114,101,32,110,111,116,32,40] ++c++ [41,59])=ji++32::42::32::(fi++32::(t++32::(rr++32::([110,111,116] ++32::40::(c++ [41,59]))))):=by simp[ji,fi,rr]
 have y3:([115,101,108,101,99,116,32,42,32,102,114,111,109,32] ++t++ [32,119,104,101,114,101,32,40] ++c++ [41,32,105,115,32,110,117,108,108,59])=ji++32::42::32::(fi++32::(t++32::(rr++32::40::(c++41::32::([105,115] ++32::([110,117,108,108] ++ [59])))))):=by simp[ji,fi,rr]
 rw[x0] at hs;rw[y0] at e0;rw[y1] at e1;rw[y2] at e2;rw[y3] at e3;obtain⟨E,p1,p2,p3⟩:=ps_three ht hs;have p0:=ps_all ht;generalize ji++32::42::32::(fi++32::(t++ [59]))=u0 at*
 generalize ji++32::42::32::(fi++32::(t++32::(rr++32::40::(c++ [41,59]))))=u1 at*
 generalize ji++32::42::32::(fi++32::(t++32::(rr++32::([110,111,116] ++32::40::(c++ [41,59])))))=u2 at*
 generalize ji++32::42::32::(fi++32::(t++32::(rr++32::40::(c++41::32::([105,115] ++32::([110,117,108,108] ++ [59]))))))=u3 at*
 have bad: ∀{u:Str} {m:Int},m<150->(cj u).2≠0->(fz ⟨cat,ps,m⟩ u).2.code≠0:=fun{u m} hm hb=>by rw[Md hm hb];exact hb
 have T: ∀{u:Str} {m:Int} {w:Ex},m<150->cj u=([selE t w],0)->(fz ⟨cat,ps,m⟩ u).2.code≠0\/ ∃b,aJ cat (selE t w)=(b,0)/\(b.kind=7->fz ⟨cat,ps,m⟩ u=(⟨cat,ps,m+1⟩,⟨0,0,jM cat ps b⟩)):=fun{u m w} hm hu=>by
  by_cases hb:(aJ cat (selE t w)).2=0
  · right
    refine⟨(aJ cat (selE t w)).1,Prod.ext U hb,fun hk=> ?_⟩;rw[zr hm,sq_ok hu (Prod.ext U hb) hk]
  · left
    rw[zr hm];exact sq_bad hu hb
 have kd: ∀{w b:A9},aJ cat w=(b,0)->b.kind=w.kind:=fun{w b} hb=>(eD (ee hb).2.2).1
 rcases T (m:=n) C p0 with k|⟨b0,f0,k0⟩
 · rw[e0] at k;exact .inl (.inl k)
 have k0:=k0 (kd f0);rw[e0] at k0;subst k0;dsimp only at e1|-;rcases p1 with p1|p1
 case inr=>have:=bad (m:=n+1) C p1;rw[e1] at this;exact .inl (.inr (.inl this))
 rcases T (m:=n+1) C p1 with k|⟨b1,f1,k1⟩
 · rw[e1] at k;exact .inl (.inr (.inl k))
 have k1:=k1 (kd f1);rw[e1] at k1;subst k1;dsimp only at e2|-;rcases p2 with p2|p2
 case inr=>have:=bad (m:=n+1+1) C p2;rw[e2] at this;exact .inl (.inr (.inr (.inl this)))
 rcases T (m:=n+1+1) C p2 with k|⟨b2,f2,k2⟩
 · rw[e2] at k;exact .inl (.inr (.inr (.inl k)))
 have k2:=k2 (kd f2);rw[e2] at k2;subst k2;dsimp only at e3|-;rcases p3 with p3|p3
 case inr=>have:=bad (m:=n+1+1+1) C p3;rw[e3] at this;exact .inl (.inr (.inr (.inr this)))
 rcases T (m:=n+1+1+1) C p3 with k|⟨b3,f3,k3⟩
 · rw[e3] at k;exact .inl (.inr (.inr (.inr k)))
 have k3:=k3 (kd f3);rw[e3] at k3;subst k3;exact .inr ⟨rfl,rfl,rfl,rfl,(three_law hd f0 f1 f2 f3).1⟩
def read_at{R:List (List A3)}{p:List A3->Bool}{n:Nat}{x:List A3}(hr:R.Pairwise (fun x y=>rW x y<0))(hx:R[n]?=some x):
 (p x=true->((R.filter p).map ai)[(((((R.take n).filter p).length:Nat):Int)).toNat]?=some (ai x)/\decide ((((R.take n).filter p).length:Int)<(((R.filter p).map ai).length:Int))=true/\((R.take (n+1)).filter p).length=((R.take n).filter p).length+1)/\
 (p x=false->((R.take (n+1)).filter p).length=((R.take n).filter p).length/\(decide ((((R.take n).filter p).length:Int)<(((R.filter p).map ai).length:Int))=false\/
   ∃y,y∈R/\rW x y<0/\((R.filter p).map ai)[(((((R.take n).filter p).length:Nat):Int)).toNat]?=some (ai y)/\decide ((((R.take n).filter p).length:Int)<(((R.filter p).map ai).length:Int))=true)):=by
 rw[iN,gP];refine⟨fun T=> ?_,fun T=>⟨filter_no hx T,?_⟩⟩
 · obtain⟨h1,h2⟩:=filter_at hx T;refine⟨by rw[h1];rfl,decide_eq_true ?_,h2⟩;have:=(gS h1).1;rw[lM];omega
 · cases hy:(R.filter p)[((R.take n).filter p).length]? with
   |none=>
    left
    have:=gO hy;exact decide_eq_false (by rw[lM];omega)
   |some y=>
    right
    obtain⟨h1,h2⟩:=filter_next hr hx T hy;refine⟨y,h1,h2,rfl,decide_eq_true ?_⟩;have:=(gS hy).1;rw[lM];omega
variable [C3]
def topThree_any(l:List Str)(hl:l.length<=140737488355328)(t c:Str)(b3:t.length<=140737488355328)(cX:c.length<=140737488355328):
 CallG cH prog 3 [.iv (.sl (l.map Str.c)),aS t,aS c] [] [] [] (aB true):=by
 have hg:=play_ok l;have hn:=Lw l;have k1:=play_any l hl;generalize playM l=g at*
 have kt:=Cc (jd t b3);have kp:=uu ([100,101,108,101,116,101,32,102,114,111,109,32] ++t++ [32,119,104,101,114,101,32] ++c++ [59]);have b4:=ur ([100,101,108,101,116,101,32,102,114,111,109,32] ++t++ [32,119,104,101,114,101,32] ++c++ [59]);have j0:=rowsQ_any g hg ([115,101,108,101,99,116,32,42,32,102,114,111,109,32] ++t++ [59]);have b5:=la hg ([115,101,108,101,99,116,32,42,32,102,114,111,109,32] ++t++ [59]);have ho:=fun ht s hs=>threes (t:=t) (c:=c) (s:=s) hg C ht hs U U U U
 generalize fz g ([115,101,108,101,99,116,32,42,32,102,114,111,109,32] ++t++ [59])=Z0 at*
 have j1:=rowsQ_any Z0.1 b5 ([115,101,108,101,99,116,32,42,32,102,114,111,109,32] ++t++ [32,119,104,101,114,101,32,40] ++c++ [41,59]);have b6:=la b5 ([115,101,108,101,99,116,32,42,32,102,114,111,109,32] ++t++ [32,119,104,101,114,101,32,40] ++c++ [41,59]);generalize fz Z0.1 ([115,101,108,101,99,116,32,42,32,102,114,111,109,32] ++t++ [32,119,104,101,114,101,32,40] ++c++ [41,59])=Z1 at*
 have j2:=rowsQ_any Z1.1 b6 ([115,101,108,101,99,116,32,42,32,102,114,111,109,32] ++t++ [32,119,104,101,114,101,32,110,111,116,32,40] ++c++ [41,59]);have cc:=la b6 ([115,101,108,101,99,116,32,42,32,102,114,111,109,32] ++t++ [32,119,104,101,114,101,32,110,111,116,32,40] ++c++ [41,59]);generalize fz Z1.1 ([115,101,108,101,99,116,32,42,32,102,114,111,109,32] ++t++ [32,119,104,101,114,101,32,110,111,116,32,40] ++c++ [41,59])=Z2 at*
 have j3:=rowsQ_any Z2.1 cc ([115,101,108,101,99,116,32,42,32,102,114,111,109,32] ++t++ [32,119,104,101,114,101,32,40] ++c++ [41,32,105,115,32,110,117,108,108,59]);generalize fz Z2.1 ([115,101,108,101,99,116,32,42,32,102,114,111,109,32] ++t++ [32,119,104,101,114,101,32,40] ++c++ [41,32,105,115,32,110,117,108,108,59])=Z3 at*
 clear b5 b6 cc;generalize hP:cj ([100,101,108,101,116,101,32,102,114,111,109,32] ++t++ [32,119,104,101,114,101,32] ++c++ [59])=P at*
 obtain⟨S,e⟩:=P;dsimp only at kp b4;have c3:(S.map A9.cs).length<=6:=by rw[lM];exact b4
 refine iG func3 ntmps3 (fun w0 E0 T=> ?_);by_cases he:e=0
 case neg=>
  have q:(e !=0)=true:=by simpa using he
  clear ho j0 j1 j2 j3;(repeat' first|intro hb hp|refine ac [1010] rfl T k1 fS .nil rfl rfl rfl rfl ?_|refine dK (ha:=rfl) U T kp U ?_|refine am ?_|refine al ?_ ?_|fail)
  all_goals exact L.ends U U sE wK
 subst he;by_cases hS:S.length=1
 case neg=>
  have q:(((S.map A9.cs).length:Int) !=1)=true:=by rw[lM];simp;omega
  clear ho j0 j1 j2 j3;(repeat' first|intro hb hp|refine ac [1010] rfl T k1 fS .nil rfl rfl rfl rfl ?_|refine dK (ha:=rfl) U T kp U ?_|refine am ?_|refine al ?_ ?_|fail)
  all_goals exact L.ends U U sE wK
 have q1:(((S.map A9.cs).length:Int) !=1)=false:=by rw[lM,hS];rfl
 cases ht:bF t with
 |false=>
  rw[ht] at kt;clear ho j0 j1 j2 j3;(repeat' first|intro hb hp|refine ac [1010] rfl T k1 fS .nil rfl rfl rfl rfl ?_|refine dK (ha:=rfl) U T kp U ?_|refine LW.is (dK (ha:=rfl) U T kt U ?_)|refine am ?_|refine al ?_ ?_|fail)
  all_goals exact L.ends U U sE wK
 |true=>
 rw[ht] at kt;obtain⟨s,rfl⟩: ∃s,S= [s]:=List.length_eq_one_iff.1 hS;have ho:=ho ht s U;by_cases b7:Z0.2.code=0
 case neg=>
  have z0:(Z0.2.code==0)=false:=by simpa using b7
  clear ho;rw[z0] at j0;(repeat' first|intro hb hp|refine ac [1010] rfl T k1 fS .nil rfl rfl rfl rfl ?_|refine dK (ha:=rfl) U T kp U ?_|refine ac [] U T j0 fS B1 U U U U ?_|refine ac [] U T j1 fS B1 U U U U ?_|refine ac [] U T j2 fS B1 U U U U ?_|refine ac [] U T j3 fS B1 U U U U ?_|refine LW.is (dK (ha:=rfl) U T kt U ?_)|refine am ?_|refine al ?_ ?_|fail)
  all_goals exact L.ends U U sE wK
 have z0:(Z0.2.code==0)=true:=by simpa using b7
 rw[z0] at j0;by_cases b8:Z1.2.code=0
 case neg=>
  have z1:(Z1.2.code==0)=false:=by simpa using b8
  clear ho;rw[z1] at j1;(repeat' first|intro hb hp|refine ac [1010] rfl T k1 fS .nil rfl rfl rfl rfl ?_|refine dK (ha:=rfl) U T kp U ?_|refine ac [] U T j0 fS B1 U U U U ?_|refine ac [] U T j1 fS B1 U U U U ?_|refine ac [] U T j2 fS B1 U U U U ?_|refine ac [] U T j3 fS B1 U U U U ?_|refine LW.is (dK (ha:=rfl) U T kt U ?_)|refine am ?_|refine al ?_ ?_|fail)
  all_goals exact L.ends U U sE wK
 have z1:(Z1.2.code==0)=true:=by simpa using b8
 rw[z1] at j1;by_cases b9:Z2.2.code=0
 case neg=>
  have z2:(Z2.2.code==0)=false:=by simpa using b9
  clear ho;rw[z2] at j2;(repeat' first|intro hb hp|refine ac [1010] rfl T k1 fS .nil rfl rfl rfl rfl ?_|refine dK (ha:=rfl) U T kp U ?_|refine ac [] U T j0 fS B1 U U U U ?_|refine ac [] U T j1 fS B1 U U U U ?_|refine ac [] U T j2 fS B1 U U U U ?_|refine ac [] U T j3 fS B1 U U U U ?_|refine LW.is (dK (ha:=rfl) U T kt U ?_)|refine am ?_|refine al ?_ ?_|fail)
  all_goals exact L.ends U U sE wK
 have z2:(Z2.2.code==0)=true:=by simpa using b9
 rw[z2] at j2;by_cases cb:Z3.2.code=0
 case neg=>
  have z3:(Z3.2.code==0)=false:=by simpa using cb
  clear ho;rw[z3] at j3;(repeat' first|intro hb hp|refine ac [1010] rfl T k1 fS .nil rfl rfl rfl rfl ?_|refine dK (ha:=rfl) U T kp U ?_|refine ac [] U T j0 fS B1 U U U U ?_|refine ac [] U T j1 fS B1 U U U U ?_|refine ac [] U T j2 fS B1 U U U U ?_|refine ac [] U T j3 fS B1 U U U U ?_|refine LW.is (dK (ha:=rfl) U T kt U ?_)|refine am ?_|refine al ?_ ?_|fail)
  all_goals exact L.ends U U sE wK
 have z3:(Z3.2.code==0)=true:=by simpa using cb
 rw[z3] at j3;have hT:I7 Z0.2.rows Z1.2.rows Z2.2.rows Z3.2.rows:=by
  rcases ho with(h|h|h|h)|⟨_,_,_,_,h⟩
  · exact absurd b7 h
  · exact absurd b8 h
  · exact absurd b9 h
  · exact absurd cb h
  · exact h
 clear ho;obtain⟨⟨pa,ad,ar,ea,eb,ec,b1⟩,a4,⟨w,c4,c5,hw⟩,a5⟩:=hT;rw[ea] at j1;rw[eb] at j2;rw[ec] at j3;generalize Z0.2.rows=R at*
 clear ea eb ec;(repeat' first|intro hb hp|refine ac [1010] rfl T k1 fS .nil rfl rfl rfl rfl ?_|refine dK (ha:=rfl) U T kp U ?_|refine ac [] U T j0 fS B1 U U U U ?_|refine ac [] U T j1 fS B1 U U U U ?_|refine ac [] U T j2 fS B1 U U U U ?_|refine ac [] U T j3 fS B1 U U U U ?_|refine LW.is (dK (ha:=rfl) U T kt U ?_)|refine am ?_|refine al ?_ ?_|fail)
 clear j0 j1 j2 j3 k1 kt kp;have c6:(R.map ai).length<=30:=by rw[lM];exact a5
 have c7:((R.filter pa).map ai).length<=30:=by rw[lM];exact Nat.le_trans (List.length_filter_le ..) a5
 have c8:((R.filter ad).map ai).length<=30:=by rw[lM];exact Nat.le_trans (List.length_filter_le ..) a5
 have c9:((R.filter ar).map ai).length<=30:=by rw[lM];exact Nat.le_trans (List.length_filter_le ..) a5
 refine ae (ι:=Nat) (fun n=>⟨[(111,aI (n:Int)),(110,aI ((R.map ai).length:Int)),(109,.iv (.sl (R.map ai))),(21,aI (((R.take n).filter ar).length:Int)),(20,aI (((R.take n).filter ad).length:Int)),(19,aI (((R.take n).filter pa).length:Int)),(17,.iv (.sl ((R.filter ar).map ai))),(15,.iv (.sl ((R.filter ad).map ai))),(13,.iv (.sl ((R.filter pa).map ai)))],[],[]⟩) (fun n=>R.length - n) (fun _=>True) (i0:=0) ?_ trivial ?_
 · exact wL
 intro n _ K hK;cases hx:R[n]? with
 |none=>
  have b3:=gc (l:=R.map ai) (bz hx);have hR:R.take n=R:=tL (gO hx);rw[hR];have a0:((((R.filter pa).length:Nat):Int)==(((R.filter pa).map ai).length:Int))=true:=by rw[lM];simp
  have tb:((((R.filter ad).length:Nat):Int)==(((R.filter ad).map ai).length:Int))=true:=by rw[lM];simp
  have aR:((((R.filter ar).length:Nat):Int)==(((R.filter ar).map ai).length:Int))=true:=by rw[lM];simp
  clear hK;refine wz ?_;all_goals exact L.ends U U (by first|exact sE|exact Sub.of_eq (congrArg (fun b=>aB b) aR)) wK
 |some x=>
  have b3:=fZ (l:=R.map ai) (cM (f:=ai) hx);have cR:=fM hx;have g0:(R.map ai)[((n:Nat):Int).toNat]?=some (ai x):=by rw[iN,gP,hx];rfl
  have a7:=gE hx;have kE:=sameRowEq_any x (by have:=hw x a7;omega);have kN: ∀y∈R,rW x y<0->CallA prog 20 [.iv (.sl (x.map A3.c)),.iv (.sl (y.map A3.c))] [] [] [] (aB false):=fun y hy hk=>sameRowNe_any x y (by rw[hw x a7,hw y hy]) (by have:=hw x a7;omega) (by have:=hw x a7;omega) hk
  obtain⟨bS,a8⟩:=read_at (p:=pa) a4 hx;obtain⟨bW,a9⟩:=read_at (p:=ad) a4 hx;obtain⟨jB,ba⟩:=read_at (p:=ar) a4 hx;have ch:=b1 x a7;have bi:((R.take n).filter pa).length<=30:=Nat.le_trans (List.length_filter_le ..) (by rw[lT];omega);have bj:((R.take n).filter ad).length<=30:=Nat.le_trans (List.length_filter_le ..) (by rw[lT];omega);have cS:((R.take n).filter ar).length<=30:=Nat.le_trans (List.length_filter_le ..) (by rw[lT];omega);have a6: ∀i' j' k':Nat,((R.take (n+1)).filter pa).length=i'->((R.take (n+1)).filter ad).length=j'->((R.take (n+1)).filter ar).length=k'-> ∀st',Wk _ st' ⟨[(111,aI ((n+1:Nat):Int)),(110,aI ((R.map ai).length:Int)),(109,.iv (.sl (R.map ai))),(21,aI (k':Int)),(20,aI (j':Int)),(19,aI (i':Int)),(17,.iv (.sl ((R.filter ar).map ai))),(15,.iv (.sl ((R.filter ad).map ai))),(13,.iv (.sl ((R.filter pa).map ai)))],[],[]⟩->_:=fun i' j' k' hi hj hk st' hW=>hK st' (n+1) trivial C (by rw[hi,hj,hk];exact hW)
  generalize ((R.take n).filter pa).length=i at*
  generalize ((R.take n).filter ad).length=j at*
  generalize ((R.take n).filter ar).length=k at*
  have u1:((0:Int)+1 !=1)=false:=rfl;clear b1 hK b4;rcases ch with⟨h1,h2,h3⟩|⟨h1,h2,h3⟩|⟨h1,h2,h3⟩
  · obtain⟨ga,a0,a1⟩:=bS h1;obtain⟨a2,bh⟩:=a9 h2;obtain⟨a3,bl⟩:=ba h3;have hW:=a6 _ _ _ a1 a2 a3;clear bS a8 bW a9 jB ba a6;rcases bh with tb|⟨y,bm,bp,gb,tb⟩<;>rcases bl with aR|⟨z,bP,bR,b2,aR⟩<;>(try have kb:=kN y bm bp)<;>(try have kc:=kN z bP bR)<;>
    ((repeat' first|intro hb hp|refine am ?_|refine al ?_ ?_|fail)
     exact hW _ wL)
  · obtain⟨gb,tb,a2⟩:=bW h2;obtain⟨a1,ra⟩:=a8 h1;obtain⟨a3,bl⟩:=ba h3;have hW:=a6 _ _ _ a1 a2 a3;clear bS a8 bW a9 jB ba a6;rcases ra with a0|⟨y,bm,bp,ga,a0⟩<;>rcases bl with aR|⟨z,bP,bR,b2,aR⟩<;>(try have ka:=kN y bm bp)<;>(try have kc:=kN z bP bR)<;>
    ((repeat' first|intro hb hp|refine am ?_|refine al ?_ ?_|fail)
     exact hW _ wL)
  · obtain⟨b2,aR,a3⟩:=jB h3;obtain⟨a1,ra⟩:=a8 h1;obtain⟨a2,bh⟩:=a9 h2;have hW:=a6 _ _ _ a1 a2 a3;clear bS a8 bW a9 jB ba a6;rcases ra with a0|⟨y,bm,bp,ga,a0⟩<;>rcases bh with tb|⟨z,bP,bR,gb,tb⟩<;>(try have ka:=kN y bm bp)<;>(try have kb:=kN z bP bR)<;>
    ((repeat' first|intro hb hp|refine am ?_|refine al ?_ ?_|fail)
     exact hW _ wL)
end Go.Proofs.Y
