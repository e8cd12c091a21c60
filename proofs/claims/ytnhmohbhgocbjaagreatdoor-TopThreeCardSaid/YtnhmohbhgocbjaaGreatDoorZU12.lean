/- Lemmas towards the law. Conditions: each one says its own. -/
import Derived.Test.YtnhmohbhgocbjaaGreatDoorZU10
set_option linter.all false
set_option maxHeartbeats 64000000
set_option maxRecDepth 100000
namespace Go.Proofs.Y
open Go.Abs Go.Proofs.Tryz
attribute [local irreducible] L Code.wp bodyPost Exit.then Exit.inBlock
def mX{x y:Int}(h:x=y):Sub (aI x) (aI y):=by subst h;exact fR
def li(gs:aw)(s:A9)(t:A4)(cf:List A3->List A3->Int)(l:List (List A3))(a m b:Nat):Prop:=
    CallG gs prog 207 [.bsh 1000 0 l.length 1,aI a,aI m,aI b,.fn fO ep] ((1000,bu l)::iS s t) ((1000,bu (bK (cL cf) l a b))::iS s t) [] (.tup [])
def MA(i j:Nat)(hn:i+j<4611686018427387904): ∃k:Nat,IntKind.i64.wrap ((IntKind.u64.wrap ((i:Int)+(j:Int))).fdiv (2 ^ min (Int.toNat 1) IntKind.u64.bits))=(k:Int)/\2*k<=i+j/\i+j<=2*k+1:=⟨(i+j) / 2,HX i j hn,by omega,by omega⟩
def Ng{gs:aw}{s:A9}{t:A4}{cf:List A3->List A3->Int}[A0 prog fO](l:List (List A3))(a m b c:Nat)(hL:E4 (cL cf) l)(h1:a+1<m)(h2:m+1<b)(h3:b<=l.length)(hn:l.length<=1000000)(s1:ei (cL cf) l a m)(s2:ei (cL cf) l m b)
 (b4:IntKind.i64.wrap ((IntKind.u64.wrap ((a:Int)+(b:Int))).fdiv (2 ^ min (Int.toNat 1) IntKind.u64.bits))=(c:Int)) (c5:2*c<=a+b) (c6:a+b<=2*c+1) {d:Bool} {s0 r0:Nat} (q0:decide ((c:Int)<(m:Int))=d) (hd:(d=true/\c<m/\s0=c+m - b/\r0=c)\/(d=false/\ ¬c<m/\s0=a/\r0=m))
 (ih: ∀(l':List (List A3)) (a' m' b':Nat),l'.length=l.length->(∀x,x∈l'->x∈l)->a'<m'->m'<b'->b'<=l.length->b' - a'<b - a->ei (cL cf) l' a' m'->ei (cL cf) l' m' b'->li gs s t cf l' a' m' b')
 (hc: ∀x∈l,∀y∈l,CallG gs prog fO ([.iv (.sl (x.map A3.c)),.iv (.sl (y.map A3.c))] ++ep) (iS s t) (iS s t) [] (aI (cf x y))):li gs s t cf l a m b:=by
 rcases hd with⟨rfl,b5,b6,b7⟩|⟨rfl,b5,b6,b7⟩<;>
 (refine iG func207 ntmps207 (fun w0 E0 hG=> ?_)
  have q:((m:Int) - (a:Int)==1)=false:=by simp;omega
  have q1:((b:Int) - (m:Int)==1)=false:=by simp;omega
  (repeat' first|intro hb hp|refine jl rfl rfl b4 ?_|refine am ?_|refine al ?_ ?_|fail)
  refine ae (ι:=Nat×Nat) (fun i=>⟨[(20,aI (i.1:Int)),(21,aI (i.2:Int)),(22,aI ((c+m - 1:Nat):Int)),(19,aI ((c+m:Nat):Int)),(18,aI (c:Int)),(0,.bsh 1000 0 l.length 1),(1,aI a),(2,aI m),(3,aI b),(4,.fn fO ep)],(1000,bu l)::iS s t,[]⟩) (fun i=>i.2 - i.1) (fun i=>s0<=i.1/\i.1<=i.2/\i.2<=r0/\(s0<i.1-> ∀x y,l[i.1 - 1]?=some x->l[c+m - i.1]?=some y->cL cf x y=true)/\(i.2<r0-> ∀x y,l[i.2]?=some x->l[c+m - 1 - i.2]?=some y->cL cf y x=true)) (i0:=(s0,r0)) ?_ ⟨Nat.le_refl _,by dsimp only;omega,Nat.le_refl _,fun h=>absurd h oD,fun h=>absurd h oD⟩ ?_
  · exact Wk.mkX (fy U) (.cons U (mX oD) (.cons U (mX oD) (.cons U (mX C) (.cons U (mX C) F6)))) (fun s v h=>h) .nil
  rintro ⟨i,j⟩ ⟨hi,b8,hj,a8,a9⟩ K hK;dsimp only at hi b8 hj a8 a9;by_cases hk:i<j
  · have q2:decide ((i:Int)<(j:Int))=true:=decide_eq_true C;obtain⟨h,hh,h4,h5⟩:=EA i j C hk;obtain⟨x,hx⟩: ∃x,l[h]?=some x:=⟨_,gG C⟩
    obtain⟨y,hy⟩: ∃y,l[c+m - 1 - h]?=some y:=⟨_,gG C⟩
    have b9:x∈l:=gE hx;have cb:y∈l:=gE hy;have kc:=hc y cb x b9;have o1:(0+((h:Nat):Int).toNat)*1=h:=nG U;have o2:(0+(((c+m - 1:Nat):Int) - (h:Int)).toNat)*1=c+m - 1 - h:=nG C;have b1:(h:Int)<(l.length:Int):=C;have b2:((c+m - 1:Nat):Int) - (h:Int)<(l.length:Int):=C;have p1:(0:Int)<=(h:Int):=C;have p2:(0:Int)<=((c+m - 1:Nat):Int) - (h:Int):=C;by_cases a3:cf y x<0
    · have q3:decide (cf y x<0)=true:=decide_eq_true a3;have q4:(!decide (cf y x<0))=false:=by rw[q3];rfl
      (repeat' first|intro hb hp|refine jl rfl rfl hh ?_|(refine DR.is ?_;first|refine bg U (ay U U (by first|exact p1|exact p2) (by first|exact b1|exact b2) (by first|exact o1|exact o2)) ?_|refine bg U (bc (es:=l.map ai) (k:=1) (i:=h) (f:=0) U U (jB l) C (ph hx) U) ?_|refine bg U (bc (es:=l.map ai) (k:=1) (i:=c+m - 1 - h) (f:=0) U U (jB l) C (ph hy) U) ?_|refine eY (f:=fO) U hG U kc U (.cons U (.cons U (.cons U .nil))) mg mf U ?_)|refine am ?_|refine al ?_ ?_|fail)
      refine hK _ (i,h) ⟨hi,by dsimp only;omega,by dsimp only;omega,a8,fun _ u v hu hv=> ?_⟩ oD ?_
      · dsimp only at hu hv;rw[hx] at hu;rw[hy] at hv;cases hu;cases hv;exact Eu hL a3
      exact Wk.mk' kK (wF (wF (wF F7))) B4 .nil
    · have q3:decide (cf y x<0)=false:=decide_eq_false a3;have q4:(!decide (cf y x<0))=true:=by rw[q3];rfl
      (repeat' first|intro hb hp|refine jl rfl rfl hh ?_|(refine DR.is ?_;first|refine bg U (ay U U (by first|exact p1|exact p2) (by first|exact b1|exact b2) (by first|exact o1|exact o2)) ?_|refine bg U (bc (es:=l.map ai) (k:=1) (i:=h) (f:=0) U U (jB l) C (ph hx) U) ?_|refine bg U (bc (es:=l.map ai) (k:=1) (i:=c+m - 1 - h) (f:=0) U U (jB l) C (ph hy) U) ?_|refine eY (f:=fO) U hG U kc U (.cons U (.cons U (.cons U .nil))) mg mf U ?_)|refine am ?_|refine al ?_ ?_|fail)
      refine hK _ (h+1,j) ⟨by dsimp only;omega,by dsimp only;omega,hj,fun _ u v hu hv=> ?_,a9⟩ oD ?_
      · dsimp only at hu hv;rw[show h+1 - 1=h by omega,hx] at hu;rw[show c+m - (h+1)=c+m - 1 - h by omega,hy] at hv;cases hu;cases hv;exact yX a3
      exact Wk.mk' kK (wG (wF (wF F7))) B4 .nil
  have q2:decide ((i:Int)<(j:Int))=false:=decide_eq_false C;have cc:i=j:=C;subst cc;obtain⟨e,ch⟩: ∃e:Nat,e=c+m - i:=⟨_,rfl⟩
  have he:(e:Int)=((c+m:Nat):Int) - (i:Int):=C;have x1:a<=i:=C;have x2:i<=m:=C;have x3:m<=e:=C;have x4:e<=b:=C;have x5:i<=c:=C;have x6:c<=e:=C;have bp:c=i+(e - m):=C;have aR:=DU hL x1 x2 x3 x4 h3 bp s1 s2 (fun x y k1 k2 hx hy=>a8 C x y hx (by rw[<-ch];exact hy)) (fun x y k1 k2 hx hy=>a9 C y x hy (by rw[show c+m - 1 - i=e - 1 by omega];exact hx));obtain⟨r1,r2,r3,r4⟩:=Ac x1 x2 x3 x4 h3 bp s1 s2;have a0:=kI (l:=l) x2 x3 C;have ba: ∀x,x∈dX l i m e->x∈l:=fun x hx=>qA x2 x3 C hx
  have cR:=hL.sub ba;have bP:i<m->m<e->CallG gs prog 229 [.bsh 1000 0 l.length 1,aI i,aI m,aI e,.any] [(1000,bu l)] [(1000,bu (dX l i m e))] [] (.tup []):=fun k1 k2=>uE l i m e k1 k2 C hn
  have cS: ¬(i<m/\m<e)->dX l i m e=l:=fun k=>by
   by_cases e1:i=m
   · rw[e1];exact Eh C C
   · rw[show e=m by omega];exact yL C C
  have a4:l≠ []:=fun e=>by rw[e] at h3;simp at h3;omega
  generalize dX l i m e=l1 at*
  have bh:=mq (le:=cL cf) (l:=l1) (a:=a) (b:=c) C C;have bR: ∀x,x∈bK (cL cf) l1 a c->x∈l:=fun x hx=>ba x ((nQ C).1 hx)
  have r3:=iW (l':=bK (cL cf) l1 a c) r3 (fun j k1 k2=>da C C j (.inr k1));have r4:=iW (l':=bK (cL cf) l1 a c) r4 (fun j k1 k2=>da C C j (.inr C));have bS: ¬(a<i/\i<c)->bK (cL cf) l1 a c=l1:=fun k=>tK cR C (by
   by_cases e1:a=i
   · rw[e1];exact r2
   · rw[show c=i by omega];exact r1)
  have a5:l1≠ []:=fun e=>by rw[e] at a0;simp at a0;omega
  have cX:=hL.sub bR;have k1:a<i->i<c->li gs s t cf l1 a i c:=fun y1 y2=>ih l1 a i c a0 ba y1 y2 C C r1 r2
  unfold li at k1;rw[a0] at k1;generalize bK (cL cf) l1 a c=l2 at*
  have a6:l2≠ []:=fun e=>by rw[e] at bh;simp at bh;omega
  have k2:c<e->e<b->li gs s t cf l2 c e b:=fun y1 y2=>ih l2 c e b C bR y1 y2 C C r3 r4
  have a7: ¬(c<e/\e<b)->bK (cL cf) l2 c b=l2:=fun k=>tK cX C (by
   by_cases e1:c=e
   · rw[e1];exact r4
   · rw[show b=e by omega];exact r3)
  unfold li at k2;rw[bh,a0] at k2;rw[<-aR];generalize bK (cL cf) l2 c b=l3 at*
  rw[he] at bP k2;generalize aR:bK (cL cf) l a b=lf at*
  clear aR;by_cases w1:i<m/\m<e
  · have c3:decide ((i:Int)<(m:Int))=true:=decide_eq_true C;have c4:decide ((m:Int)<((c+m:Nat):Int) - (i:Int))=true:=decide_eq_true C;have y0:=bP w1.1 w1.2;by_cases w2:a<i/\i<c
    · have bW:decide ((a:Int)<(i:Int))=true:=decide_eq_true C;have b3:decide ((i:Int)<(c:Int))=true:=decide_eq_true C;have y1:=k1 w2.1 w2.2;by_cases w3:c<e/\e<b
      · have a1:decide ((c:Int)<((c+m:Nat):Int) - (i:Int))=true:=decide_eq_true C;have a2:decide (((c+m:Nat):Int) - (i:Int)<(b:Int))=true:=decide_eq_true C;have y2:=k2 w3.1 w3.2;(repeat' first|intro hb hp|refine ac [] rfl hG y0 (.cons fR (.cons fR (.cons fR (.cons fR (.cons (Sub.any _) .nil))))) B1 U (gq a4) cZ U ?_|refine ac [] U hG y1 fS B4 U (cm a5) ck U ?_|refine ac [] U hG y2 fS B4 U (cm a6) ck U ?_|refine am ?_|refine al ?_ ?_|fail)
        all_goals exact aM U U wK U
      · have T:decide ((c:Int)<((c+m:Nat):Int) - (i:Int))=false\/(decide ((c:Int)<((c+m:Nat):Int) - (i:Int))=true/\decide (((c+m:Nat):Int) - (i:Int)<(b:Int))=false):=by
         by_cases z1:(c:Int)<((c+m:Nat):Int) - (i:Int)
         · exact .inr ⟨decide_eq_true z1,decide_eq_false C⟩
         · exact .inl (decide_eq_false z1)
        have e3:=a7 w3;subst e3;rcases T with T|⟨T,bi⟩
        all_goals
         (repeat' first|intro hb hp|refine ac [] rfl hG y0 (.cons fR (.cons fR (.cons fR (.cons fR (.cons (Sub.any _) .nil))))) B1 U (gq a4) cZ U ?_|refine ac [] U hG y1 fS B4 U (cm a5) ck U ?_|refine am ?_|refine al ?_ ?_|fail)
         all_goals exact aM U U wK U
    · have ad:decide ((a:Int)<(i:Int))=false\/(decide ((a:Int)<(i:Int))=true/\decide ((i:Int)<(c:Int))=false):=by
       by_cases z1:(a:Int)<(i:Int)
       · exact .inr ⟨decide_eq_true z1,decide_eq_false C⟩
       · exact .inl (decide_eq_false z1)
      have e2:=bS w2;subst e2;by_cases w3:c<e/\e<b
      · have a1:decide ((c:Int)<((c+m:Nat):Int) - (i:Int))=true:=decide_eq_true C;have a2:decide (((c+m:Nat):Int) - (i:Int)<(b:Int))=true:=decide_eq_true C;have y2:=k2 w3.1 w3.2;rcases ad with ad|⟨ad,bl⟩
        all_goals
         (repeat' first|intro hb hp|refine ac [] rfl hG y0 (.cons fR (.cons fR (.cons fR (.cons fR (.cons (Sub.any _) .nil))))) B1 U (gq a4) cZ U ?_|refine ac [] U hG y2 fS B4 U (cm a6) ck U ?_|refine am ?_|refine al ?_ ?_|fail)
         all_goals exact aM U U wK U
      · have T:decide ((c:Int)<((c+m:Nat):Int) - (i:Int))=false\/(decide ((c:Int)<((c+m:Nat):Int) - (i:Int))=true/\decide (((c+m:Nat):Int) - (i:Int)<(b:Int))=false):=by
         by_cases z1:(c:Int)<((c+m:Nat):Int) - (i:Int)
         · exact .inr ⟨decide_eq_true z1,decide_eq_false C⟩
         · exact .inl (decide_eq_false z1)
        have e3:=a7 w3;subst e3;rcases ad with ad|⟨ad,bl⟩<;>rcases T with T|⟨T,bi⟩
        all_goals
         (repeat' first|intro hb hp|refine ac [] rfl hG y0 (.cons fR (.cons fR (.cons fR (.cons fR (.cons (Sub.any _) .nil))))) B1 U (gq a4) cZ U ?_|refine am ?_|refine al ?_ ?_|fail)
         all_goals exact aM U U wK U
  · have ar:decide ((i:Int)<(m:Int))=false\/(decide ((i:Int)<(m:Int))=true/\decide ((m:Int)<((c+m:Nat):Int) - (i:Int))=false):=by
     by_cases z1:(i:Int)<(m:Int)
     · exact .inr ⟨decide_eq_true z1,decide_eq_false C⟩
     · exact .inl (decide_eq_false z1)
    have e1:=cS w1;subst e1;by_cases w2:a<i/\i<c
    · have bW:decide ((a:Int)<(i:Int))=true:=decide_eq_true C;have b3:decide ((i:Int)<(c:Int))=true:=decide_eq_true C;have y1:=k1 w2.1 w2.2;by_cases w3:c<e/\e<b
      · have a1:decide ((c:Int)<((c+m:Nat):Int) - (i:Int))=true:=decide_eq_true C;have a2:decide (((c+m:Nat):Int) - (i:Int)<(b:Int))=true:=decide_eq_true C;have y2:=k2 w3.1 w3.2;rcases ar with ar|⟨ar,bm⟩
        all_goals
         (repeat' first|intro hb hp|refine ac [] rfl hG y1 fS B4 rfl (cm a5) ck U ?_|refine ac [] U hG y2 fS B4 U (cm a6) ck U ?_|refine am ?_|refine al ?_ ?_|fail)
         all_goals exact aM U U wK U
      · have T:decide ((c:Int)<((c+m:Nat):Int) - (i:Int))=false\/(decide ((c:Int)<((c+m:Nat):Int) - (i:Int))=true/\decide (((c+m:Nat):Int) - (i:Int)<(b:Int))=false):=by
         by_cases z1:(c:Int)<((c+m:Nat):Int) - (i:Int)
         · exact .inr ⟨decide_eq_true z1,decide_eq_false C⟩
         · exact .inl (decide_eq_false z1)
        have e3:=a7 w3;subst e3;rcases ar with ar|⟨ar,bm⟩<;>rcases T with T|⟨T,bi⟩
        all_goals
         (repeat' first|intro hb hp|refine ac [] rfl hG y1 fS B4 rfl (cm a5) ck U ?_|refine am ?_|refine al ?_ ?_|fail)
         all_goals exact aM U U wK U
    · have ad:decide ((a:Int)<(i:Int))=false\/(decide ((a:Int)<(i:Int))=true/\decide ((i:Int)<(c:Int))=false):=by
       by_cases z1:(a:Int)<(i:Int)
       · exact .inr ⟨decide_eq_true z1,decide_eq_false C⟩
       · exact .inl (decide_eq_false z1)
      have e2:=bS w2;subst e2;by_cases w3:c<e/\e<b
      · have a1:decide ((c:Int)<((c+m:Nat):Int) - (i:Int))=true:=decide_eq_true C;have a2:decide (((c+m:Nat):Int) - (i:Int)<(b:Int))=true:=decide_eq_true C;have y2:=k2 w3.1 w3.2;rcases ar with ar|⟨ar,bm⟩<;>rcases ad with ad|⟨ad,bl⟩
        all_goals
         (repeat' first|intro hb hp|refine ac [] rfl hG y2 fS B4 rfl (cm a6) ck U ?_|refine am ?_|refine al ?_ ?_|fail)
         all_goals exact aM U U wK U
      · have T:decide ((c:Int)<((c+m:Nat):Int) - (i:Int))=false\/(decide ((c:Int)<((c+m:Nat):Int) - (i:Int))=true/\decide (((c+m:Nat):Int) - (i:Int)<(b:Int))=false):=by
         by_cases z1:(c:Int)<((c+m:Nat):Int) - (i:Int)
         · exact .inr ⟨decide_eq_true z1,decide_eq_false C⟩
         · exact .inl (decide_eq_false z1)
        have e3:=a7 w3;subst e3;rcases ar with ar|⟨ar,bm⟩<;>rcases ad with ad|⟨ad,bl⟩<;>rcases T with T|⟨T,bi⟩
        all_goals
         (repeat' first|intro hb hp|refine am ?_|refine al ?_ ?_|fail)
         all_goals exact aM U U wK U)
def Jk{gs:aw}{s:A9}{t:A4}{cf:List A3->List A3->Int}[A0 prog fO]{T:List (List A3)}(a1:E4 (cL cf) T)(hn:T.length<=1000000)
 (a2: ∀x∈T,∀y∈T,CallG gs prog fO ([.iv (.sl (x.map A3.c)),.iv (.sl (y.map A3.c))] ++ep) (iS s t) (iS s t) [] (aI (cf x y))): ∀(k:Nat) (l:List (List A3)) (a m b:Nat),b - a=k->l.length=T.length->(∀x,x∈l->x∈T)->a<m->m<b->b<=T.length->ei (cL cf) l a m->ei (cL cf) l m b->li gs s t cf l a m b:=by
 intro k;induction k using Nat.strongRecOn with
 |_ k ih=>
 intro l a m b hk hl hm h1 h2 h3 s1 s2;have hL:=a1.sub hm;have hc: ∀x∈l,∀y∈l,CallG gs prog fO ([.iv (.sl (x.map A3.c)),.iv (.sl (y.map A3.c))] ++ep) (iS s t) (iS s t) [] (aI (cf x y)):=fun x hx y hy=>a2 x (hm x hx) y (hm y hy)
 by_cases e1:m=a+1
 · subst e1;exact GQ l a b hL h2 C C s2 hc
 by_cases e2:b=m+1
 · subst e2;exact GP l a m hL C C C s1 hc
 obtain⟨c,hh,ad,ar⟩:=MA a b C;have aR: ∀(l':List (List A3)) (a' m' b':Nat),l'.length=l.length->(∀x,x∈l'->x∈l)->a'<m'->m'<b'->b'<=l.length->b' - a'<b - a->ei (cL cf) l' a' m'->ei (cL cf) l' m' b'->li gs s t cf l' a' m' b':=fun l' a' m' b' y1 y2 y3 y4 y5 y6 y7 y8=>ih (b' - a') C l' a' m' b' U (y1.trans hl) (fun x hx=>hm x (y2 x hx)) y3 y4 C y7 y8
 by_cases a0:c<m
 · exact Ng l a m b c hL C C C C s1 s2 hh ad ar (decide_eq_true C) (.inl ⟨rfl,a0,rfl,rfl⟩) aR hc
 · exact Ng l a m b c hL C C C C s1 s2 hh ad ar (decide_eq_false C) (.inr ⟨rfl,a0,rfl,rfl⟩) aR hc
def Cw{gs:aw}{s:A9}{t:A4}{cf:List A3->List A3->Int}[A0 prog fO](l:List (List A3))(a8:l≠ [])(hL:E4 (cL cf) l)(hn:l.length<=1000000)
 (hc: ∀x∈l,∀y∈l,CallG gs prog fO ([.iv (.sl (x.map A3.c)),.iv (.sl (y.map A3.c))] ++ep) (iS s t) (iS s t) [] (aI (cf x y))):
 CallG gs prog 177 [.bsh 1000 0 l.length 1,aI (l.length:Int),.fn fO ep] ((1000,bu l)::iS s t) ((1000,bu (l.mergeSort (cL cf)))::iS s t) [] (.tup []):=by
 have ar: ∀{c:List (List A3)},c.length=l.length->c≠ []:=fun h e=>by rw[e] at h;exact a8 (nZ h.symm)
 have a9: ∀{c:List (List A3)},c.Perm l-> ∀x∈c,∀y∈c,CallG gs prog fO ([.iv (.sl (x.map A3.c)),.iv (.sl (y.map A3.c))] ++ep) (iS s t) (iS s t) [] (aI (cf x y)):=fun h x hx y hy=>hc x (h.subset hx) y (h.subset hy)
 have a3: ∀{c:List (List A3)},c.Perm l->E4 (cL cf) c:=fun h=>hL.sub (fun x hx=>h.subset hx)
 have ins: ∀{c:List (List A3)} (a b:Nat),c.Perm l->a<=b->b<=l.length->CallG gs prog 197 [.bsh 1000 0 l.length 1,aI a,aI b,.fn fO ep] ((1000,bu c)::iS s t) ((1000,bu (bK (cL cf) c a b))::iS s t) [] (.tup []):=fun{c} a b h h1 h2=>by
  have k:=wq (gs:=gs) (s:=s) (t:=t) c a b (a3 h) h1 (by rw[h.length_eq];exact h2) (by rw[h.length_eq];exact hn) (a9 h)
  rwa [h.length_eq] at k
 have a6: ∀{c:List (List A3)} (a m b:Nat),c.Perm l->a<m->m<b->b<=l.length->ei (cL cf) c a m->ei (cL cf) c m b->CallG gs prog 207 [.bsh 1000 0 l.length 1,aI a,aI m,aI b,.fn fO ep] ((1000,bu c)::iS s t) ((1000,bu (bK (cL cf) c a b))::iS s t) [] (.tup []):=fun{c} a m b h h1 h2 h3 s1 s2=>by
  have k:=Jk (gs:=gs) (s:=s) (t:=t) hL hn hc (b - a) c a m b U h.length_eq (fun x hx=>h.subset hx) h1 h2 h3 s1 s2;unfold li at k
  rwa [h.length_eq] at k
 refine iG func177 ntmps177 (fun w0 E0 hG=> ?_);refine wz ?_;refine ae (ι:=Nat×List (List A3)) (fun i=>⟨[(6,aI 20),(7,aI (i.1:Int)),(8,aI ((i.1+20:Nat):Int)),(0,.bsh 1000 0 l.length 1),(1,aI (l.length:Int)),(2,.fn fO ep)],(1000,bu i.2)::iS s t,[]⟩) (fun i=>l.length - i.1) (fun i=>i.1<=l.length/\i.2.Perm l/\G1 (cL cf) i.2 20 i.1) (i0:=(0,l)) ?_ ⟨Nat.zero_le _,List.Perm.refl _,.z⟩ ?_
 · exact Wk.mkX (fy U) (wG (wG (wG F3))) (fun s v h=>h) .nil
 rintro ⟨a,c⟩ ⟨ha,hp,T⟩ K hK;dsimp only at ha hp T;have a0:=hp.length_eq;by_cases hk:a+20<=l.length
 · have q:decide (((a+20:Nat):Int)<=(l.length:Int))=true:=decide_eq_true C;have y:=ins a (a+20) hp C hk;have a1:(bK (cL cf) c a (a+20)).Perm l:=(mZ C).trans hp;have a2:=T.more (a3 hp) C;generalize bK (cL cf) c a (a+20)=c' at*
   (repeat' first|intro hb hp|refine ac [] rfl hG y fS B4 rfl (cm (ar a0)) ck U ?_|refine am ?_|refine al ?_ ?_|fail)
   refine hK _ (a+20,c') ⟨hk,a1,a2⟩ oD ?_;exact Wk.mk' kK (wG (wG (.cons U (mX C) F3))) B4 .nil
 have q:decide (((a+20:Nat):Int)<=(l.length:Int))=false:=decide_eq_false C;have y:=ins a l.length hp C nR;have a1:(bK (cL cf) c a l.length).Perm l:=(mZ C).trans hp;have ad:=T.last (a3 hp) C C;rw[a0] at ad;generalize bK (cL cf) c a l.length=c1 at*
 (repeat' first|intro hb hp|refine ac [] rfl hG y fS B4 rfl (cm (ar a0)) ck U ?_|refine am ?_|refine al ?_ ?_|fail)
 refine ae (ι:=Nat×List (List A3)) (fun i=>⟨[(6,aI (i.1:Int)),(0,.bsh 1000 0 l.length 1),(1,aI (l.length:Int)),(2,.fn fO ep)],(1000,bu i.2)::iS s t,[]⟩) (fun i=>l.length - i.1) (fun i=>0<i.1/\i.2.Perm l/\EZ (cL cf) i.2 i.1 l.length 0) (i0:=(20,c1)) ?_ ⟨by dsimp only;omega,a1,ad⟩ ?_
 · exact Wk.mk' kK (wG F3) B4 .nil
 clear ad a1 y q hk T a0 hp ha hK K c1 c a;rintro ⟨k,c⟩ ⟨a5,hp,ad⟩ K hK;dsimp only at a5 hp ad;by_cases hk:k<l.length
 · have q:decide ((k:Int)<(l.length:Int))=true:=decide_eq_true C;refine wz ?_;refine ae (ι:=Nat×List (List A3)) (fun i=>⟨[(7,aI (i.1:Int)),(8,aI ((i.1+(k+k):Nat):Int)),(6,aI (k:Int)),(0,.bsh 1000 0 l.length 1),(1,aI (l.length:Int)),(2,.fn fO ep)],(1000,bu i.2)::iS s t,[]⟩) (fun i=>l.length - i.1) (fun i=>i.1<=l.length/\i.2.Perm l/\G1 (cL cf) i.2 (k+k) i.1/\EZ (cL cf) i.2 k l.length i.1) (i0:=(0,c)) ?_ ⟨Nat.zero_le _,hp,.z,ad⟩ ?_
   · exact Wk.mkX (fy U) (wG (.cons U (mX oD) F4)) (fun s v h=>h) .nil
   rintro ⟨a,c⟩ ⟨ha,hp,T,a4⟩ K2 ba;dsimp only at ha hp T a4;have a0:=hp.length_eq;by_cases hb:a+(k+k)<=l.length
   · have q2:decide (((a+(k+k):Nat):Int)<=(l.length:Int))=true:=decide_eq_true C;obtain⟨h1,h2,h3⟩:=a4.two a5 hb;have y:=a6 a (a+k) (a+(k+k)) hp C C hb h1 h2;have a1:(bK (cL cf) c a (a+(k+k))).Perm l:=(mZ C).trans hp;have a2:=T.more (a3 hp) C;have a7:=h3.congr (l':=bK (cL cf) c a (a+(k+k))) (fun j hj=>da C C j (.inr hj));generalize bK (cL cf) c a (a+(k+k))=c' at*
     rw[show((a+k:Nat):Int)=(a:Int)+(k:Int) by omega] at y;(repeat' first|intro hb hp|refine ac [] rfl hG y fS B4 rfl (cm (ar a0)) ck U ?_|refine am ?_|refine al ?_ ?_|fail)
     refine ba _ (a+(k+k),c') ⟨hb,a1,a2,a7⟩ oD ?_;exact Wk.mk' kK (wG (.cons U (mX oD) F4)) B4 .nil
   have q2:decide (((a+(k+k):Nat):Int)<=(l.length:Int))=false:=decide_eq_false C;by_cases hm:a+k<l.length
   · have q3:decide ((a:Int)+(k:Int)<(l.length:Int))=true:=decide_eq_true C;obtain⟨h1,h2⟩:=a4.one a5 hm C;have y:=a6 a (a+k) l.length hp C hm nR h1 h2;have a1:(bK (cL cf) c a l.length).Perm l:=(mZ C).trans hp;have aR:=T.last (a3 hp) C C;rw[a0] at aR;generalize bK (cL cf) c a l.length=c' at*
     rw[show((a+k:Nat):Int)=(a:Int)+(k:Int) by omega] at y;(repeat' first|intro hb hp|refine ac [] rfl hG y fS B4 rfl (cm (ar a0)) ck U ?_|refine am ?_|refine al ?_ ?_|fail)
     refine hK _ (k+k,c') ⟨by dsimp only;omega,a1,aR⟩ oD ?_;exact Wk.mk' kK (.cons U (mX oD) F3) B4 .nil
   · have q3:decide ((a:Int)+(k:Int)<(l.length:Int))=false:=decide_eq_false C;have aR:=T.rest a4 ha C;refine wz ?_;refine hK _ (k+k,c) ⟨by dsimp only;omega,hp,aR⟩ oD ?_;exact Wk.mk' kK (.cons U (mX oD) F3) B4 .nil
 · have q:decide ((k:Int)<(l.length:Int))=false:=decide_eq_false C;rw[<-GX hL hp C ad];refine wz ?_;exact aM U U wK U
def um{gs:aw}{s:A9}{t:A4}{cf:List A3->List A3->Int}[A0 prog fO](l:List (List A3))(T:l≠ [])(hL:E4 (cL cf) l)(hn:l.length<=1000000)
 (hc: ∀x∈l,∀y∈l,CallG gs prog fO ([.iv (.sl (x.map A3.c)),.iv (.sl (y.map A3.c))] ++ep) (iS s t) (iS s t) [] (aI (cf x y))):
 CallG gs prog 130 [.bsh 1000 0 l.length 1,.fn fO ep] ((1000,bu l)::iS s t) ((1000,bu (l.mergeSort (cL cf)))::iS s t) [] (.tup []):=by
 have y:=Cw (gs:=gs) (s:=s) (t:=t) l T hL hn hc;refine iG func130 ntmps130 (fun w0 E0 hG=> ?_);(repeat' first|intro hb hp|refine ac [] rfl hG y fS B4 rfl (cm T) ck U ?_|refine am ?_|refine al ?_ ?_|fail)
 exact aM U U wK U
def yE(d:Bool)(n:Int):Int:=if d=true then 0 - n else n
def qF(d:Bool)(x y:List A3):List Ex->Int
 | [] =>0
 |e::r=>if yE d (cA (aC x e) (aC y e))=0 then qF d x y r else yE d (cA (aC x e) (aC y e))
def dc(s:A9)(wide:Nat)(x y:List A3):Int:=
 if qF s.down x y s.ord≠0 then qF s.down x y s.ord
 else if cA (x.getD 0 af) (y.getD 0 af)≠0\/s.frm.length<2 then cA (x.getD 0 af) (y.getD 0 af)
 else cA (x.getD wide af) (y.getD wide af)
def BI(a b:Int): -1<=fK a b/\fK a b<=1:=by
 unfold fK;repeat' split;all_goals omega
def En: ∀l:List Int,(∀x∈l,-1<=x/\x<=1)-> -1<=tC l/\tC l<=1
 | [],_=>by simp[tC]
 |x::l,h=>by
  have:=En l (fun y T=>h y (List.mem_cons_of_mem _ T));have:=h x (List.mem_cons_self ..);unfold tC;split<;>assumption
def IK(a b:List UInt8): -1<=lq a b/\lq a b<=1:=by
 unfold lq;repeat' split;all_goals omega
def IM(v w:A3): -1<=cA v w/\cA v w<=1:=En _ (by
 intro x T;simp only[List.mem_cons,List.not_mem_nil,or_false] at T;rcases T with rfl|rfl|rfl
 · exact BI _ _
 · exact BI _ _
 · exact IK _ _)
def CI(s:A9)(a1: ∀e∈s.ord,e.Ok)(a5:s.ord.length<=140737488355328)(wide:Nat)(x y:List A3)(hx:x≠ [])(hy:y≠ [])(hw:2<=s.frm.length->wide<x.length/\wide<y.length):
 CallA prog 132 [.any,.agg (s.cs.map .iv),aI wide,.iv (.sl (x.map A3.c)),.iv (.sl (y.map A3.c))] [] [] [] (aI (dc s wide x y)):=by
 have hF:((s.frm.map Str.c).length:Int)=(s.frm.length:Int):=by rw[lM]
 have gx:(x.map A3.c)[(0:Int).toNat]?=some (x.getD 0 af).c:=by
  cases x with
  |nil=>exact absurd U hx
  |cons a l=>rfl
 have gy:(y.map A3.c)[(0:Int).toNat]?=some (y.getD 0 af).c:=by
  cases y with
  |nil=>exact absurd U hy
  |cons a l=>rfl
 have k0:=ny (x.getD 0 af) (y.getD 0 af);have kw:=ny (x.getD wide af) (y.getD wide af);refine iA func132 ntmps132 (fun w0 E0=> ?_);refine wz ?_;refine ae (ι:=Nat) (fun i=>⟨[(18,aI (i:Int)),(17,aI ((s.ord.map Ex.c).length:Int)),(16,.iv (.sl (s.ord.map Ex.c))),(6,.ptr 6 0),(2,aI wide),(3,.iv (.sl (x.map A3.c))),(4,.iv (.sl (y.map A3.c)))],[(6,⟨80,.l (s.cs.map .iv)⟩)],[]⟩) (fun i=>s.ord.length - i) (fun i=>qF s.down x y s.ord=qF s.down x y (s.ord.drop i)) (i0:=0) ?_ U ?_
 · exact df
 intro i hI K hK;cases he:s.ord[i]? with
 |none=>
  have a2:=gc (l:=s.ord.map Ex.c) (bz he);rw[dL (gO he)] at hI;have h0:qF s.down x y s.ord=0:=hI;have T:dc s wide x y=if cA (x.getD 0 af) (y.getD 0 af)≠0\/s.frm.length<2 then cA (x.getD 0 af) (y.getD 0 af) else cA (x.getD wide af) (y.getD wide af):=by rw[dc,if_neg (by rw[h0];exact fun h=>h U)]
  clear hK;by_cases h1:cA (x.getD 0 af) (y.getD 0 af)=0
  · have q1:(cA (x.getD 0 af) (y.getD 0 af) !=0)=false:=by rw[h1];rfl
    by_cases h2:s.frm.length<2
    · have q2:decide (((s.frm.map Str.c).length:Int)<2)=true:=decide_eq_true C;rw[if_pos (.inr h2)] at T;rw[T];refine wz ?_;all_goals exact L.ends U U fR wK
    · have q2:decide (((s.frm.map Str.c).length:Int)<2)=false:=decide_eq_false C;obtain⟨w1,w2⟩:=hw C;have a6:(x.map A3.c)[((wide:Nat):Int).toNat]?=some (x.getD wide af).c:=by rw[iN,gP,gG w1,List.getD_eq_getElem?_getD,gG w1];rfl
      have a7:(y.map A3.c)[((wide:Nat):Int).toNat]?=some (y.getD wide af).c:=by rw[iN,gP,gG w2,List.getD_eq_getElem?_getD,gG w2];rfl
      rw[if_neg (fun h=>h.elim (fun h=>h h1) h2)] at T;rw[T];refine wz ?_;all_goals exact L.ends U U fR wK
  · have q1:(cA (x.getD 0 af) (y.getD 0 af) !=0)=true:=by simpa using h1
    rw[if_pos (.inl h1)] at T;rw[T];refine wz ?_;all_goals exact L.ends U U fR wK
 |some e=>
  have a2:=fZ (l:=s.ord.map Ex.c) (cM (f:=Ex.c) he);have a3:=fM he;have g1:(s.ord.map Ex.c)[((i:Nat):Int).toNat]?=some e.cs:=by rw[iN,gP,he,<-aN];rfl
  have aR:=a1 e (gE he);have ka:=kZ x e aR;have kb:=kZ y e aR;rw[aN] at ka kb;have kc:=ny (aC x e) (aC y e);have a4:=IM (aC x e) (aC y e);have hd:s.ord.drop i=e::s.ord.drop (i+1):=by
   obtain⟨h1,h2⟩:=gS he;rw[List.drop_eq_getElem_cons h1,h2]
  rw[hd] at hI;have ad:qF s.down x y s.ord=if yE s.down (cA (aC x e) (aC y e))=0 then qF s.down x y (s.ord.drop (i+1)) else yE s.down (cA (aC x e) (aC y e)):=hI
  by_cases hz:cA (aC x e) (aC y e)=0
  · have q1:(cA (aC x e) (aC y e) !=0)=false:=by rw[hz];rfl
    have q2:(0 - cA (aC x e) (aC y e) !=0)=false:=by rw[hz];rfl
    rw[if_pos (by unfold yE;rw[hz];split<;>rfl)] at ad;cases ar:s.down with
    |true=>
     rw[ar] at ad;(repeat' first|intro hb hp|refine LW.is (ag U (yu U C C) ?_)|refine am ?_|refine al ?_ ?_|fail)
     all_goals refine hK _ (i+1) (by rw[ar];exact ad) C ?_
     all_goals exact df
    |false=>
     rw[ar] at ad;refine wz ?_;all_goals refine hK _ (i+1) (by rw[ar];exact ad) C ?_
     all_goals exact df
  · have q1:(cA (aC x e) (aC y e) !=0)=true:=by simpa using hz
    have q2:(0 - cA (aC x e) (aC y e) !=0)=true:=by simp;omega
    have a0:yE s.down (cA (aC x e) (aC y e))≠0:=by unfold yE;split<;>omega
    rw[if_neg a0] at ad;have T:dc s wide x y=yE s.down (cA (aC x e) (aC y e)):=by rw[dc,ad,if_pos a0]
    rw[T];clear hK;cases ar:s.down with
    |true=>
     (repeat' first|intro hb hp|refine LW.is (ag U (yu U C C) ?_)|refine am ?_|refine al ?_ ?_|fail)
     all_goals exact L.ends U U fR wK
    |false=>
     refine wz ?_;all_goals exact L.ends U U fR wK
def BM{gs:aw}(s:A9)(T: ∀e∈s.ord,e.Ok)(ad:s.ord.length<=140737488355328)(t:A4)(x y:List A3)(hx:x≠ [])(hy:y≠ [])(hw:2<=s.frm.length->t.cols.length<x.length/\t.cols.length<y.length):
 CallG gs prog fO ([.iv (.sl (x.map A3.c)),.iv (.sl (y.map A3.c))] ++ep) (iS s t) (iS s t) [] (aI (dc s t.cols.length x y)):=by
 have ko:=(CI s T ad t.cols.length x y hx hy hw).toG (gs:=gs);rw[show((t.cols.length:Nat):Int)=(((t.cols.map B8.c).length:Nat):Int) by rw[lM]] at ko;refine iG func131 ntmps131 (fun w0 E0 hG=> ?_);(repeat' first|intro hb hp|refine dK (ha:=rfl) U hG ko U ?_|refine am ?_|refine al ?_ ?_|fail)
 all_goals exact L.ends U U fR wK
end Go.Proofs.Y
namespace Go.Proofs.Y
open Go.Abs
structure Ord {β:Type} (f:β->β->Int):Prop where
 anti: ∀x y,f y x= - f x y
 tr: ∀x y z,f x y<=0->f y z<=0->f x z<=0
def Ord.eq{β:Type}{f:β->β->Int}(h:Ord f){x y z:β}(h1:f x y=0)(h2:f y z=0):f x z=0:=by
 have a:=h.tr x y z C C;have b:=h.tr z y x (by rw[h.anti y z];omega) (by rw[h.anti x y];omega);rw[h.anti x z] at b;omega
def Ord.lt1{β:Type}{f:β->β->Int}(h:Ord f){x y z:β}(h1:f x y<0)(h2:f y z<=0):f x z<0:=by
 have a:=h.tr x y z C h2;by_cases e:f x z=0
 · have b:=h.tr y z x h2 (by rw[h.anti x z];omega);rw[h.anti x y] at b;omega
 · omega
def Ord.lt2{β:Type}{f:β->β->Int}(h:Ord f){x y z:β}(h1:f x y<=0)(h2:f y z<0):f x z<0:=by
 have a:=h.tr x y z h1 C;by_cases e:f x z=0
 · have b:=h.tr z x y (by rw[h.anti x z];omega) h1;rw[h.anti y z] at b;omega
 · omega
def qO{β:Type}(f g:β->β->Int)(x y:β):Int:=if f x y=0 then g x y else f x y
def Ord.lex{β:Type}{f g:β->β->Int}(T:Ord f)(hg:Ord g):Ord (qO f g) where
 anti x y:=by
  unfold qO;rw[T.anti x y];by_cases e:f x y=0
  · rw[if_pos C,if_pos e,hg.anti]
  · rw[if_neg C,if_neg e]
 tr x y z h1 h2:=by
  unfold qO at*
  by_cases e1:f x y=0
  · rw[if_pos e1] at h1;by_cases e2:f y z=0
    · rw[if_pos e2] at h2;rw[if_pos (T.eq e1 e2)];exact hg.tr x y z h1 h2
    · rw[if_neg e2] at h2;have:=T.lt2 (x:=x) (y:=y) (z:=z) C C;rw[if_neg C];omega
  · rw[if_neg e1] at h1;by_cases e2:f y z=0
    · have:=T.lt1 (x:=x) (y:=y) (z:=z) C C;rw[if_neg C];omega
    · rw[if_neg e2] at h2;have:=T.lt1 (x:=x) (y:=y) (z:=z) C C;rw[if_neg C];omega
def Ord.on{β T:Type}{f:β->β->Int}(h:Ord f)(k:T->β):Ord (fun x y=>f (k x) (k y)):=⟨fun x y=>h.anti _ _,fun x y z=>h.tr _ _ _⟩
def Ord.neg{β:Type}{f:β->β->Int}(h:Ord f):Ord (fun x y=>0 - f x y):=⟨fun x y=>by rw[h.anti x y];omega,fun x y z h1 h2=>by
 have:=h.tr z y x (by rw[h.anti y z];omega) (by rw[h.anti x y];omega);rw[h.anti x z] at this;omega⟩
def Ord.zero{β:Type}:Ord (fun(_ _:β)=>(0:Int)):=⟨fun _ _=>rfl,fun _ _ _ _ _=>Int.le_refl _⟩
def ord_cmpI:Ord fK:=⟨fun x y=>(by
 unfold fK;repeat' split;all_goals omega),fun x y z h1 h2=>by
 unfold fK at*
 repeat' split at h1
 all_goals(repeat' split at h2)
 all_goals(repeat' split)
 all_goals omega⟩
def ord_cmpS:Ord lq:=⟨fun x y=>by
 unfold lq;cases h1:Op.bytesLess x y<;>cases h2:Op.bytesLess y x<;>simp
 exact absurd (CP h1) (by rw[h2];simp),fun x y z h1 h2=>by
 have l: ∀{a b:List UInt8},lq a b<=0↔ ¬b<a:=fun{a b}=>by
  unfold lq;rw[iy,iy];by_cases T:a<b
  · simp[T,List.lt_asymm T]
  · by_cases e2:b<a<;>simp[T,e2]
 rw[l] at h1 h2|-;intro h3;have ad:x<=y:=h1;have ar:y<=z:=h2;exact(List.le_trans ad ar:x<=z) h3⟩
def BH(v w:A3):cA v w=qO (fun a b:A3=>fK a.k b.k) (qO (fun a b:A3=>fK a.n b.n) (fun a b:A3=>lq a.s b.s)) v w:=by
 unfold cA qO;simp only[tC];by_cases T:fK v.k w.k=0
 · rw[if_pos T,if_pos T];by_cases e2:fK v.n w.n=0
   · rw[if_pos e2,if_pos e2];by_cases e3:lq v.s w.s=0
     · rw[if_pos e3,e3]
     · rw[if_neg e3]
   · rw[if_neg e2,if_neg e2]
 · rw[if_neg T,if_neg T]
def ord_cmpM:Ord cA:=by
 have:cA=qO (fun a b:A3=>fK a.k b.k) (qO (fun a b:A3=>fK a.n b.n) (fun a b:A3=>lq a.s b.s)):=by funext v w;exact BH v w
 rw[this];exact(ord_cmpI.on A3.k).lex ((ord_cmpI.on A3.n).lex (ord_cmpS.on A3.s))
def nz{v w:A3}(h:cA v w=0):v=w:=by
 rw[BH] at h;unfold qO at h;have zI: ∀{a b:Int},fK a b=0->a=b:=fun{a b} h=>by unfold fK at h;(repeat' split at h)<;>omega
 have zS: ∀{a b:List UInt8},lq a b=0->a=b:=fun{a b} h=>by
  unfold lq at h;cases h1:Op.bytesLess a b
  · cases h2:Op.bytesLess b a
    · exact ve h1 h2
    · rw[h1,h2] at h;simp at h
  · rw[h1] at h;simp at h
 by_cases T:fK v.k w.k=0
 · rw[if_pos T] at h;by_cases e2:fK v.n w.n=0
   · rw[if_pos e2] at h;obtain⟨k,n,s⟩:=v;obtain⟨k',n',s'⟩:=w;have a:=zI T;have b:=zI e2;have c:=zS h;dsimp only at a b c;subst a;subst b;subst c;rfl
   · rw[if_neg e2] at h;exact absurd h e2
 · rw[if_neg T] at h;exact absurd h T
def JD{β:Type}{f:β->β->Int}(d:Bool)(h:Ord f):Ord (fun x y=>yE d (f x y)):=by
 cases d
 · exact h
 · exact h.neg
def uO(d:Bool): ∀l:List Ex,Ord (fun x y=>qF d x y l)
 | [] =>Ord.zero
 |e::r=>by
  have h:=(JD d (ord_cmpM.on (fun x=>aC x e))).lex (uO d r);exact h
def rL(s:A9)(wide:Nat):Ord (dc s wide):=by
 have k0:=ord_cmpM.on (fun x:List A3=>x.getD 0 af);have kw:=ord_cmpM.on (fun x:List A3=>x.getD wide af);by_cases h2:s.frm.length<2
 · have e:dc s wide=qO (fun x y=>qF s.down x y s.ord) (fun x y=>cA (x.getD 0 af) (y.getD 0 af)):=by
    funext x y
    unfold dc qO;by_cases e:qF s.down x y s.ord=0
    · rw[if_neg (fun h=>h e),if_pos e,if_pos (.inr h2)]
    · rw[if_pos e,if_neg e]
   rw[e];exact(uO s.down s.ord).lex k0
 · have e:dc s wide=qO (fun x y=>qF s.down x y s.ord) (qO (fun x y=>cA (x.getD 0 af) (y.getD 0 af)) (fun x y=>cA (x.getD wide af) (y.getD wide af))):=by
    funext x y
    unfold dc qO;by_cases e:qF s.down x y s.ord=0
    · rw[if_neg (fun h=>h e),if_pos e];by_cases T:cA (x.getD 0 af) (y.getD 0 af)=0
      · rw[if_neg (fun h=>h.elim (fun h=>h T) h2),if_pos T]
      · rw[if_pos (.inl T),if_neg T]
    · rw[if_pos e,if_neg e]
   rw[e];exact(uO s.down s.ord).lex (k0.lex kw)
def CH{s:A9}{wide:Nat}{x y:List A3}(h:dc s wide x y=0):x.getD 0 af=y.getD 0 af/\(2<=s.frm.length->x.getD wide af=y.getD wide af):=by
 unfold dc at h;by_cases e:qF s.down x y s.ord=0
 · rw[if_neg (fun h=>h e)] at h;by_cases T:cA (x.getD 0 af) (y.getD 0 af)≠0\/s.frm.length<2
   · rw[if_pos T] at h;exact⟨nz h,fun h2=>absurd h (T.resolve_right C)⟩
   · rw[if_neg T] at h;refine⟨nz (Classical.byContradiction fun k=>T (.inl k)),fun _=>nz h⟩
 · rw[if_pos e] at h;exact absurd h e
def xu{s:A9}{wide:Nat}{l:List (List A3)}(hk: ∀x∈l,∀y∈l,x.getD 0 af=y.getD 0 af->(2<=s.frm.length->x.getD wide af=y.getD wide af)->x=y):E4 (cL (dc s wide)) l where
 tr a b c h1 h2:=by
  have h:=rL s wide;simp only[cL,Bool.not_eq_true',decide_eq_false_iff_not] at h1 h2|-;have:=h.tr a b c (by have:=h.anti a b;omega) (by have:=h.anti b c;omega);have:=h.anti a c;omega
 tot a b:=by
  have h:=(rL s wide).anti a b;simp only[cL,Bool.or_eq_true,Bool.not_eq_true',decide_eq_false_iff_not];omega
 anti a ha b T h1 h2:=by
  have h:=(rL s wide).anti a b;simp only[cL,Bool.not_eq_true',decide_eq_false_iff_not] at h1 h2;obtain⟨k1,k2⟩:=CH (s:=s) (wide:=wide) (x:=a) (y:=b) C;exact hk a ha b T k1 k2
end Go.Proofs.Y
