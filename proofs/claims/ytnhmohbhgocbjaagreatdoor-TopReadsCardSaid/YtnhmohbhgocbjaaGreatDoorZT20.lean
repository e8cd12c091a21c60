/- Lemmas towards the law. Conditions: each one says its own. -/
import Derived.Test.YtnhmohbhgocbjaaGreatDoorZT12
set_option linter.all false
set_option maxHeartbeats 64000000
set_option maxRecDepth 100000
namespace Go.Proofs.Y
open Go.Abs Go.Proofs.Tryz
attribute [local irreducible] L Code.wp bodyPost Exit.then Exit.inBlock
def nd{x y:Int}(h:x=y):Sub (aI x) (aI y):=by subst h;exact fR
def ln(gs:au)(s:Stm)(t:Tab)(cf:List Val→List Val→Int)(l:List (List Val))(a m b:Nat):Prop:=
    CallG gs prog 207 [.bsh 1000 0 l.length 1,aI a,aI m,aI b,.fn fO eu] ((1000,bv l)::iU s t) ((1000,bv (bL (cM cf) l a b))::iU s t) [] (.tup [])
def Nc(i j:Nat)(hn:i+j<4611686018427387904): ∃k:Nat,IntKind.i64.wrap ((IntKind.u64.wrap ((i:Int)+(j:Int))).fdiv (2 ^ min (Int.toNat 1) IntKind.u64.bits))=(k:Int)∧2*k≤i+j∧i+j≤2*k+1:=⟨(i+j) / 2,Iv i j hn,by omega,by omega⟩
def Fx{gs:au}{s:Stm}{t:Tab}{cf:List Val→List Val→Int}[CallTy prog fO](l:List (List Val))(a m b c:Nat)(hL:Lin (cM cf) l)(h1:a+1<m)(h2:m+1<b)(h3:b≤l.length)(hn:l.length≤1000000)(s1:ek (cM cf) l a m)(s2:ek (cM cf) l m b)
 (hh0:IntKind.i64.wrap ((IntKind.u64.wrap ((a:Int)+(b:Int))).fdiv (2 ^ min (Int.toNat 1) IntKind.u64.bits))=(c:Int)) (hc1:2*c≤a+b) (hc2:a+b≤2*c+1) (hmc:c<m)
 (ih: ∀(l':List (List Val)) (a' m' b':Nat),l'.length=l.length→(∀x,x∈l'→x∈l)→a'<m'→m'<b'→b'≤l.length→b' - a'<b - a→ek (cM cf) l' a' m'→ek (cM cf) l' m' b'→ln gs s t cf l' a' m' b')
 (hc: ∀x∈l,∀y∈l,CallG gs prog fO ([.iv (.sl (x.map Val.c)),.iv (.sl (y.map Val.c))] ++eu) (iU s t) (iU s t) [] (aI (cf x y))):ln gs s t cf l a m b:=by
 refine iG func207 ntmps207 (fun w0 E0 hG=> ?_);have q:((m:Int) - (a:Int)==1)=false:=by simp;omega
 have q1:((b:Int) - (m:Int)==1)=false:=by simp;omega
 have q0:decide ((c:Int)<(m:Int))=true:=decide_eq_true C;obtain⟨s0,hs0⟩: ∃s0:Nat,s0=c+m - b:=⟨_,rfl⟩
 obtain⟨r0,hr0⟩: ∃r0:Nat,r0=c:=⟨_,rfl⟩
 (repeat' first|intro hb hp|refine jm rfl rfl hh0 ?_|refine am ?_|refine ak ?_ ?_|fail)
 refine ae (ι:=Nat×Nat) (fun i=>⟨[(20,aI (i.1:Int)),(21,aI (i.2:Int)),(22,aI ((c+m - 1:Nat):Int)),(19,aI ((c+m:Nat):Int)),(18,aI (c:Int)),(0,.bsh 1000 0 l.length 1),(1,aI a),(2,aI m),(3,aI b),(4,.fn fO eu)],(1000,bv l)::iU s t,[]⟩) (fun i=>i.2 - i.1) (fun i=>s0≤i.1∧i.1≤i.2∧i.2≤r0∧(s0<i.1→ ∀x y,l[i.1 - 1]?=some x→l[c+m - i.1]?=some y→cM cf x y=true)∧(i.2<r0→ ∀x y,l[i.2]?=some x→l[c+m - 1 - i.2]?=some y→cM cf y x=true)) (i0:=(s0,r0)) ?_ ⟨Nat.le_refl _,by dsimp only;omega,Nat.le_refl _,fun h=>absurd h oD,fun h=>absurd h oD⟩ ?_
 · exact Wk.mkX (fE U) (.cons U (nd oD) (.cons U (nd oD) (.cons U (nd C) (.cons U (nd C) F6)))) (fun s v h=>h) .nil
 rintro ⟨i,j⟩ ⟨hi,hij,hj,hlo,hhi⟩ K hK;dsimp only at hi hij hj hlo hhi;by_cases hk:i<j
 · have q2:decide ((i:Int)<(j:Int))=true:=decide_eq_true C;obtain⟨h,hh,h4,h5⟩:=Fa i j C hk;obtain⟨x,hx⟩: ∃x,l[h]?=some x:=⟨_,gG C⟩
   obtain⟨y,hy⟩: ∃y,l[c+m - 1 - h]?=some y:=⟨_,gG C⟩
   have hxm:x∈l:=gE hx;have hym:y∈l:=gE hy;have kc:=hc y hym x hxm;have o1:(0+((h:Nat):Int).toNat)*1=h:=nN U;have o2:(0+(((c+m - 1:Nat):Int) - (h:Int)).toNat)*1=c+m - 1 - h:=nN C;have b1:(h:Int)<(l.length:Int):=C;have b2:((c+m - 1:Nat):Int) - (h:Int)<(l.length:Int):=C;have p1:(0:Int)≤(h:Int):=C;have p2:(0:Int)≤((c+m - 1:Nat):Int) - (h:Int):=C;by_cases hcf:cf y x<0
   · have q3:decide (cf y x<0)=true:=decide_eq_true hcf;have q4:(!decide (cf y x<0))=false:=by rw[q3];rfl
     (repeat' first|intro hb hp|refine jm rfl rfl hh ?_|(refine DR.is ?_;first|refine bk U (az U U (by first|exact p1|exact p2) (by first|exact b1|exact b2) (by first|exact o1|exact o2)) ?_|refine bk U (aZ (es:=l.map ai) (k:=1) (i:=h) (f:=0) U U (jD l) C (pr hx) U) ?_|refine bk U (aZ (es:=l.map ai) (k:=1) (i:=c+m - 1 - h) (f:=0) U U (jD l) C (pr hy) U) ?_|refine eH (f:=fO) U hG U kc U (.cons U (.cons U (.cons U .nil))) mn ml U ?_)|refine am ?_|refine ak ?_ ?_|fail)
     refine hK _ (i,h) ⟨hi,by dsimp only;omega,by dsimp only;omega,hlo,fun _ u v hu hv=> ?_⟩ oD ?_
     · dsimp only at hu hv;rw[hx] at hu;rw[hy] at hv;cases hu;cases hv;exact EV hL hcf
     exact Wk.mk' kK (wF (wF (wF F7))) B4 .nil
   · have q3:decide (cf y x<0)=false:=decide_eq_false hcf;have q4:(!decide (cf y x<0))=true:=by rw[q3];rfl
     (repeat' first|intro hb hp|refine jm rfl rfl hh ?_|(refine DR.is ?_;first|refine bk U (az U U (by first|exact p1|exact p2) (by first|exact b1|exact b2) (by first|exact o1|exact o2)) ?_|refine bk U (aZ (es:=l.map ai) (k:=1) (i:=h) (f:=0) U U (jD l) C (pr hx) U) ?_|refine bk U (aZ (es:=l.map ai) (k:=1) (i:=c+m - 1 - h) (f:=0) U U (jD l) C (pr hy) U) ?_|refine eH (f:=fO) U hG U kc U (.cons U (.cons U (.cons U .nil))) mn ml U ?_)|refine am ?_|refine ak ?_ ?_|fail)
     refine hK _ (h+1,j) ⟨by dsimp only;omega,by dsimp only;omega,hj,fun _ u v hu hv=> ?_,hhi⟩ oD ?_
     · dsimp only at hu hv;rw[show h+1 - 1=h by omega,hx] at hu;rw[show c+m - (h+1)=c+m - 1 - h by omega,hy] at hv;cases hu;cases hv;exact zz hcf
     exact Wk.mk' kK (wG (wF (wF F7))) B4 .nil
 have q2:decide ((i:Int)<(j:Int))=false:=decide_eq_false C;have eij:i=j:=C;subst eij;obtain⟨e,hed⟩: ∃e:Nat,e=c+m - i:=⟨_,rfl⟩
 have he:(e:Int)=((c+m:Nat):Int) - (i:Int):=C;have x1:a≤i:=C;have x2:i≤m:=C;have x3:m≤e:=C;have x4:e≤b:=C;have x5:i≤c:=C;have x6:c≤e:=C;have hcm:c=i+(e - m):=C;have hfin:=Ew hL x1 x2 x3 x4 h3 hcm s1 s2 (fun x y k1 k2 hx hy=>hlo C x y hx (by rw[←hed];exact hy)) (fun x y k1 k2 hx hy=>hhi C y x hy (by rw[show c+m - 1 - i=e - 1 by omega];exact hx));obtain⟨r1,r2,r3,r4⟩:=AA x1 x2 x3 x4 h3 hcm s1 s2;have hl1:=kP (l:=l) x2 x3 C;have hm1: ∀x,x∈dY l i m e→x∈l:=fun x hx=>qN x2 x3 C hx
 have hL1:=hL.sub hm1;have hro:i<m→m<e→CallG gs prog 229 [.bsh 1000 0 l.length 1,aI i,aI m,aI e,.any] [(1000,bv l)] [(1000,bv (dY l i m e))] [] (.tup []):=fun k1 k2=>uW l i m e k1 k2 C hn
 have hrn: ¬(i<m∧m<e)→dY l i m e=l:=fun k=>by
  by_cases e1:i=m
  · rw[e1];exact EL C C
  · rw[show e=m by omega];exact zk C C
 have hn0:l≠ []:=fun e=>by rw[e] at h3;simp at h3;omega
 generalize dY l i m e=l1 at*
 have hl2:=mx (le:=cM cf) (l:=l1) (a:=a) (b:=c) C C;have hm2: ∀x,x∈bL (cM cf) l1 a c→x∈l:=fun x hx=>hm1 x ((nY C).1 hx)
 have r3:=iY (l':=bL (cM cf) l1 a c) r3 (fun j k1 k2=>da C C j (.inr k1));have r4:=iY (l':=bL (cM cf) l1 a c) r4 (fun j k1 k2=>da C C j (.inr C));have hsn: ¬(a<i∧i<c)→bL (cM cf) l1 a c=l1:=fun k=>ub hL1 C (by
  by_cases e1:a=i
  · rw[e1];exact r2
  · rw[show c=i by omega];exact r1)
 have hn1:l1≠ []:=fun e=>by rw[e] at hl1;simp at hl1;omega
 have hL2:=hL.sub hm2;have k1:a<i→i<c→ln gs s t cf l1 a i c:=fun y1 y2=>ih l1 a i c hl1 hm1 y1 y2 C C r1 r2
 unfold ln at k1;rw[hl1] at k1;generalize bL (cM cf) l1 a c=l2 at*
 have hn2:l2≠ []:=fun e=>by rw[e] at hl2;simp at hl2;omega
 have k2:c<e→e<b→ln gs s t cf l2 c e b:=fun y1 y2=>ih l2 c e b C hm2 y1 y2 C C r3 r4
 have hzn: ¬(c<e∧e<b)→bL (cM cf) l2 c b=l2:=fun k=>ub hL2 C (by
  by_cases e1:c=e
  · rw[e1];exact r4
  · rw[show b=e by omega];exact r3)
 unfold ln at k2;rw[hl2,hl1] at k2;rw[←hfin];generalize bL (cM cf) l2 c b=l3 at*
 rw[he] at hro k2;generalize hfin:bL (cM cf) l a b=lf at*
 clear hfin;by_cases w1:i<m∧m<e
 · have gw11:decide ((i:Int)<(m:Int))=true:=decide_eq_true C;have gw12:decide ((m:Int)<((c+m:Nat):Int) - (i:Int))=true:=decide_eq_true C;have y0:=hro w1.1 w1.2;by_cases w2:a<i∧i<c
   · have gw21:decide ((a:Int)<(i:Int))=true:=decide_eq_true C;have gw22:decide ((i:Int)<(c:Int))=true:=decide_eq_true C;have y1:=k1 w2.1 w2.2;by_cases w3:c<e∧e<b
     · have gw31:decide ((c:Int)<((c+m:Nat):Int) - (i:Int))=true:=decide_eq_true C;have gw32:decide (((c+m:Nat):Int) - (i:Int)<(b:Int))=true:=decide_eq_true C;have y2:=k2 w3.1 w3.2;(repeat' first|intro hb hp|refine ac [] rfl hG y0 (.cons fR (.cons fR (.cons fR (.cons fR (.cons (Sub.any _) .nil))))) B1 U (gq hn0) cZ U ?_|refine ac [] U hG y1 fS B4 U (cm hn1) ck U ?_|refine ac [] U hG y2 fS B4 U (cm hn2) ck U ?_|refine am ?_|refine ak ?_ ?_|fail)
       all_goals exact aM U U wK U
     · have gw3:decide ((c:Int)<((c+m:Nat):Int) - (i:Int))=false∨(decide ((c:Int)<((c+m:Nat):Int) - (i:Int))=true∧decide (((c+m:Nat):Int) - (i:Int)<(b:Int))=false):=by
        by_cases z1:(c:Int)<((c+m:Nat):Int) - (i:Int)
        · exact .inr ⟨decide_eq_true z1,decide_eq_false C⟩
        · exact .inl (decide_eq_false z1)
       have e3:=hzn w3;subst e3;rcases gw3 with gw3|⟨gw3,hw3⟩
       all_goals
        (repeat' first|intro hb hp|refine ac [] rfl hG y0 (.cons fR (.cons fR (.cons fR (.cons fR (.cons (Sub.any _) .nil))))) B1 U (gq hn0) cZ U ?_|refine ac [] U hG y1 fS B4 U (cm hn1) ck U ?_|refine am ?_|refine ak ?_ ?_|fail)
        all_goals exact aM U U wK U
   · have gw2:decide ((a:Int)<(i:Int))=false∨(decide ((a:Int)<(i:Int))=true∧decide ((i:Int)<(c:Int))=false):=by
      by_cases z1:(a:Int)<(i:Int)
      · exact .inr ⟨decide_eq_true z1,decide_eq_false C⟩
      · exact .inl (decide_eq_false z1)
     have e2:=hsn w2;subst e2;by_cases w3:c<e∧e<b
     · have gw31:decide ((c:Int)<((c+m:Nat):Int) - (i:Int))=true:=decide_eq_true C;have gw32:decide (((c+m:Nat):Int) - (i:Int)<(b:Int))=true:=decide_eq_true C;have y2:=k2 w3.1 w3.2;rcases gw2 with gw2|⟨gw2,hw2⟩
       all_goals
        (repeat' first|intro hb hp|refine ac [] rfl hG y0 (.cons fR (.cons fR (.cons fR (.cons fR (.cons (Sub.any _) .nil))))) B1 U (gq hn0) cZ U ?_|refine ac [] U hG y2 fS B4 U (cm hn2) ck U ?_|refine am ?_|refine ak ?_ ?_|fail)
        all_goals exact aM U U wK U
     · have gw3:decide ((c:Int)<((c+m:Nat):Int) - (i:Int))=false∨(decide ((c:Int)<((c+m:Nat):Int) - (i:Int))=true∧decide (((c+m:Nat):Int) - (i:Int)<(b:Int))=false):=by
        by_cases z1:(c:Int)<((c+m:Nat):Int) - (i:Int)
        · exact .inr ⟨decide_eq_true z1,decide_eq_false C⟩
        · exact .inl (decide_eq_false z1)
       have e3:=hzn w3;subst e3;rcases gw2 with gw2|⟨gw2,hw2⟩<;>rcases gw3 with gw3|⟨gw3,hw3⟩
       all_goals
        (repeat' first|intro hb hp|refine ac [] rfl hG y0 (.cons fR (.cons fR (.cons fR (.cons fR (.cons (Sub.any _) .nil))))) B1 U (gq hn0) cZ U ?_|refine am ?_|refine ak ?_ ?_|fail)
        all_goals exact aM U U wK U
 · have gw1:decide ((i:Int)<(m:Int))=false∨(decide ((i:Int)<(m:Int))=true∧decide ((m:Int)<((c+m:Nat):Int) - (i:Int))=false):=by
    by_cases z1:(i:Int)<(m:Int)
    · exact .inr ⟨decide_eq_true z1,decide_eq_false C⟩
    · exact .inl (decide_eq_false z1)
   have e1:=hrn w1;subst e1;by_cases w2:a<i∧i<c
   · have gw21:decide ((a:Int)<(i:Int))=true:=decide_eq_true C;have gw22:decide ((i:Int)<(c:Int))=true:=decide_eq_true C;have y1:=k1 w2.1 w2.2;by_cases w3:c<e∧e<b
     · have gw31:decide ((c:Int)<((c+m:Nat):Int) - (i:Int))=true:=decide_eq_true C;have gw32:decide (((c+m:Nat):Int) - (i:Int)<(b:Int))=true:=decide_eq_true C;have y2:=k2 w3.1 w3.2;rcases gw1 with gw1|⟨gw1,hw1⟩
       all_goals
        (repeat' first|intro hb hp|refine ac [] rfl hG y1 fS B4 rfl (cm hn1) ck U ?_|refine ac [] U hG y2 fS B4 U (cm hn2) ck U ?_|refine am ?_|refine ak ?_ ?_|fail)
        all_goals exact aM U U wK U
     · have gw3:decide ((c:Int)<((c+m:Nat):Int) - (i:Int))=false∨(decide ((c:Int)<((c+m:Nat):Int) - (i:Int))=true∧decide (((c+m:Nat):Int) - (i:Int)<(b:Int))=false):=by
        by_cases z1:(c:Int)<((c+m:Nat):Int) - (i:Int)
        · exact .inr ⟨decide_eq_true z1,decide_eq_false C⟩
        · exact .inl (decide_eq_false z1)
       have e3:=hzn w3;subst e3;rcases gw1 with gw1|⟨gw1,hw1⟩<;>rcases gw3 with gw3|⟨gw3,hw3⟩
       all_goals
        (repeat' first|intro hb hp|refine ac [] rfl hG y1 fS B4 rfl (cm hn1) ck U ?_|refine am ?_|refine ak ?_ ?_|fail)
        all_goals exact aM U U wK U
   · have gw2:decide ((a:Int)<(i:Int))=false∨(decide ((a:Int)<(i:Int))=true∧decide ((i:Int)<(c:Int))=false):=by
      by_cases z1:(a:Int)<(i:Int)
      · exact .inr ⟨decide_eq_true z1,decide_eq_false C⟩
      · exact .inl (decide_eq_false z1)
     have e2:=hsn w2;subst e2;by_cases w3:c<e∧e<b
     · have gw31:decide ((c:Int)<((c+m:Nat):Int) - (i:Int))=true:=decide_eq_true C;have gw32:decide (((c+m:Nat):Int) - (i:Int)<(b:Int))=true:=decide_eq_true C;have y2:=k2 w3.1 w3.2;rcases gw1 with gw1|⟨gw1,hw1⟩<;>rcases gw2 with gw2|⟨gw2,hw2⟩
       all_goals
        (repeat' first|intro hb hp|refine ac [] rfl hG y2 fS B4 rfl (cm hn2) ck U ?_|refine am ?_|refine ak ?_ ?_|fail)
        all_goals exact aM U U wK U
     · have gw3:decide ((c:Int)<((c+m:Nat):Int) - (i:Int))=false∨(decide ((c:Int)<((c+m:Nat):Int) - (i:Int))=true∧decide (((c+m:Nat):Int) - (i:Int)<(b:Int))=false):=by
        by_cases z1:(c:Int)<((c+m:Nat):Int) - (i:Int)
        · exact .inr ⟨decide_eq_true z1,decide_eq_false C⟩
        · exact .inl (decide_eq_false z1)
       have e3:=hzn w3;subst e3;rcases gw1 with gw1|⟨gw1,hw1⟩<;>rcases gw2 with gw2|⟨gw2,hw2⟩<;>rcases gw3 with gw3|⟨gw3,hw3⟩
       all_goals
        (repeat' first|intro hb hp|refine am ?_|refine ak ?_ ?_|fail)
        all_goals exact aM U U wK U
end Go.Proofs.Y
