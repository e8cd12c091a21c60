/- Lemmas towards the law. Conditions: each one says its own. -/
import Derived.Test.YtnhmohbhgocbjaaGreatDoorZU15
import Derived.LaidMore
import Derived.MakeChecks
import Derived.Stop.LaidErr
import Derived.Lib.LaidTab
set_option linter.all false
set_option maxHeartbeats 64000000
set_option maxRecDepth 100000
namespace Go.Proofs.Y
open Go.Abs Go.Proofs.Tryz
attribute [local irreducible] L Code.wp bodyPost Exit.then Exit.inBlock
def Ma{L:List Nat}{c:B0}{ps:List Pg}{n:Int}{R:List (List A3)}:((1010,ca c ps n):: [(1000,bu R)]).all (fun p=>AV.mentsIn L p.2.cs)=true:=by
 have:=cZ (L:=L) (l:=R) (id:=1000);simp only[List.all_cons,List.all_nil,Bool.and_true] at this;simp only[List.all_cons,List.all_nil,Bool.and_true,this,Bool.and_true];rfl
def CN{gs:aw}(c:B0)(ps:List Pg)(n:Int)(s:A9)(t:A4)(b:Bool)
 (k1:CallA prog 53 [.agg (c.c.map .iv),aS s.table] [] [] [] (.tup [.agg (t.c.map .iv),.iv (B b)])) (d:B0) (hk:s.kind=1)
 (T:CallG gs prog 99 [.agg (c.c.map .iv),.agg (s.cs.map .iv)] [] [] [] (.agg (d.c.map .iv))):
 CallG gs prog 60 [.ptr 1010 0,.agg (s.cs.map .iv)] [(1010,ca c ps n)] [(1010,ca d ps n)] [] (.tup [wl 0 0,aI 0]):=by
 refine iG func60 ntmps60 (fun w0 E0 hG=> ?_);have q2:(s.kind==2)=false:=by rw[hk];rfl
 have q3:(s.kind==3)=false:=by rw[hk];rfl
 have q4:(s.kind==4)=false:=by rw[hk];rfl
 have q5:(s.kind==5)=false:=by rw[hk];rfl
 have q6:(s.kind==6)=false:=by rw[hk];rfl
 have q7:(s.kind==7)=false:=by rw[hk];rfl
 (repeat' first|intro hb hp|refine tX rfl hG T rfl rfl ?_|refine am ?_|refine al ?_ ?_|fail)
 all_goals exact L.ends U U (Sub.tup (.cons (Sub.agg (.cons sE (.cons sE (.cons Sub.nils .nil)))) (.cons sE .nil))) wK
def Hx{gs:aw}(c:B0)(ps:List Pg)(n:Int)(s:A9)(t:A4)(b:Bool)
 (k1:CallA prog 53 [.agg (c.c.map .iv),aS s.table] [] [] [] (.tup [.agg (t.c.map .iv),.iv (B b)])) (d:B0) (T:List Pg) (hk:s.kind=2)
 (kw:CallG gs prog 99 [.agg (c.c.map .iv),.agg (s.cs.map .iv)] [] [] [] (.agg (d.c.map .iv)))
 (km:CallG gs prog 93 [.ptr 1010 0,.agg (s.cs.map .iv),.agg (t.c.map .iv)] [(1010,ca c ps n)] [(1010,ca c T n)] [] (.tup [])):
 CallG gs prog 60 [.ptr 1010 0,.agg (s.cs.map .iv)] [(1010,ca c ps n)] [(1010,ca d T n)] [] (.tup [wl 0 0,aI 0]):=by
 refine iG func60 ntmps60 (fun w0 E0 hG=> ?_);have q2:(s.kind==2)=true:=by rw[hk];rfl
 have q3:(s.kind==3)=false:=by rw[hk];rfl
 have q4:(s.kind==4)=false:=by rw[hk];rfl
 have q5:(s.kind==5)=false:=by rw[hk];rfl
 have q6:(s.kind==6)=false:=by rw[hk];rfl
 have q7:(s.kind==7)=false:=by rw[hk];rfl
 (repeat' first|intro hb hp|refine tX rfl hG kw rfl rfl ?_|refine ac [] rfl hG km fS B1 rfl rfl rfl rfl ?_|refine am ?_|refine al ?_ ?_|fail)
 all_goals exact L.ends U U (Sub.tup (.cons (Sub.agg (.cons sE (.cons sE (.cons Sub.nils .nil)))) (.cons sE .nil))) wK
def CL{gs:aw}(c:B0)(ps:List Pg)(n:Int)(s:A9)(t:A4)(b:Bool)
 (k1:CallA prog 53 [.agg (c.c.map .iv),aS s.table] [] [] [] (.tup [.agg (t.c.map .iv),.iv (B b)])) (T:List Pg) (m e:Int) (hk:s.kind=4)
 (km:CallG gs prog 95 [.ptr 1010 0,.agg (s.cs.map .iv),.agg (t.c.map .iv)] [(1010,ca c ps n)] [(1010,ca c T n)] [] (.tup [wl 0 m,aI e])):
 CallG gs prog 60 [.ptr 1010 0,.agg (s.cs.map .iv)] [(1010,ca c ps n)] [(1010,ca c T n)] [] (.tup [wl 0 m,aI e]):=by
 refine iG func60 ntmps60 (fun w0 E0 hG=> ?_);have q2:(s.kind==2)=false:=by rw[hk];rfl
 have q3:(s.kind==3)=false:=by rw[hk];rfl
 have q4:(s.kind==4)=true:=by rw[hk];rfl
 have q5:(s.kind==5)=false:=by rw[hk];rfl
 have q6:(s.kind==6)=false:=by rw[hk];rfl
 have q7:(s.kind==7)=false:=by rw[hk];rfl
 (repeat' first|intro hb hp|refine ac [] rfl hG km fS B1 rfl rfl rfl rfl ?_|refine am ?_|refine al ?_ ?_|fail)
 all_goals exact L.ends U U fR wK
def CJ{gs:aw}(c:B0)(ps:List Pg)(n:Int)(s:A9)(t:A4)(b:Bool)
 (k1:CallA prog 53 [.agg (c.c.map .iv),aS s.table] [] [] [] (.tup [.agg (t.c.map .iv),.iv (B b)])) (T:List Pg) (m e:Int) (hk:s.kind=6)
 (km:CallG gs prog 97 [.ptr 1010 0,.agg (s.cs.map .iv),.agg (t.c.map .iv)] [(1010,ca c ps n)] [(1010,ca c T n)] [] (.tup [wl 0 m,aI e])):
 CallG gs prog 60 [.ptr 1010 0,.agg (s.cs.map .iv)] [(1010,ca c ps n)] [(1010,ca c T n)] [] (.tup [wl 0 m,aI e]):=by
 refine iG func60 ntmps60 (fun w0 E0 hG=> ?_);have q2:(s.kind==2)=false:=by rw[hk];rfl
 have q3:(s.kind==3)=false:=by rw[hk];rfl
 have q4:(s.kind==4)=false:=by rw[hk];rfl
 have q5:(s.kind==5)=false:=by rw[hk];rfl
 have q6:(s.kind==6)=true:=by rw[hk];rfl
 have q7:(s.kind==7)=false:=by rw[hk];rfl
 (repeat' first|intro hb hp|refine ac [] rfl hG km fS B1 rfl rfl rfl rfl ?_|refine am ?_|refine al ?_ ?_|fail)
 all_goals exact L.ends U U fR wK
def CK{gs:aw}(c:B0)(ps:List Pg)(n:Int)(s:A9)(t:A4)(b:Bool)
 (k1:CallA prog 53 [.agg (c.c.map .iv),aS s.table] [] [] [] (.tup [.agg (t.c.map .iv),.iv (B b)])) (R:List (List A3)) (hk:s.kind=7)
 (T:CallG gs prog 98 [.ptr 1010 0,.agg (s.cs.map .iv)] [(1010,ca c ps n)] [(1010,ca c ps n)] [] (.iv (.sl (R.map ai)))):
 CallG gs prog 60 [.ptr 1010 0,.agg (s.cs.map .iv)] [(1010,ca c ps n)] [(1010,ca c ps n)] [] (.tup [.agg [aI 0,aI 0,.iv (.sl (R.map ai))],aI 0]):=by
 refine iG func60 ntmps60 (fun w0 E0 hG=> ?_);have q2:(s.kind==2)=false:=by rw[hk];rfl
 have q3:(s.kind==3)=false:=by rw[hk];rfl
 have q4:(s.kind==4)=false:=by rw[hk];rfl
 have q5:(s.kind==5)=false:=by rw[hk];rfl
 have q6:(s.kind==6)=false:=by rw[hk];rfl
 have q7:(s.kind==7)=true:=by rw[hk];rfl
 (repeat' first|intro hb hp|refine ac [] rfl hG T fS B1 rfl rfl rfl rfl ?_|refine am ?_|refine al ?_ ?_|fail)
 all_goals exact L.ends U U (Sub.tup (.cons (Sub.agg (.cons sE (.cons sE (.cons sE .nil)))) (.cons sE .nil))) wK
def Hy{gs:aw}(c:B0)(ps:List Pg)(n:Int)(s:A9)(t:A4)(b:Bool)
 (k1:CallA prog 53 [.agg (c.c.map .iv),aS s.table] [] [] [] (.tup [.agg (t.c.map .iv),.iv (B b)])) (d:B0) (u:A4) (b2:Bool) (R:List (List A3)) (hk:s.kind=3)
 (kw:CallG gs prog 99 [.agg (c.c.map .iv),.agg (s.cs.map .iv)] [] [] [] (.agg (d.c.map .iv)))
 (hc:H7 c) (ht:G9 u) (hD: ∀i,(cg c u (R.take i) ps).length<=1000000) (hR: ∀r∈R,r.length<=1000000) (aR:R.length<=1000000)
 (k2:CallA prog 53 [.agg (c.c.map .iv),aS s.name] [] [] [] (.tup [.agg (u.c.map .iv),.iv (B b2)]))
 (ka:CallA prog 28 [aS u.n] [] [] [] (.agg ((eh u.n).c.map .iv)))
 (kr:CallA prog 27 [.agg [.iv (.sl (ps.map Pg.c))],.agg (u.c.map .iv),.agg ((eh u.n).c.map .iv)] [] [] [] (.iv (.sl (R.map ai)))):
 CallG gs prog 60 [.ptr 1010 0,.agg (s.cs.map .iv)] [(1010,ca c ps n)] [(1010,ca d (cg c u R ps) n)] [] (.tup [wl 0 0,aI 0]):=by
 have a0:=ht.tl;have a1:=hc.il;refine iG func60 ntmps60 (fun w0 E0 hG=> ?_);have q2:(s.kind==2)=false:=by rw[hk];rfl
 have q3:(s.kind==3)=true:=by rw[hk];rfl
 have q4:(s.kind==4)=false:=by rw[hk];rfl
 have q5:(s.kind==5)=false:=by rw[hk];rfl
 have q6:(s.kind==6)=false:=by rw[hk];rfl
 have q7:(s.kind==7)=false:=by rw[hk];rfl
 have ad:((R.map ai).length:Int)=(R.length:Int):=by rw[lM]
 refine wz ?_;refine ae (ι:=Nat) (fun i=>⟨[(53,aI (i:Int)),(52,aI (R.length:Int)),(51,.iv (.sl (R.map ai))),(0,.ptr 1010 0),(3,.ptr 3 0),(4,.ptr 4 0),(6,.ptr 6 0)],[(1010,ca c (cg c u (R.take i) ps) n),(3,⟨80,.l (s.cs.map .iv)⟩),(4,⟨69,.l [aI 0,aI 0,.nils]⟩),(6,⟨57,.l (u.c.map .iv)⟩)],[]⟩) (fun i=>R.length - i) (fun i=>True) (i0:=0) ?_ trivial ?_
 · exact(Wk.mk' kK (wG (.cons U (Sub.of_eq (congrArg (fun k:Int=>AV.iv (I k)) ad)) (wG F4))) B4 .nil)
 intro i _ K hK;cases hx:R[i]? with
 |none=>
  have q:decide ((i:Int)<(R.length:Int))=false:=decide_eq_false (by have:=gO hx;omega);rw[br hx];clear hK hD;(repeat' first|intro hb hp|refine tX rfl hG kw rfl rfl ?_|refine am ?_|refine al ?_ ?_|fail)
  all_goals exact L.ends U U (Sub.tup (.cons (Sub.agg (.cons sE (.cons sE (.cons Sub.nils .nil)))) (.cons sE .nil))) wK
 |some r=>
  have ar:=fM hx;have q:decide ((i:Int)<(R.length:Int))=true:=decide_eq_true C;have hr:=hR r (gE hx);have hi:=hD i;have g1:(R.map ai)[((i:Nat):Int).toNat]?=some [.sl (r.map A3.c)]:=by rw[iN,gP,hx];rfl
  have T:cg c u (R.take (i+1)) ps=gZ (cg c u (R.take i) ps) c u r:=mQ _ hx ps;generalize cg c u (R.take i) ps=q1 at*
  have kd:=so q1 c u r C C ht.tn C C hc.inn;rw[<-T] at kd;clear hD;refine wz ?_;exact hK _ (i+1) trivial C wK
def CM{gs:aw}(c:B0)(ps:List Pg)(n:Int)(s:A9)(t:A4)(b:Bool)
 (k1:CallA prog 53 [.agg (c.c.map .iv),aS s.table] [] [] [] (.tup [.agg (t.c.map .iv),.iv (B b)])) (R:List (List A3)) (hk:s.kind=5)
 (hc:H7 c) (ht:G9 t) (hD: ∀i,(cg c t (R.take i) ps).length<=1000000) (hR: ∀r∈R,r.length<=1000000) (a3:R.length<=1000000)
 (kc:CallG gs prog 96 [.ptr 1010 0,.agg (t.c.map .iv),.agg (s.wh.cs.map .iv)] [(1010,ca c ps n)] ((1010,ca c ps n)::Cd 1000 R) [] (EC 1000 R)):
 CallG gs prog 60 [.ptr 1010 0,.agg (s.cs.map .iv)] [(1010,ca c ps n)] [(1010,ca c (cg c t R ps) n)] [] (.tup [wl 0 (R.length:Int),aI 0]):=by
 have a4:=ht.tl;have a5:=hc.il;refine iG func60 ntmps60 (fun w0 E0 hG=> ?_);have q2:(s.kind==2)=false:=by rw[hk];rfl
 have q3:(s.kind==3)=false:=by rw[hk];rfl
 have q4:(s.kind==4)=false:=by rw[hk];rfl
 have q5:(s.kind==5)=true:=by rw[hk];rfl
 have q6:(s.kind==6)=false:=by rw[hk];rfl
 have q7:(s.kind==7)=false:=by rw[hk];rfl
 have aR:((R.map ai).length:Int)=(R.length:Int):=by rw[lM]
 apply L.tail (ι:=Unit) (fun _=>⟨[(89,aI 0),(88,aI (R.length:Int)),(87,.iv (.sl (R.map ai))),(10,.iv (.sl (R.map ai))),(0,.ptr 1010 0),(3,.ptr 3 0),(4,.ptr 4 0),(6,.ptr 6 0)],[(1010,ca c ps n),(3,⟨80,.l (s.cs.map .iv)⟩),(4,⟨69,.l [aI 0,aI 0,.nils]⟩),(6,⟨57,.l (t.c.map .iv)⟩)],[]⟩) (fun _=>True)
 · intro ad;by_cases T:R= []
   · rw[T] at kc;(repeat' first|intro hb hp|refine ac [] rfl hG kc fS B1 rfl rfl rfl rfl ?_|refine am ?_|refine al ?_ ?_|fail)
     exact ad () _ trivial (Wk.mk' kK (wG (.cons U (Sub.of_eq (by rw[T];rfl)) (.cons U (by rw[T];exact Sub.nils) (.cons U (by rw[T];exact Sub.nils) F4)))) B4 .nil)
   · rw[ou T,md T] at kc;have a0:R.map ai≠ []:=fun h=>T (List.map_eq_nil_iff.1 h)
     have rR:=jB R;have a1:(R.map ai).length=R.length:=lM _;(repeat' first|intro hb hp|apply ac [1000];rfl;exact hG;exact kc;exact fS;exact B1;rfl;rfl;exact Ma;rfl;refine LW.mk ?_;refine L.pubS 1000 86 (es:=R.map ai) (k:=1) U U rR dD a0 a1 U .here ?_;refine LW.out ?_|refine am ?_|refine al ?_ ?_|fail)
     exact ad () _ trivial (Wk.mk' kK (wG (.cons U (Sub.of_eq (congrArg (fun k:Int=>AV.iv (I k)) aR)) (wG (wG F4)))) B4 .nil)
 intro _ _;clear kc;refine ae (ι:=Nat) (fun i=>⟨[(89,aI (i:Int)),(88,aI (R.length:Int)),(87,.iv (.sl (R.map ai))),(10,.iv (.sl (R.map ai))),(0,.ptr 1010 0),(3,.ptr 3 0),(4,.ptr 4 0),(6,.ptr 6 0)],[(1010,ca c (cg c t (R.take i) ps) n),(3,⟨80,.l (s.cs.map .iv)⟩),(4,⟨69,.l [aI 0,aI 0,.nils]⟩),(6,⟨57,.l (t.c.map .iv)⟩)],[]⟩) (fun i=>R.length - i) (fun i=>True) (i0:=0) ?_ trivial ?_
 · exact(Wk.mk' kK (wG (wG (wG F5))) B4 .nil)
 intro i _ K hK;cases hx:R[i]? with
 |none=>
  have q:decide ((i:Int)<(R.length:Int))=false:=decide_eq_false (by have:=gO hx;omega);rw[br hx];clear hK hD;refine wz ?_;all_goals exact L.ends U U (Sub.tup (.cons (Sub.agg (.cons sE (.cons (Sub.of_eq (congrArg (fun k:Int=>AV.iv (I k)) aR)) (.cons Sub.nils .nil)))) (.cons sE .nil))) wK
 |some r=>
  have a2:=fM hx;have q:decide ((i:Int)<(R.length:Int))=true:=decide_eq_true C;have hr:=hR r (gE hx);have hi:=hD i;have g1:(R.map ai)[((i:Nat):Int).toNat]?=some [.sl (r.map A3.c)]:=by rw[iN,gP,hx];rfl
  have ar:cg c t (R.take (i+1)) ps=gZ (cg c t (R.take i) ps) c t r:=mQ _ hx ps;generalize cg c t (R.take i) ps=q1 at*
  have kd:=so q1 c t r C C ht.tn C C hc.inn;rw[<-ar] at kd;clear hD;refine wz ?_;exact hK _ (i+1) trivial C (Wk.mk' kK (wF F7) B4 .nil)
def Bc{t:TypeId}{xs:List IV}{b:A5}(h:xs≠ [])(T:(!b.cs.isEmpty && AV.mentsIn [1000,1001] b.cs)=true):([(1000,⟨t,.r xs 0⟩),(1001,b)]:List (Nat×A5)).all (fun p=> !p.2.cs.isEmpty && AV.mentsIn (keys [(1000,(⟨t,.r xs 0⟩:A5)),(1001,b)]) p.2.cs)=true:=by
 have h0:xs.isEmpty=false:=by cases xs with|nil=>exact absurd rfl h|cons x l=>rfl
 simp only[List.all_cons,List.all_nil,Bool.and_true,aE];refine⟨⟨by cases xs with|nil=>exact absurd rfl h|cons x l=>simp,by simp[AV.mentsIn_iv,AV.mentsIn]⟩,?_⟩;simpa[keys] using T
def bo2{i n:Nat}{t:TypeId}{xs ys:List IV}{b:A5}(h:xs≠ [])(T:b.cs.isEmpty=false):dV [n] [(i,⟨t,.r xs 0⟩),(3,b)] [(n,⟨t,.r ys 0⟩),(i,⟨t,.l []⟩),(3,b)] =true:=by
 cases xs with
 |nil=>exact absurd U h
 |cons x l=>simp[dV,keys,T]
def bm2{L:List Nat}{i n:Nat}{t:TypeId}{ys:List IV}{b:A5}(T:AV.mentsIn L b.cs=true):([(n,(⟨t,.r ys 0⟩:A5)),(i,⟨t,.l []⟩),(3,b)]:List (Nat×A5)).all (fun p=>AV.mentsIn L p.2.cs)=true:=by simp[AV.mentsIn_iv,AV.mentsIn,T]
def zC{gs:aw}(c:B0)(s:A9)(ht:c.ts≠ [])(hi:c.is≠ [])(a2:c.ts.length<=3)(a3:c.is.length<=4)(k1:(s.kind==1)=false)(k2:(s.kind==2)=false)(k3:(s.kind==3)=true)
 (T:c.ts.filter (fun x=> !(x.n==s.name))≠ []) (ad:c.is.filter (fun x=> !(x.tb==s.name))≠ []):
 CallG gs prog 99 [.agg (c.c.map .iv),.agg (s.cs.map .iv)] [] [] [] (.agg ((B0.mk (c.ts.filter (fun x=> !(x.n==s.name))) (c.is.filter (fun x=> !(x.tb==s.name)))).c.map .iv)):=by
 refine iG func99 ntmps99 (fun w0 E0 hG=> ?_);have ar: ∀e∈c.ts.map A4.c,e.length=2:=by intro e he;obtain⟨t,_,rfl⟩:=mM he;rfl
 have aR: ∀e∈c.is.map A7.c,e.length=3:=by intro e he;obtain⟨t,_,rfl⟩:=mM he;rfl
 have q1:=dJ (c.ts.map A4.c) ar (by simpa using ht) (by rw[lM];simp[maxLen];omega) (by rw[lM];omega);have q2:=jg (c.is.map A7.c) aR (by simpa using hi) (by rw[lM];simp[maxLen];omega) (by rw[lM];omega);rw[lM] at q1 q2;have a0:(c.ts.map A4.c).flatten≠ []:=aD ar dD (by simpa using ht);have a1:(c.is.map A7.c).flatten≠ []:=aD aR dD (by simpa using hi);have q3:=vL (gs:=gs) (f:=142) (s:=s) (fun t=>t.n==s.name) c.ts ht C U (Bc a0 U) (fun y _=>((mj s y.n (.sl (y.cols.map B8.c))).toG (gs:=gs)).sws [(1000,1001)] U U U U U) T;have q4:=It (gs:=gs) (f:=144) (s:=s) (fun x=>x.tb==s.name) c.is hi C U (Bc a1 U) (fun y _=>((ro s y.n y.tb (S y.co)).toG (gs:=gs)).sws [(1000,1001)] U U U U U) ad;have q5:=q3.sws [(1002,68),(1001,3),(1000,11)] (args2:= [.bsh 11 0 c.ts.length 2,.fn 142 [.ptr 3 0]]) (bx2:= [(11,⟨57,.r (c.ts.map A4.c).flatten 0⟩),(3,(A5.mk 80 (.l (s.cs.map .iv))))]) (bx2':= [(68,⟨57,.r ((c.ts.filter (fun x=> !(x.n==s.name))).map A4.c).flatten 0⟩),(11,⟨57,.l []⟩),(3,(A5.mk 80 (.l (s.cs.map .iv))))]) (tk2':= []) (res2:= .bsh 68 0 (c.ts.filter (fun x=> !(x.n==s.name))).length 2) U U U U U;have q6:=q4.sws [(1002,73),(1001,3),(1000,14)] (args2:= [.bsh 14 0 c.is.length 3,.fn 144 [.ptr 3 0]]) (bx2:= [(14,⟨67,.r (c.is.map A7.c).flatten 0⟩),(3,(A5.mk 80 (.l (s.cs.map .iv))))]) (bx2':= [(73,⟨67,.r ((c.is.filter (fun x=> !(x.tb==s.name))).map A7.c).flatten 0⟩),(14,⟨67,.l []⟩),(3,(A5.mk 80 (.l (s.cs.map .iv))))]) (tk2':= []) (res2:= .bsh 73 0 (c.is.filter (fun x=> !(x.tb==s.name))).length 3) U U U U U;(repeat' first|intro hb hp|refine ag rfl (aA U) ?_|refine ac [68] U hG q5 fS B2 U (bo2 a0 U) (bm2 U) U ?_|refine ac [73] U hG q6 fS B2 U (bo2 a1 U) (bm2 U) U ?_|refine am ?_|refine al ?_ ?_|fail)
 all_goals(apply L.pubB 68 4 (es:=(c.ts.filter (fun x=> !(x.n==s.name))).map A4.c) (k:=2);rfl;rfl;(intro e he;obtain⟨t,_,rfl⟩:=mM he;rfl);decide;exact(by simpa using T);exact lM _;rfl;exact cN _ _;rfl;exact .cons .here (.cons .same .nil))
 all_goals(apply L.pubB 73 4 (es:=(c.is.filter (fun x=> !(x.tb==s.name))).map A7.c) (k:=3);rfl;rfl;(intro e he;obtain⟨t,_,rfl⟩:=mM he;rfl);decide;exact(by simpa using ad);exact lM _;rfl;exact cN _ _;rfl;exact .cons .same (.cons .here .nil))
 all_goals refine aU ?_
 all_goals rfl
def KD{i:Nat}{t:TypeId}{xs:List IV}{b:A5}(h:xs≠ [])(T:b.cs.isEmpty=false):dV [] [(i,⟨t,.r xs 0⟩),(3,b)] [(i,⟨t,.l []⟩),(3,b)] =true:=by
 cases xs with
 |nil=>exact absurd U h
 |cons x l=>simp[dV,keys,T]
def KE{L:List Nat}{i:Nat}{t:TypeId}{b:A5}(T:AV.mentsIn L b.cs=true):([(i,(⟨t,.l []⟩:A5)),(3,b)]:List (Nat×A5)).all (fun p=>AV.mentsIn L p.2.cs)=true:=by simp[AV.mentsIn,T]
def FZ{gs:aw}(s:A9)(T:(s.kind==1)=false)(k2:(s.kind==2)=false)(k3:(s.kind==3)=false):
 CallG gs prog 99 [.agg ((B0.mk [] []).c.map .iv),.agg (s.cs.map .iv)] [] [] [] (.agg ((B0.mk ([]:List A4) ([]:List A7)).c.map .iv)):=by
 refine iG func99 ntmps99 (fun w0 E0 hG=> ?_);(repeat' first|intro hb hp|(refine DR.is ?_;first|refine d_C vQ ?_|refine d_C gH ?_)|refine am ?_|refine al ?_ ?_|fail)
 all_goals refine aU ?_
 all_goals rfl
def FY{gs:aw}(s:A9)(ts:List A4)(ht:ts≠ [])(ad:ts.length<=4)(k1:(s.kind==1)=false)(k2:(s.kind==2)=false)(k3:(s.kind==3)=false):
 CallG gs prog 99 [.agg ((B0.mk ts []).c.map .iv),.agg (s.cs.map .iv)] [] [] [] (.agg ((B0.mk ts ([]:List A7)).c.map .iv)):=by
 refine iG func99 ntmps99 (fun w0 E0 hG=> ?_);have T: ∀e∈ts.map A4.c,e.length=2:=by intro e he;obtain⟨t,_,rfl⟩:=mM he;rfl
 have qT:=dJ (ts.map A4.c) T (by simpa using ht) (by rw[lM];simp[maxLen];omega) (by rw[lM];omega);rw[lM] at qT;have ar:(ts.map A4.c).flatten≠ []:=aD T dD (by simpa using ht);(repeat' first|intro hb hp|refine DR.is (d_C gH ?_)|refine am ?_|refine al ?_ ?_|fail)
 all_goals(apply L.pubB 11 4 (es:=ts.map A4.c) (k:=2);rfl;rfl;exact T;decide;exact(by simpa using ht);exact lM _;rfl;exact cN _ _;rfl;exact .cons .here (.cons .same .nil))
 all_goals refine aU ?_
 all_goals rfl
def Gg{gs:aw}(s:A9)(k1:(s.kind==1)=true):
 CallG gs prog 99 [.agg ((B0.mk [] []).c.map .iv),.agg (s.cs.map .iv)] [] [] [] (.agg ((B0.mk [⟨s.name,s.cols⟩] ([]:List A7)).c.map .iv)):=by
 refine iG func99 ntmps99 (fun w0 E0 T=> ?_);(repeat' first|intro hb hp|apply ac [];rfl;exact T;exact KC s.name;exact .of_pub U;exact .nil;rfl;rfl;rfl;rfl|apply ac [];rfl;exact T;exact(AZ [S s.name,.sl (s.cols.map B8.c)] U).toG;exact .cons fR (.cons fR (.cons (Sub.row _ _) .nil));exact .nil;rfl;rfl;rfl;rfl|(refine DR.is ?_;first|refine d_C vQ ?_|refine d_C gH ?_)|refine am ?_|refine al ?_ ?_|fail)
 all_goals refine aU ?_
 all_goals rfl
def Gf{gs:aw}(s:A9)(ts:List A4)(ht:ts≠ [])(a2:ts.length<=4)(ar:Falls (fun x=>decide (x<s.name)) (ts.map A4.n))(k1:(s.kind==1)=true):
 CallG gs prog 99 [.agg ((B0.mk ts []).c.map .iv),.agg (s.cs.map .iv)] [] [] [] (.agg ((B0.mk (ts.take (aX (ts.map A4.n) s.name)++⟨s.name,s.cols⟩::ts.drop (aX (ts.map A4.n) s.name):List A4) ([]:List A7)).c.map .iv)):=by
 refine iG func99 ntmps99 (fun w0 E0 hG=> ?_);have T: ∀e∈ts.map A4.c,e.length=2:=by intro e he;obtain⟨t,_,rfl⟩:=mM he;rfl
 have qT:=dJ (ts.map A4.c) T (by simpa using ht) (by rw[lM];simp[maxLen];omega) (by rw[lM];omega);rw[lM] at qT;have ad:(ts.map A4.c).flatten≠ []:=aD T dD (by simpa using ht);have aR:aX (ts.map A4.n) s.name<=ts.length:=by have:=jc (fun x=>decide (x<s.name)) (ts.map A4.n);rwa [lM] at this
 have uT:=sQ (ts.map A4.c) [S s.name,.sl (s.cols.map B8.c)] (aX (ts.map A4.n) s.name) T U (by simpa using ht) (by rw[lM];exact aR) (by rw[lM];simp[maxLen];omega) (by rw[lM];omega);rw[lM] at uT;have hE:(ts.map A4.c).take (aX (ts.map A4.n) s.name)++ [S s.name,.sl (s.cols.map B8.c)]::(ts.map A4.c).drop (aX (ts.map A4.n) s.name)=(ts.take (aX (ts.map A4.n) s.name)++⟨s.name,s.cols⟩::ts.drop (aX (ts.map A4.n) s.name):List A4).map A4.c:=by simp[List.map_take,List.map_drop,A4.c]
 rw[hE] at uT;have a0: ∀e∈(ts.take (aX (ts.map A4.n) s.name)++⟨s.name,s.cols⟩::ts.drop (aX (ts.map A4.n) s.name):List A4).map A4.c,e.length=2:=by intro e he;obtain⟨t,_,rfl⟩:=mM he;rfl
 have a1:((ts.take (aX (ts.map A4.n) s.name)++⟨s.name,s.cols⟩::ts.drop (aX (ts.map A4.n) s.name):List A4).map A4.c).length=ts.length+1:=by simp;omega
 have zT:=(EK (gs:=gs) ts s.name ht C ar).sws [(1000,11)] (args2:= [.bsh 11 0 ts.length 2,aS s.name,.fn 135 []]) (bx2:= [(11,⟨57,.r (ts.map A4.c).flatten 0⟩)]) (bx2':= [(11,⟨57,.r (ts.map A4.c).flatten 0⟩)]) (tk2':= []) (res2:= .tup [aI (aX (ts.map A4.n) s.name:Int),aB (bM (ts.map A4.n) s.name)]) U U U U U;(repeat' first|intro hb hp|apply ac [];rfl;exact hG;exact zT;exact fS;exact B1;rfl;exact bo1 ad;exact bm1;rfl|(refine LW.is ?_;first|apply nW (es:= [[S s.name,.sl (s.cols.map B8.c)]]);rfl;rfl;rfl;rfl;rfl;rfl;rfl;rfl;rfl|apply nV;rfl;exact uT;rfl;rfl;rfl;exact ad;exact cN _ _;rfl;rfl;rfl)|refine DR.is (d_C gH ?_)|refine am ?_|refine al ?_ ?_|fail)
 all_goals(apply L.pubB 38 4 (es:=(ts.take (aX (ts.map A4.n) s.name)++⟨s.name,s.cols⟩::ts.drop (aX (ts.map A4.n) s.name):List A4).map A4.c) (k:=2);rfl;rfl;exact a0;decide;exact sP;exact a1;rfl;exact cN _ _;rfl;exact .cons .here (.cons .same .nil))
 all_goals refine aU ?_
 all_goals rfl
def Ga{gs:aw}(s:A9)(ts:List A4)(ht:ts≠ [])(ad:ts.length<=4)(k1:(s.kind==1)=false)(k2:(s.kind==2)=true):
 CallG gs prog 99 [.agg ((B0.mk ts []).c.map .iv),.agg (s.cs.map .iv)] [] [] [] (.agg ((B0.mk ts [⟨s.name,s.table,s.col⟩]).c.map .iv)):=by
 refine iG func99 ntmps99 (fun w0 E0 hG=> ?_);have T: ∀e∈ts.map A4.c,e.length=2:=by intro e he;obtain⟨t,_,rfl⟩:=mM he;rfl
 have qT:=dJ (ts.map A4.c) T (by simpa using ht) (by rw[lM];simp[maxLen];omega) (by rw[lM];omega);rw[lM] at qT;have ar:(ts.map A4.c).flatten≠ []:=aD T dD (by simpa using ht);(repeat' first|intro hb hp|apply ac [];rfl;exact hG;exact KA s.name;exact .of_pub U;exact .nil;rfl;rfl;rfl;rfl|apply ac [];rfl;exact hG;exact(AX [S s.name,S s.table,S s.col] U).toG;exact .cons fR (.cons fR (.cons (Sub.row _ _) .nil));exact .nil;rfl;rfl;rfl;rfl|refine DR.is (d_C gH ?_)|refine am ?_|refine al ?_ ?_|fail)
 all_goals(apply L.pubB 11 4 (es:=ts.map A4.c) (k:=2);rfl;rfl;exact T;decide;exact(by simpa using ht);exact lM _;rfl;exact cN _ _;rfl;exact .cons .here (.cons .same .nil))
 all_goals refine aU ?_
 all_goals rfl
def Ge{gs:aw}(s:A9)(ts:List A4)(ht:ts≠ [])(aR:ts.length<=4)(T:ts.filter (fun x=> !(x.n==s.name))≠ [])(k1:(s.kind==1)=false)(k2:(s.kind==2)=false)(k3:(s.kind==3)=true):
 CallG gs prog 99 [.agg ((B0.mk ts []).c.map .iv),.agg (s.cs.map .iv)] [] [] [] (.agg ((B0.mk (ts.filter (fun x=> !(x.n==s.name))) ([]:List A7)).c.map .iv)):=by
 refine iG func99 ntmps99 (fun w0 E0 hG=> ?_);have ad: ∀e∈ts.map A4.c,e.length=2:=by intro e he;obtain⟨t,_,rfl⟩:=mM he;rfl
 have qT:=dJ (ts.map A4.c) ad (by simpa using ht) (by rw[lM];simp[maxLen];omega) (by rw[lM];omega);rw[lM] at qT;have ar:(ts.map A4.c).flatten≠ []:=aD ad dD (by simpa using ht);have rT:=vL (gs:=gs) (f:=142) (s:=s) (fun t=>t.n==s.name) ts ht C U (Bc ar U) (fun y _=>((mj s y.n (.sl (y.cols.map B8.c))).toG (gs:=gs)).sws [(1000,1001)] U U U U U) T;have sT:=rT.sws [(1002,68),(1001,3),(1000,11)] (args2:= [.bsh 11 0 ts.length 2,.fn 142 [.ptr 3 0]]) (bx2:= [(11,⟨57,.r (ts.map A4.c).flatten 0⟩),(3,(A5.mk 80 (.l (s.cs.map .iv))))]) (bx2':= [(68,⟨57,.r ((ts.filter (fun x=> !(x.n==s.name))).map A4.c).flatten 0⟩),(11,⟨57,.l []⟩),(3,(A5.mk 80 (.l (s.cs.map .iv))))]) (tk2':= []) (res2:= .bsh 68 0 (ts.filter (fun x=> !(x.n==s.name))).length 2) U U U U U;have sX:=(EH (gs:=gs) (f:=144) (s:=s)).sws [(1001,3)] (args2:= [.iv (.sl []),.fn 144 [.ptr 3 0]]) (bx2:= [(3,(A5.mk 80 (.l (s.cs.map .iv))))]) (bx2':= [(3,(A5.mk 80 (.l (s.cs.map .iv))))]) (tk2':= []) (res2:= .iv (.sl [])) U U U U U;(repeat' first|intro hb hp|apply ac [68];rfl;exact hG;exact sT;exact fS;exact B2;rfl;exact bo2 ar U;exact bm2 U;rfl|apply ac [];rfl;exact hG;exact sX;exact .of_pub U;exact B1;rfl;rfl;rfl;rfl|apply ag;rfl;apply aA;rfl|refine DR.is (d_C gH ?_)|refine am ?_|refine al ?_ ?_|fail)
 all_goals(apply L.pubB 68 4 (es:=(ts.filter (fun x=> !(x.n==s.name))).map A4.c) (k:=2);rfl;rfl;exact(by intro e he;obtain⟨t,_,rfl⟩:=mM he;rfl);decide;exact(by simpa using T);exact lM _;rfl;exact cN _ _;rfl;exact .cons .here (.cons .same .nil))
 all_goals refine aU ?_
 all_goals rfl
def Gd{gs:aw}(s:A9)(ts:List A4)(ht:ts≠ [])(a5:ts.length<=4)(T:ts.filter (fun x=> !(x.n==s.name))≠ [])(is:List A7)(hi:is≠ [])(a6:is.length<=4)(ad:is.filter (fun x=> !(x.tb==s.name))= [])(iX:Nat)(xX:A7)(a2: ∀y∈is.take iX,(fun x=>x.tb==s.name) y=false)(a3:is[iX]?=some xX)(a4:(fun x=>x.tb==s.name) xX=true)(k1:(s.kind==1)=false)(k2:(s.kind==2)=false)(k3:(s.kind==3)=true):
 CallG gs prog 99 [.agg ((B0.mk ts is).c.map .iv),.agg (s.cs.map .iv)] [] [] [] (.agg ((B0.mk (ts.filter (fun x=> !(x.n==s.name))) []).c.map .iv)):=by
 refine iG func99 ntmps99 (fun w0 E0 hG=> ?_);have ar: ∀e∈ts.map A4.c,e.length=2:=by intro e he;obtain⟨t,_,rfl⟩:=mM he;rfl
 have qT:=dJ (ts.map A4.c) ar (by simpa using ht) (by rw[lM];simp[maxLen];omega) (by rw[lM];omega);rw[lM] at qT;have aR:(ts.map A4.c).flatten≠ []:=aD ar dD (by simpa using ht);have rT:=vL (gs:=gs) (f:=142) (s:=s) (fun t=>t.n==s.name) ts ht C U (Bc aR U) (fun y _=>((mj s y.n (.sl (y.cols.map B8.c))).toG (gs:=gs)).sws [(1000,1001)] U U U U U) T;have sT:=rT.sws [(1002,68),(1001,3),(1000,11)] (args2:= [.bsh 11 0 ts.length 2,.fn 142 [.ptr 3 0]]) (bx2:= [(11,⟨57,.r (ts.map A4.c).flatten 0⟩),(3,(A5.mk 80 (.l (s.cs.map .iv))))]) (bx2':= [(68,⟨57,.r ((ts.filter (fun x=> !(x.n==s.name))).map A4.c).flatten 0⟩),(11,⟨57,.l []⟩),(3,(A5.mk 80 (.l (s.cs.map .iv))))]) (tk2':= []) (res2:= .bsh 68 0 (ts.filter (fun x=> !(x.n==s.name))).length 2) U U U U U;have a0: ∀e∈is.map A7.c,e.length=3:=by intro e he;obtain⟨t,_,rfl⟩:=mM he;rfl
 have qX:=jg (is.map A7.c) a0 (by simpa using hi) (by rw[lM];simp[maxLen];omega) (by rw[lM];omega);rw[lM] at qX;have a1:(is.map A7.c).flatten≠ []:=aD a0 dD (by simpa using hi);have rX:=Bu (gs:=gs) (f:=144) (s:=s) (fun x=>x.tb==s.name) is hi C U (Bc a1 U) (fun y _=>((ro s y.n y.tb (S y.co)).toG (gs:=gs)).sws [(1000,1001)] U U U U U) ad iX xX a2 a3 a4;have sX:=rX.sws [(1001,3),(1000,14)] (args2:= [.bsh 14 0 is.length 3,.fn 144 [.ptr 3 0]]) (bx2:= [(14,⟨67,.r (is.map A7.c).flatten 0⟩),(3,(A5.mk 80 (.l (s.cs.map .iv))))]) (bx2':= [(14,⟨67,.l []⟩),(3,(A5.mk 80 (.l (s.cs.map .iv))))]) (tk2':= []) (res2:= .iv (.sl [])) U U U U U;(repeat' first|intro hb hp|apply ac [68];rfl;exact hG;exact sT;exact fS;exact B2;rfl;exact bo2 aR U;exact bm2 U;rfl|apply ac [];rfl;exact hG;exact sX;exact fS;exact B2;rfl;exact KD a1 U;exact KE U;rfl|apply ag;rfl;apply aA;rfl|refine am ?_|refine al ?_ ?_|fail)
 all_goals(apply L.pubB 68 4 (es:=(ts.filter (fun x=> !(x.n==s.name))).map A4.c) (k:=2);rfl;rfl;exact(by intro e he;obtain⟨t,_,rfl⟩:=mM he;rfl);decide;exact(by simpa using T);exact lM _;rfl;exact cN _ _;rfl;exact .cons .here (.cons .same .nil))
 all_goals refine aU ?_
 all_goals rfl
def Gc{gs:aw}(s:A9)(ts:List A4)(ht:ts≠ [])(a2:ts.length<=4)(T:ts.filter (fun x=> !(x.n==s.name))= [])(iT:Nat)(xT:A4)(aR: ∀y∈ts.take iT,(fun t=>t.n==s.name) y=false)(a0:ts[iT]?=some xT)(a1:(fun t=>t.n==s.name) xT=true)(k1:(s.kind==1)=false)(k2:(s.kind==2)=false)(k3:(s.kind==3)=true):
 CallG gs prog 99 [.agg ((B0.mk ts []).c.map .iv),.agg (s.cs.map .iv)] [] [] [] (.agg ((B0.mk [] ([]:List A7)).c.map .iv)):=by
 refine iG func99 ntmps99 (fun w0 E0 hG=> ?_);have ad: ∀e∈ts.map A4.c,e.length=2:=by intro e he;obtain⟨t,_,rfl⟩:=mM he;rfl
 have qT:=dJ (ts.map A4.c) ad (by simpa using ht) (by rw[lM];simp[maxLen];omega) (by rw[lM];omega);rw[lM] at qT;have ar:(ts.map A4.c).flatten≠ []:=aD ad dD (by simpa using ht);have rT:=Bv (gs:=gs) (f:=142) (s:=s) (fun t=>t.n==s.name) ts ht C U (Bc ar U) (fun y _=>((mj s y.n (.sl (y.cols.map B8.c))).toG (gs:=gs)).sws [(1000,1001)] U U U U U) T iT xT aR a0 a1;have sT:=rT.sws [(1001,3),(1000,11)] (args2:= [.bsh 11 0 ts.length 2,.fn 142 [.ptr 3 0]]) (bx2:= [(11,⟨57,.r (ts.map A4.c).flatten 0⟩),(3,(A5.mk 80 (.l (s.cs.map .iv))))]) (bx2':= [(11,⟨57,.l []⟩),(3,(A5.mk 80 (.l (s.cs.map .iv))))]) (tk2':= []) (res2:= .iv (.sl [])) U U U U U;have sX:=(EH (gs:=gs) (f:=144) (s:=s)).sws [(1001,3)] (args2:= [.iv (.sl []),.fn 144 [.ptr 3 0]]) (bx2:= [(3,(A5.mk 80 (.l (s.cs.map .iv))))]) (bx2':= [(3,(A5.mk 80 (.l (s.cs.map .iv))))]) (tk2':= []) (res2:= .iv (.sl [])) U U U U U;(repeat' first|intro hb hp|apply ac [];rfl;exact hG;exact sT;exact fS;exact B2;rfl;exact KD ar U;exact KE U;rfl|apply ac [];rfl;exact hG;exact sX;exact .of_pub U;exact B1;rfl;rfl;rfl;rfl|apply ag;rfl;apply aA;rfl|refine DR.is (d_C gH ?_)|refine am ?_|refine al ?_ ?_|fail)
 all_goals refine aU ?_
 all_goals rfl
def Gb{gs:aw}(s:A9)(ts:List A4)(ht:ts≠ [])(a8:ts.length<=4)(T:ts.filter (fun x=> !(x.n==s.name))= [])(iT:Nat)(xT:A4)(a2: ∀y∈ts.take iT,(fun t=>t.n==s.name) y=false)(a3:ts[iT]?=some xT)(a4:(fun t=>t.n==s.name) xT=true)(is:List A7)(hi:is≠ [])(a9:is.length<=4)(ad:is.filter (fun x=> !(x.tb==s.name))= [])(iX:Nat)(xX:A7)(a5: ∀y∈is.take iX,(fun x=>x.tb==s.name) y=false)(a6:is[iX]?=some xX)(a7:(fun x=>x.tb==s.name) xX=true)(k1:(s.kind==1)=false)(k2:(s.kind==2)=false)(k3:(s.kind==3)=true):
 CallG gs prog 99 [.agg ((B0.mk ts is).c.map .iv),.agg (s.cs.map .iv)] [] [] [] (.agg ((B0.mk [] []).c.map .iv)):=by
 refine iG func99 ntmps99 (fun w0 E0 hG=> ?_);have ar: ∀e∈ts.map A4.c,e.length=2:=by intro e he;obtain⟨t,_,rfl⟩:=mM he;rfl
 have qT:=dJ (ts.map A4.c) ar (by simpa using ht) (by rw[lM];simp[maxLen];omega) (by rw[lM];omega);rw[lM] at qT;have aR:(ts.map A4.c).flatten≠ []:=aD ar dD (by simpa using ht);have rT:=Bv (gs:=gs) (f:=142) (s:=s) (fun t=>t.n==s.name) ts ht C U (Bc aR U) (fun y _=>((mj s y.n (.sl (y.cols.map B8.c))).toG (gs:=gs)).sws [(1000,1001)] U U U U U) T iT xT a2 a3 a4;have sT:=rT.sws [(1001,3),(1000,11)] (args2:= [.bsh 11 0 ts.length 2,.fn 142 [.ptr 3 0]]) (bx2:= [(11,⟨57,.r (ts.map A4.c).flatten 0⟩),(3,(A5.mk 80 (.l (s.cs.map .iv))))]) (bx2':= [(11,⟨57,.l []⟩),(3,(A5.mk 80 (.l (s.cs.map .iv))))]) (tk2':= []) (res2:= .iv (.sl [])) U U U U U;have a0: ∀e∈is.map A7.c,e.length=3:=by intro e he;obtain⟨t,_,rfl⟩:=mM he;rfl
 have qX:=jg (is.map A7.c) a0 (by simpa using hi) (by rw[lM];simp[maxLen];omega) (by rw[lM];omega);rw[lM] at qX;have a1:(is.map A7.c).flatten≠ []:=aD a0 dD (by simpa using hi);have rX:=Bu (gs:=gs) (f:=144) (s:=s) (fun x=>x.tb==s.name) is hi C U (Bc a1 U) (fun y _=>((ro s y.n y.tb (S y.co)).toG (gs:=gs)).sws [(1000,1001)] U U U U U) ad iX xX a5 a6 a7;have sX:=rX.sws [(1001,3),(1000,14)] (args2:= [.bsh 14 0 is.length 3,.fn 144 [.ptr 3 0]]) (bx2:= [(14,⟨67,.r (is.map A7.c).flatten 0⟩),(3,(A5.mk 80 (.l (s.cs.map .iv))))]) (bx2':= [(14,⟨67,.l []⟩),(3,(A5.mk 80 (.l (s.cs.map .iv))))]) (tk2':= []) (res2:= .iv (.sl [])) U U U U U;(repeat' first|intro hb hp|apply ac [];rfl;exact hG;exact sT;exact fS;exact B2;rfl;exact KD aR U;exact KE U;rfl|apply ac [];rfl;exact hG;exact sX;exact fS;exact B2;rfl;exact KD a1 U;exact KE U;rfl|apply ag;rfl;apply aA;rfl|refine am ?_|refine al ?_ ?_|fail)
 all_goals refine aU ?_
 all_goals rfl
structure D3 where
 code:Int
 n:Int
 rows:List (List A3)
abbrev D3.av(r:D3):AV:= .agg [aI r.code,aI r.n,.iv (.sl (r.rows.map ai))]
abbrev MV(r:D3):A5:=⟨69,.l [aI r.code,aI r.n,.iv (.sl (r.rows.map ai))]⟩
def ln:D3:=⟨0,0,[]⟩
def cG(c:B0)(ps:List Pg)(t:A4)(e:Ex):List (List A3):=((ci ps t (bO c t 0 e)).filter (bL e)).mergeSort (cL rW)
def og(c:B0)(ps:List Pg)(s:A9)(R:List (List A3)):List (List A3):=
 if s.frm.length=2 then R.flatMap (fun x=>(ci ps (ab c (s.frm.getD 1 [])).1 (bO c (ab c (s.frm.getD 1 [])).1 (x.length:Int) (bo x s.wh))).map (x++ ·)) else R
def jM(c:B0)(ps:List Pg)(s:A9):List (List A3):=
 Al s (ab c (s.frm.getD 0 [])).1.cols.length (og c ps s (ci ps (ab c (s.frm.getD 0 [])).1 (bO c (ab c (s.frm.getD 0 [])).1 0 s.wh)))
structure I4 where
 cat:B0
 ps:List Pg
 rep:D3
 e:Int
def cK(c:B0)(ps:List Pg)(s:A9):I4:=
 if s.kind=2 then⟨bD c s,AN (bD c s) ps (ab c s.table).1,ln,0⟩
 else if s.kind=3 then⟨bD c s,cg c (ab c s.name).1 (ci ps (ab c s.name).1 (eh (ab c s.name).1.n)) ps,ln,0⟩
 else if s.kind=4 then⟨c,(nH c ps (ab c s.table).1 s).1,⟨0,if(nH c ps (ab c s.table).1 s).2=0 then(s.rows.length:Int) else 0,[]⟩,(nH c ps (ab c s.table).1 s).2⟩
 else if s.kind=5 then⟨c,cg c (ab c s.table).1 (cG c ps (ab c s.table).1 s.wh) ps,⟨0,((cG c ps (ab c s.table).1 s.wh).length:Int),[]⟩,0⟩
 else if s.kind=6 then⟨c,(ru c ps (ab c s.table).1 s (cG c ps (ab c s.table).1 s.wh)).1,⟨0,if(ru c ps (ab c s.table).1 s (cG c ps (ab c s.table).1 s.wh)).2=0 then((cG c ps (ab c s.table).1 s.wh).length:Int) else 0,[]⟩,(ru c ps (ab c s.table).1 s (cG c ps (ab c s.table).1 s.wh)).2⟩
 else if s.kind=7 then⟨c,ps,⟨0,0,jM c ps s⟩,0⟩
 else⟨bD c s,ps,ln,0⟩
def ib:B0->List Pg->D3->Int->List A9->Except (Int×Int) (B0×List Pg×D3)
 |c,ps,r,_,[] => .ok (c,ps,r)
 |c,ps,r,i,s::l=>
  if(aJ c s).2≠0 then .error ((aJ c s).2,i+1)
  else if(cK c ps (aJ c s).1).e≠0 then .error ((cK c ps (aJ c s).1).e,i+1)
  else ib (cK c ps (aJ c s).1).cat (cK c ps (aJ c s).1).ps (cK c ps (aJ c s).1).rep (i+1) l
structure C0 where
 cat:B0
 ps:List Pg
 n:Int
abbrev C0.b(g:C0):A5:=ca g.cat g.ps g.n
def fz(g:C0)(x:Str):C0×D3:=
 if 150<=g.n then(g,⟨8,0,[]⟩)
 else if(cj x).2≠0 then(⟨g.cat,g.ps,g.n+1⟩,⟨(cj x).2,0,[]⟩)
 else match ib g.cat g.ps ln 0 (cj x).1 with
  | .error e=>(⟨g.cat,g.ps,g.n+1⟩,⟨e.1,e.2,[]⟩)
  | .ok r=>(⟨r.1,r.2.1,g.n+1⟩,r.2.2)
def ur(x:Str):(cj x).1.length<=6:=by
 unfold cj;split
 · simp
 split
 · simp
 split
 · simp
 · dsimp only;omega
variable [C3]
def Me(g:C0)(x:Str)(aR:0<=g.n)(I:B0->List Pg->Prop)(h0:I g.cat g.ps)
 (hB: ∀c ps,I c ps-> ∀s∈(cj x).1,CallG cH prog 59 [.agg (c.c.map .iv),.agg (s.cs.map .iv)] [] [] [] (.tup [.agg ((aJ c s).1.cs.map .iv),aI (aJ c s).2]))
 (hO: ∀c ps,I c ps-> ∀s∈(cj x).1,(aJ c s).2=0->CallG cH prog 60 [.ptr 1010 0,.agg ((aJ c s).1.cs.map .iv)] [(1010,ca c ps 0)]
    [(1010,ca (cK c ps (aJ c s).1).cat (cK c ps (aJ c s).1).ps 0)] [] (.tup [(cK c ps (aJ c s).1).rep.av,aI (cK c ps (aJ c s).1).e])/\((cK c ps (aJ c s).1).e=0->I (cK c ps (aJ c s).1).cat (cK c ps (aJ c s).1).ps)):
 CallG cH prog 30 [.ptr 1010 0,.agg [aS x]] [(1010,g.b)] [(1010,(fz g x).1.b)] [] ((fz g x).2.av):=by
 obtain⟨c,ps,n⟩:=g;dsimp only at aR h0|-;have ks:=uu x;have a0:=ur x;unfold fz;dsimp only;have q0:True:=trivial;refine iG func30 ntmps30 (fun w0 E0 hG=> ?_);by_cases hn:150<=n
 · rw[if_pos hn];have q:decide ((150:Int)<=n)=true:=decide_eq_true hn;refine wz ?_;all_goals exact L.ends U U (Sub.agg (.cons sE (.cons sE (.cons Sub.nils .nil)))) wK
 rw[if_neg hn];have q:decide ((150:Int)<=n)=false:=decide_eq_false hn;generalize cj x=S at*
 obtain⟨l,e⟩:=S;dsimp only at ks hB hO a0|-;by_cases he:e=0
 case neg=>
  rw[if_pos he];have q1:(e !=0)=true:=by simpa using he
  (repeat' first|intro hb hp|refine dK (ha:=rfl) U hG ks U ?_|refine am ?_|refine al ?_ ?_|fail)
  all_goals exact L.ends U U (Sub.agg (.cons sE (.cons sE (.cons Sub.nils .nil)))) wK
 rw[if_neg (fun h=>h he)];subst he;have q1:((0:Int) !=0)=false:=rfl;generalize hZ:ib c ps ln 0 l=Z;(repeat' first|intro hb hp|refine dK (ha:=rfl) U hG ks U ?_|refine am ?_|refine al ?_ ?_|fail)
 refine ae (ι:=Nat×B0×List Pg×D3) (fun i=>⟨[(52,aI (i.1:Int)),(51,aI ((l.map A9.cs).length:Int)),(50,.iv (.sl (l.map A9.cs))),(0,.ptr 1010 0),(4,.ptr 4 0),(7,.ptr 7 0),(8,.ptr 8 0)],
  [(1010,ca c ps (n+1)),(4,⟨69,.l [aI 0,aI 0,.nils]⟩),(7,ca i.2.1 i.2.2.1 0),(8,MV i.2.2.2)],[]⟩) (fun i=>l.length - i.1) (fun i=>I i.2.1 i.2.2.1/\ib i.2.1 i.2.2.1 i.2.2.2 (i.1:Int) (l.drop i.1)=Z) (i0:=(0,c,ps,ln)) ?_ ⟨h0,hZ⟩ ?_
 · exact Wk.mk' kK (wG (wG (wG F4))) (wB (wB (wB (.cons U U (.cons sE (.cons sE (.cons Sub.nils .nil))) .nil)))) .nil
 rintro ⟨i,c1,T,r1⟩ ⟨hi,hJ⟩ K hK;dsimp only at hi hJ hK;cases hx:l[i]? with
 |none=>
  have a1:=gc (l:=l.map A9.cs) (bz hx);rw[dL (gO hx),ib] at hJ;subst hJ;clear hK hB hO;dsimp only;refine wz ?_;all_goals exact L.ends U U sE wK
 |some s=>
  have a1:=fZ (l:=l.map A9.cs) (cM (f:=A9.cs) hx);have a5:=fM hx;have hm:=gE hx;have g1:(l.map A9.cs)[((i:Nat):Int).toNat]?=some s.cs:=by rw[iN,gP,hx];rfl
  have kb:=hB c1 T hi s hm;have ad:=hO c1 T hi s hm;have a2:l.drop i=s::l.drop (i+1):=fu hx;have a3:(i:Int)+1=((i+1:Nat):Int):=C;rw[a2,ib] at hJ;clear hB hO ks;generalize aJ c1 s=bs at*
  obtain⟨b,f⟩:=bs;dsimp only at kb ad hJ;by_cases hf:f=0
  case neg=>
   rw[if_pos hf] at hJ;subst hJ;clear hK ad;have q2:(f==0)=false:=by simpa using hf
   have q3:(f !=0)=true:=by simpa using hf
   dsimp only;(repeat' first|intro hb hp|refine dK (ha:=rfl) U hG kb U ?_|refine LW.is (ag U (iU U U C C) ?_)|refine am ?_|refine al ?_ ?_|fail)
   all_goals exact L.ends U U (Sub.agg (.cons sE (.cons sE (.cons Sub.nils .nil)))) wK
  rw[if_neg (fun h=>h hf)] at hJ;subst hf;obtain⟨ko,ar⟩:=ad U;have ko:=ko.sws [(1010,7)] (args2:= [.ptr 7 0,.agg (b.cs.map .iv)]) (bx2:= [(7,ca c1 T 0)]) (bx2':= [(7,ca (cK c1 T b).cat (cK c1 T b).ps 0)]) (tk2':= []) (res2:= .tup [(cK c1 T b).rep.av,aI (cK c1 T b).e]) U U U U U;have q2:((0:Int)==0)=true:=rfl;clear ad;generalize cK c1 T b=o at*
  obtain⟨c2,a4,r2,f2⟩:=o;dsimp only at ko ar hJ;by_cases hf:f2=0
  case neg=>
   rw[if_pos hf] at hJ;subst hJ;clear hK;have q3:(f2 !=0)=true:=by simpa using hf
   dsimp only;(repeat' first|intro hb hp|refine dK (ha:=rfl) U hG kb U ?_|refine ac [] U hG ko fS B1 U U U U ?_|refine LW.is (ag U (iU U U C C) ?_)|refine am ?_|refine al ?_ ?_|fail)
   all_goals exact L.ends U U (Sub.agg (.cons sE (.cons sE (.cons Sub.nils .nil)))) wK
  rw[if_neg (fun h=>h hf)] at hJ;subst hf;have q3:((0:Int) !=0)=false:=rfl;(repeat' first|intro hb hp|refine dK (ha:=rfl) U hG kb U ?_|refine ac [] U hG ko fS B1 U U U U ?_|refine LW.is (ag U (iU U U C C) ?_)|refine am ?_|refine al ?_ ?_|fail)
  exact hK _ (i+1,c2,a4,r2) ⟨ar U,a3▸hJ⟩ oD wK
end Go.Proofs.Y
namespace Go.Proofs.Y
open Go.Abs
def gR{c:B0}{ps:List Pg}{D:Str->List (List A3)}(h:DB c ps D){t:A4}(ht:t∈c.ts):(ci ps t (eh t.n)).Perm (D t.n):=by
 obtain⟨_,P,T,hP⟩:=Bl (Hold:=fun _=>True) h ht;rw[List.filter_eq_self.2 (fun r hr=>hP r hr trivial)] at T;exact T
def Fv{c:B0}{ps:List Pg}{D:Str->List (List A3)}(h:DB c ps D){t:A4}(ht:t∈c.ts){row:List A3}(hn:(getM ps (ap t.n (row.getD 0 af))).2=false): ∀r∈D t.n,r.getD 0 af≠row.getD 0 af:=fun r hr e=>by
 have:(getM ps (ap t.n (row.getD 0 af))).2=true:=(Ig h.good).2 ⟨de r,(h.mem _ _).2 ⟨t,ht,r,hr,.inl ⟨by rw[jD,e],rfl⟩⟩⟩;rw[this] at hn;cases hn
def FM{t:A4}(T:cv t=true){i:Nat}{c:B8}(hc:t.cols[i]?=some c):c.t=1\/c.t=2:=by
 simp only[cv,aE] at T;have:=aT T.1 (c,i) (List.mem_zipIdx_iff_getElem?.2 hc);simp only[ti,Bool.not_eq_true',Bool.or_eq_false_iff,Bool.and_eq_false_iff,bne_eq_false_iff_eq] at this;exact this.1.2
def Kg{t:A4}(hg:cv t=true){row:List A3}(hl:row.length=t.cols.length)(ad: ∀(i:Nat) (c:B8),t.cols[i]?=some c->tQ c.t (row.getD i af))(hf:zn t row=true):jK t row=true:=by
 rw[jK,aE];refine⟨by simp[hl],List.all_eq_true.2 (fun p hp=> ?_)⟩;obtain⟨c,i⟩:=p;have hc:=List.mem_zipIdx_iff_getElem?.1 hp;dsimp only at hc|-;have ht:=FM hg hc;obtain⟨h1,h2⟩:=ad i c hc;have hi:=(gS hc).1;have T:nD t row i=false:=by
  cases T:nD t row i with
  |false=>rfl
  |true=>rw[Le T] at hf;cases hf
 rw[nD,hc] at T;dsimp only at T;have ar:=h2 C;generalize row.getD i af=v at*
 unfold De;rw[ar];rcases h1 with h1|h1
 · rw[h1] at T|-;have:c.m=false:=by simpa using T
   simp[this]
 · simp[h1]
def Kf{t:A4}{row:List A3}(h:jK t row=true): ∀(i:Nat) (c:B8),t.cols[i]?=some c->tQ c.t (row.getD i af):=fun i c hc=>by
 simp only[jK,aE] at h;have:=ow h.2 i c hc;rw[Nat.zero_add] at this;exact EE this
def EI.sz{c:B0}{ps:List Pg}{D:Str->List (List A3)}(h:EI c ps D):I8 ps:=⟨by have:=h.pages;omega,h.db.small⟩
def sD{c:B0}{ps:List Pg}{D:Str->List (List A3)}(h:EI c ps D){t:A4}(ht:t∈c.ts){row:List A3}(hl:row.length=t.cols.length)(ad: ∀(i:Nat) (c:B8),t.cols[i]?=some c->tQ c.t (row.getD i af)): ∃D',EI c (jG c ps t row).1 D':=by
 unfold jG;split
 · exact⟨D,h⟩
 rename_i hf;split
 · exact⟨D,h⟩
 rename_i hk;split
 · exact⟨D,h⟩
 rename_i ar;have hf:zn t row=true:=by simpa using hf
 have T:=Kg (h.db.cat.tabs t ht) hl ad hf;have hp:=gR h.db ht;refine⟨_,h.db.put ht (sh T) (Fv h.db ht (by simpa using hk)),fun u hu=> ?_,fun u hu r hr=> ?_⟩
 · by_cases e:u.n=t.n
   · rw[e,cq,gV];have:=hp.length_eq;simp only[lC,List.length_nil];omega
   · rw[fk e];exact h.few u hu
 · by_cases e:u.n=t.n
   · have e':=h.db.cat.tinj hu ht e;subst e';rw[cq] at hr;rcases mA hr with hr|hr
     · exact h.fits u hu r hr
     · rw[List.mem_singleton.1 hr];exact T
   · rw[fk e] at hr;exact h.fits u hu r hr
def oS{c:B0}{t:A4}(ht:t∈c.ts): ∀(l:List (List A3)) {ps:List Pg},(∃D,EI c ps D)->(∀r∈l,r.length=t.cols.length/\ ∀(i:Nat) (c:B8),t.cols[i]?=some c->tQ c.t (r.getD i af))-> ∃D,EI c (iL c t ps l).1 D
 | [],ps,h,_=>h
 |r::l,ps,⟨D,h⟩,hl=>by
  have hr:=hl r (List.mem_cons_self ..);have ha:=sD h ht hr.1 hr.2;unfold iL;split
  · exact ha
  · exact oS ht l ha (fun r' T=>hl r' (List.mem_cons_of_mem _ T))
def lQ{c:B0}{t:A4}: ∀(R:List (List A3)) (ps:List Pg),(cg c t R ps).length<=ps.length
 | [],ps=>Nat.le_refl _
 |r::R,ps=>Nat.le_trans (lQ R (gZ ps c t r)) (FK ps c t r)
def uI{c:B0}{t:A4}: ∀(R:List (List A3)) (ps:List Pg),(kJ c t R ps).length<=ps.length+R.length*(c.is.length+1)
 | [],ps=>by simp[kJ]
 |r::R,ps=>by
  have h1:=uI (c:=c) (t:=t) R (lp ps c t r);have h2:=Hp ps c t r;have e:kJ c t (r::R) ps=kJ c t R (lp ps c t r):=rfl;rw[e,lC,Nat.add_mul];omega
section
variable {c:B0}{ps:List Pg}{D:Str->List (List A3)}
def rq(h:DB c ps D){t:A4}(ht:t∈c.ts)(pre:List A3)(e:Ex):(bO c t (pre.length:Int) e).i.length<=8/\(∀r∈ci ps t (bO c t (pre.length:Int) e),r∈D t.n)/\(ci ps t (bO c t (pre.length:Int) e)).length<=(D t.n).length/\ ∀r∈D t.n,bL e (pre++r)=true->r∈ci ps t (bO c t (pre.length:Int) e):=by
 obtain⟨h1,P,T,hP⟩:=BL h ht pre e;refine⟨h1,fun r hr=>(List.mem_filter.1 (T.mem_iff.1 hr)).1,?_,fun r hr hh=>T.mem_iff.2 (List.mem_filter.2 ⟨hr,hP r hr hh⟩)⟩;rw[T.length_eq];exact List.length_filter_le ..
def jX(h:DB c ps D){t:A4}(ht:t∈c.ts)(e:Ex):(bO c t 0 e).i.length<=8/\(∀r∈ci ps t (bO c t 0 e),r∈D t.n)/\(ci ps t (bO c t 0 e)).length<=(D t.n).length/\ ∀r∈D t.n,bL e r=true->r∈ci ps t (bO c t 0 e):=rq h ht [] e
def nA(h:DB c ps D){t:A4}(ht:t∈c.ts)(e:Ex)(r:List A3):r∈cG c ps t e↔r∈D t.n/\bL e r=true:=by
 obtain⟨_,h1,_,h2⟩:=jX h ht e;rw[cG,List.mem_mergeSort,List.mem_filter];exact⟨fun T=>⟨h1 r T.1,T.2⟩,fun T=>⟨h2 r T.1 T.2,T.2⟩⟩
def vR(h:EI c ps D){t:A4}(ht:t∈c.ts)(e:Ex):(cG c ps t e).length<=30:=by
 obtain⟨_,_,h1,_⟩:=jX h.db ht e;have h2:=h.few t ht;have h3:=List.length_filter_le (bL e) (ci ps t (bO c t 0 e));rw[cG,List.length_mergeSort];omega
def EI.drops(h:EI c ps D){t:A4}(ht:t∈c.ts){R L':List (List A3)}(T: ∀r∈R,r∈D t.n)(hL: ∀r,r∈L'↔r∈D t.n/\r∉R)(hs:L'.Sublist (D t.n)):EI c (cg c t R ps) (yv D t.n L'):=by
 refine⟨h.db.drops ht T hL ((h.db.dis t ht).sublist hs),fun u hu=> ?_,fun u hu r hr=> ?_⟩
 · by_cases e:u.n=t.n
   · have:=h.few t ht;rw[e,cq];exact Nat.le_trans hs.length_le this
   · rw[fk e];exact h.few u hu
 · by_cases e:u.n=t.n
   · have e':=h.db.cat.tinj hu ht e;subst e';rw[cq] at hr;exact h.fits u hu r (hs.subset hr)
   · rw[fk e] at hr;exact h.fits u hu r hr
def EI.drop_chosen(h:EI c ps D){t:A4}(ht:t∈c.ts)(e:Ex):EI c (cg c t (cG c ps t e) ps) (yv D t.n ((D t.n).filter (fun r=> !bL e r))):=by
 have hm:=nA h.db ht e;refine h.drops ht (fun r hr=>((hm r).1 hr).1) (fun r=> ?_) List.filter_sublist;rw[List.mem_filter,hm];cases bL e r<;>simp
def wV{t:A4}{row:List A3}(hr:jK t row=true): ∀(l:List D4) (own:List A3),own.length=t.cols.length->(∀x∈l,0<=aV t x.co/\tQ (eQ t (aV t x.co)) (aC row x.e))->(∀(i:Nat) (c:B8),t.cols[i]?=some c->tQ c.t (own.getD i af))->
 ∀(i:Nat) (c:B8),t.cols[i]?=some c->tQ c.t ((l.foldl (fun own x=>own.set (aV t x.co).toNat (aC row x.e)) own).getD i af)
 | [],own,_,_,ho=>ho
 |x::l,own,hl,T,ho=>by
  rw[List.foldl_cons];refine wV hr l _ (by rw[List.length_set];exact hl) (fun y hy=>T y (List.mem_cons_of_mem _ hy)) (fun i c hc=> ?_);obtain⟨h1,h2⟩:=T x (List.mem_cons_self ..);rw[List.getD_eq_getElem?_getD,List.getElem?_set];by_cases e:(aV t x.co).toNat=i
  · rw[if_pos e];have hi:=(gS hc).1;rw[if_pos (by rw[hl,e];exact hi)];have:eQ t (aV t x.co)=c.t:=by rw[eQ,e,List.getD_eq_getElem?_getD,hc];rfl
    rw[<-this];exact h2
  · rw[if_neg e,<-List.getD_eq_getElem?_getD];exact ho i c hc
def Jo{s b:A9}(T:I5 c s b){row:List A3}(hr:jK (ab c s.table).1 row=true): ∀x∈b.sets,0<=aV (ab c s.table).1 x.co/\tQ (eQ (ab c s.table).1 (aV (ab c s.table).1 x.co)) (aC row x.e):=fun x hx=>by
 obtain⟨h1,y,hy,h2⟩:=T.sets x hx;refine⟨h1,xy (Hj hr) (fun ho=>vu (T.form y.e ?_) ho) h2⟩;simp only[dq,List.mem_append,List.mem_map];exact .inl (.inr ⟨y,hy,rfl⟩)
def DS{s b:A9}(hU:I5 c s b){row:List A3}(hr:jK (ab c s.table).1 row=true):(cP (ab c s.table).1 b.sets row).length=(ab c s.table).1.cols.length/\ ∀(i:Nat) (T:B8),(ab c s.table).1.cols[i]?=some T->tQ T.t ((cP (ab c s.table).1 b.sets row).getD i af):=
 ⟨by rw[kj];exact(sh hr).1,wV hr b.sets row (sh hr).1 (Jo hU hr) (Kf hr)⟩
def rN(h:EI c ps D){s b:A9}(hb:aJ c s=(b,0)): ∃D',EI (cK c ps b).cat (cK c ps b).ps D':=by
 obtain⟨hg,a5,hp⟩:=ee hb;have hW:=qt hb;have hk:=eD hp;by_cases a2:s.kind=1\/s.kind=2\/s.kind=3
 · have a6:=uL a2 hp;subst a6;by_cases h1:b.kind=1
   · have e:cK c ps b=⟨bD c b,ps,ln,0⟩:=by simp[cK,h1]
     rw[e];rw[eL,if_pos h1] at hp;have he:=(Prod.mk.inj hp).2;unfold px at he;split at he
     · cases he
     split at he
     · cases he
     rename_i hn;have T: ∀t,t∈(bD c b).ts↔t=⟨b.name,b.cols⟩\/t∈c.ts:=fun t=>by
      have:(bD c b).ts=c.ts.take (aX (c.ts.map A4.n) b.name)++⟨b.name,b.cols⟩::c.ts.drop (aX (c.ts.map A4.n) b.name):=by simp[bD,h1]
      rw[this];exact ins_mem
     have a0: ∀t∈c.ts,t.n≠b.name:=findT_none.1 (by simpa using hn);refine⟨_,h.db.create hW.good T (by simp[bD,h1]) a0,fun t ht=> ?_,fun t ht r hr=> ?_⟩
     · rcases(T t).1 ht with rfl|ad
       · rw[cq];simp
       · rw[fk (a0 t ad)];exact h.few t ad
     · rcases(T t).1 ht with rfl|ad
       · rw[cq] at hr;cases hr
       · rw[fk (a0 t ad)] at hr;exact h.fits t ad r hr
   · by_cases h2:b.kind=2
     · have e:cK c ps b=⟨bD c b,AN (bD c b) ps (ab c b.table).1,ln,0⟩:=by simp[cK,h2]
       rw[e];rw[eL,if_neg h1,if_pos h2] at hp;have he:=(Prod.mk.inj hp).2;unfold va at he;split at he
       · cases he
       split at he
       · cases he
       rename_i ht;simp only[not_or,Bool.not_eq_false,Int.not_lt] at ht;obtain⟨hm,hn⟩:=bU ht.1;have T:(bD c b).ts=c.ts:=by simp[bD,h2]
       refine⟨D,h.db.mark hW.good (x:=⟨b.name,b.table,b.col⟩) T (fun y=> ?_) hm hn.symm (fun r=>(gR h.db hm).mem_iff),fun t ad=>h.few t (T▸ad),fun t ad=>h.fits t (T▸ad)⟩;have:(bD c b).is=c.is.take (aX (c.is.map A7.n) b.name)++⟨b.name,b.table,b.col⟩::c.is.drop (aX (c.is.map A7.n) b.name):=by simp[bD,h2]
       rw[this];exact ins_mem
     · have h3:b.kind=3:=C;have e:cK c ps b=⟨bD c b,cg (c:=c) (t:=(ab c b.name).1) (ci ps (ab c b.name).1 (eh (ab c b.name).1.n)) ps,ln,0⟩:=by simp[cK,h3]
       rw[e];rw[eL,if_neg h1,if_neg h2,if_pos h3] at hp;have he:=(Prod.mk.inj hp).2;cases hf:(ab c b.name).2 with
       |false=>rw[hf] at he;simp at he
       |true=>
        obtain⟨hm,hn⟩:=bU hf;have a3:=gR h.db hm;have hE:=h.drops hm (R:=ci ps (ab c b.name).1 (eh (ab c b.name).1.n)) (L':= []) (fun r hr=>a3.mem_iff.1 hr) (fun r=>⟨fun h=>(by cases h),fun h=>absurd (a3.mem_iff.2 h.1) h.2⟩) (List.nil_sublist _);have T: ∀t,t∈(bD c b).ts↔t∈c.ts/\t.n≠b.name:=fun t=>by simp[bD,h3]
        refine⟨_,hE.db.drop hW.good T (fun x=>by simp[bD,h3]) (by rw[hn];exact cq _ _ _),fun t ht=>hE.few t ((T t).1 ht).1,fun t ht=>hE.fits t ((T t).1 ht).1⟩
 · by_cases h7:s.kind=7
   · have e:cK c ps b=⟨c,ps,⟨0,0,jM c ps b⟩,0⟩:=by
      rw[cK,if_neg C,if_neg C,if_neg C,if_neg C,if_neg C,if_pos C]
     rw[e];exact⟨D,h⟩
   · have a8:=sd (py hb).1;have aR:s.kind=4\/s.kind=5\/s.kind=6:=C;have hC:=zx aR hp;have hU:=Cn aR hb;obtain⟨hm,hn⟩:=bU hC.tab;have a1:b.table=s.table:=by rw[hC.eq]
     by_cases h4:s.kind=4
     · have e:cK c ps b=⟨c,(nH c ps (ab c b.table).1 b).1,⟨0,if(nH c ps (ab c b.table).1 b).2=0 then(b.rows.length:Int) else 0,[]⟩,(nH c ps (ab c b.table).1 b).2⟩:=by
        rw[cK,if_neg C,if_neg C,if_pos C]
       rw[e,a1];refine oS hm _ ⟨D,h⟩ (fun r hr=> ?_);obtain⟨r',a4,rfl⟩:=mM hr;rw[hC.eq] at a4;obtain⟨r0,ar,rfl⟩:=mM a4;have h0:=mS hC.rowsE _ (List.mem_map_of_mem (f:=fun r=>(eH (ab c s.table).1 r).2) ar);obtain⟨h5,h6⟩:=Au h0 (fun e he=>a5 e (by
        simp only[dq,List.mem_append];exact .inl (.inl (.inr (List.mem_flatten.2 ⟨r0,ar,he⟩)))))
       exact⟨by rw[lM];exact h5,h6⟩
     by_cases h5:s.kind=5
     · have e:cK c ps b=⟨c,cg c (ab c b.table).1 (cG c ps (ab c b.table).1 b.wh) ps,⟨0,((cG c ps (ab c b.table).1 b.wh).length:Int),[]⟩,0⟩:=by
        rw[cK,if_neg C,if_neg C,if_neg C,if_pos C]
       rw[e,a1];exact⟨_,h.drop_chosen hm b.wh⟩
     · have e:cK c ps b=⟨c,(ru c ps (ab c b.table).1 b (cG c ps (ab c b.table).1 b.wh)).1,⟨0,if(ru c ps (ab c b.table).1 b (cG c ps (ab c b.table).1 b.wh)).2=0 then((cG c ps (ab c b.table).1 b.wh).length:Int) else 0,[]⟩,(ru c ps (ab c b.table).1 b (cG c ps (ab c b.table).1 b.wh)).2⟩:=by
        rw[cK,if_neg C,if_neg C,if_neg C,if_neg C,if_pos C]
       rw[e,a1];refine oS hm _ ⟨_,h.drop_chosen hm b.wh⟩ (fun r hr=> ?_);obtain⟨r0,ar,rfl⟩:=mM hr;have a7:=((nA h.db hm b.wh r0).1 ar).1;exact DS hU (h.fits _ hm r0 a7)
end
def xF(row:List A3): ∀{n:Nat} {e:Ex},H1 n e->H1 n (bo row e)
 |0,e,h=>by cases h
 |n+1,.mk op v s name i l,h=>by
  rw[mK];split
  · exact .mk sP
  · cases h with
    |mk h=>exact .mk (fun x T=>by obtain⟨y,hy,rfl⟩:=mM T;exact xF row (h y hy))
def vf(row:List A3){m:Int}: ∀{e:Ex},F8 m e->F8 m (bo row e)
 | .mk op v s name i l,h=>by
   rw[mK];cases h with
   |mk h0 h=>
    split
    · exact .mk (fun e=>by cases e) sP
    · exact .mk h0 (fun x T=>by obtain⟨y,hy,rfl⟩:=mM T;exact vf row (h y hy))
def Fu(row:List A3){e:Ex}(h:e.op=0):(bo row e).op=0:=by
 obtain⟨op,v,s,name,n,l⟩:=e;have h:op=0:=h;subst h;rw[mK,if_neg (fun h=>by have:=h.1;omega)];rfl
def Fg{e:Ex}(h:e.op=0):(cQ e).length<=549755813888/\ ∀p∈cQ e,(bk p).1= -1:=by
 obtain⟨op,v,s,name,n,l⟩:=e;have h:op=0:=h;subst h;rw[gW v s name n (fun e=>by have:=e.1;omega)];refine⟨by simp,fun p T=> ?_⟩;rw[List.mem_singleton] at T;rw[T,bk,if_pos (.inl (by simp[Ex.op_mk]))]
def AR(row:List A3){ts:List A4}{e b:Ex}(T:dN ts e=(b,0))(hg:e.op≠0->bX 1 e=true):(cQ (bo row b)).length<=549755813888/\ ∀p∈cQ (bo row b),-1<=(bk p).1/\(bk p).1<=lU ts:=by
 unfold dN at T;split at T
 · rename_i h0;have e1:e=b:=(Prod.mk.inj T).1;subst e1;obtain⟨h1,h2⟩:=Fg (Fu row h0);exact⟨h1,fun p hp=>by have:=h2 p hp;omega⟩
 · rename_i h0;unfold dw at T;split at T
   · rename_i h1;exact absurd (Prod.mk.inj T).2 h1
   · split at T
     · exact absurd (Prod.mk.inj T).2 dD
     · have e1:(an ts e).1=b:=(Prod.mk.inj T).1;rw[<-e1];exact⟨pk (xF row (vY ts 39 (vq 40 (hg h0)))),fun p hp=>vV C (ng (vf row (sC ts e)) p hp)⟩
def C5.szc{c:B0}(h:C5 c):H7 c:=⟨by have:=h.il;omega,fun x T=>by have:=fw (h.idx x T).1;omega⟩
def C5.szt{c:B0}(h:C5 c)(n:Str):G9 (ab c n).1:=by
 cases T:(ab c n).2 with
 |true=>
  have hm:=(bU T).1;have:=fw (h.tname hm);have:=h.wide hm;exact⟨by omega,by omega⟩
 |false=>
  have:(ab c n).1=⟨[],[]⟩:=by
   unfold ab at T|-;split at T
   · cases T
   · rfl
  rw[this];exact⟨by simp,by simp⟩
def wc{c:B0}(h:C5 c): ∀{l:List Str},(∀n∈l,(ab c n).2=true)->lU (l.map fun n=>(ab c n).1)<=l.length*4
 | [],_=>by simp[lU]
 |n::l,hn=>by
  have h1:=h.wide (bU (hn n (List.mem_cons_self ..))).1;have h2:=wc h (l:=l) (fun m hm=>hn m (List.mem_cons_of_mem _ hm));rw[List.map_cons,lC];have e:lU ((ab c n).1::l.map fun n=>(ab c n).1)=(ab c n).1.cols.length+lU (l.map fun n=>(ab c n).1):=by simp[lU]
  rw[e];omega
end Go.Proofs.Y
namespace Go.Proofs.Y
open Go.Abs Go.Proofs.Tryz
attribute [local irreducible] L Code.wp bodyPost Exit.then Exit.inBlock
def tZ{gs:aw}(c:B0)(s:A9)(hg:C5 c)(hT:s.kind=2\/s.kind=3->c.ts≠ []):
 CallG gs prog 99 [.agg (c.c.map .iv),.agg (s.cs.map .iv)] [] [] [] (.agg ((bD c s).c.map .iv)):=by
 have hE:c.ts= [] ->c.is= []:=fun h=>by
  refine List.eq_nil_iff_forall_not_mem.2 (fun x hx=> ?_);have:=(bU (hg.idx x hx).2.1).1;rw[h] at this;cases this
 have ar:=hg.tl;have aR:=hg.il;have fT:Falls (fun x=>decide (x<s.name)) (c.ts.map A4.n):=nv _ hg.tn;have fX:Falls (fun x=>decide (x<s.name)) (c.is.map A7.n):=nv _ hg.xn;have hN:c.ts.filter (fun x=> !(x.n==s.name))= [] ->c.is.filter (fun x=> !(x.tb==s.name))= []:=fun h=>by
  refine List.eq_nil_iff_forall_not_mem.2 (fun x hx=> ?_);obtain⟨h1,h2⟩:=List.mem_filter.1 hx;have h3:=bU (hg.idx x h1).2.1;have:(ab c x.tb).1∈c.ts.filter (fun x=> !(x.n==s.name)):=List.mem_filter.2 ⟨h3.1,by rw[h3.2];exact h2⟩;rw[h] at this;cases this
 obtain⟨ts,is⟩:=c;dsimp only at hE ar aR fT fX hN hT;by_cases h1:s.kind=1
 · have k1:(s.kind==1)=true:=by simpa using h1
   rw[show bD ⟨ts,is⟩ s=⟨ts.take (aX (ts.map A4.n) s.name)++⟨s.name,s.cols⟩::ts.drop (aX (ts.map A4.n) s.name),is⟩ by simp[bD,h1]];by_cases ad:ts= []
   · have T:=hE ad;subst ad;subst T;exact Gg s k1
   · by_cases T:is= []
     · subst T;exact Gf s ts ad C fT k1
     · exact zD ⟨ts,is⟩ s ad T ar aR k1 fT
 have k1:(s.kind==1)=false:=by simpa using h1
 by_cases h2:s.kind=2
 · have k2:(s.kind==2)=true:=by simpa using h2
   rw[show bD ⟨ts,is⟩ s=⟨ts,is.take (aX (is.map A7.n) s.name)++⟨s.name,s.table,s.col⟩::is.drop (aX (is.map A7.n) s.name)⟩ by simp[bD,h2]];by_cases T:is= []
   · subst T;exact Ga s ts (hT (.inl h2)) C k1 k2
   · exact ET ⟨ts,is⟩ s (hT (.inl h2)) T ar aR k1 k2 fX
 have k2:(s.kind==2)=false:=by simpa using h2
 by_cases h3:s.kind=3
 · have k3:(s.kind==3)=true:=by simpa using h3
   rw[show bD ⟨ts,is⟩ s=⟨ts.filter (fun x=> !(x.n==s.name)),is.filter (fun x=> !(x.tb==s.name))⟩ by simp[bD,h3]];have ad:=hT (.inr h3);have a5:ts.filter (fun x=> !(x.n==s.name))= [] -> ∃i x,(∀y∈ts.take i,(fun t:A4=>t.n==s.name) y=false)/\ts[i]?=some x/\(fun t:A4=>t.n==s.name) x=true:=fun h=>jf (fun a0=>ad (by
    refine List.eq_nil_iff_forall_not_mem.2 (fun t ht=> ?_);have:t∈ts.filter (fun x=> !(x.n==s.name)):=List.mem_filter.2 ⟨ht,by have:=a0 t ht;simp only[this];rfl⟩;rw[h] at this;cases this))
   have a6:is≠ [] ->is.filter (fun x=> !(x.tb==s.name))= [] -> ∃i x,(∀y∈is.take i,(fun t:A7=>t.tb==s.name) y=false)/\is[i]?=some x/\(fun t:A7=>t.tb==s.name) x=true:=fun a8 h=>jf (fun a0=>a8 (by
    refine List.eq_nil_iff_forall_not_mem.2 (fun t ht=> ?_);have:t∈is.filter (fun x=> !(x.tb==s.name)):=List.mem_filter.2 ⟨ht,by have:=a0 t ht;simp only[this];rfl⟩;rw[h] at this;cases this))
   by_cases T:is= []
   · subst T;by_cases hf:ts.filter (fun x=> !(x.n==s.name))= []
     · obtain⟨i,x,a1,a2,a3⟩:=a5 hf;rw[hf];exact Gc s ts ad C hf i x a1 a2 a3 k1 k2 k3
     · exact Ge s ts ad C hf k1 k2 k3
   · by_cases hf:ts.filter (fun x=> !(x.n==s.name))= []
     · obtain⟨i,x,a1,a2,a3⟩:=a5 hf;obtain⟨j,y,b1,b2,b3⟩:=a6 T (hN hf);have a7:=hN hf;rw[hf,a7];exact Gb s ts ad C hf i x a1 a2 a3 is T C a7 j y b1 b2 b3 k1 k2 k3
     · by_cases a4:is.filter (fun x=> !(x.tb==s.name))= []
       · obtain⟨j,y,b1,b2,b3⟩:=a6 T a4;rw[a4];exact Gd s ts ad C hf is T C a4 j y b1 b2 b3 k1 k2 k3
       · exact zC ⟨ts,is⟩ s ad T ar aR k1 k2 k3 hf a4
 have k3:(s.kind==3)=false:=by simpa using h3
 rw[show bD ⟨ts,is⟩ s=⟨ts,is⟩ by simp[bD,h1,h2,h3]];by_cases ad:ts= []
 · have T:=hE ad;subst ad;subst T;exact FZ s k1 k2 k3
 · by_cases T:is= []
   · subst T;exact FY s ts ad C k1 k2 k3
   · exact Cg ⟨ts,is⟩ s ad T ar aR k1 k2 k3
abbrev gJ(gs:aw)(c:B0)(ps:List Pg)(n:Int)(b:A9):Prop:=
 CallG gs prog 60 [.ptr 1010 0,.agg (b.cs.map .iv)] [(1010,ca c ps n)] [(1010,ca (cK c ps b).cat (cK c ps b).ps n)] [] (.tup [(cK c ps b).rep.av,aI (cK c ps b).e])
section
variable {gs:aw}{c:B0}{ps:List Pg}{D:Str->List (List A3)}{s b:A9}
def ie(h:EI c ps D){t:A4}(ht:t∈c.ts){r:List A3}(hr:r∈D t.n):r.length=t.cols.length/\1<=t.cols.length/\t.cols.length<=4:=⟨(h.db.fit t ht r hr).1,h.db.cat.wide ht⟩
def yJ(h:EI c ps D){t:A4}(ht:t∈c.ts){r:List A3}(hr:r∈D t.n):r≠ []:=fun e=>by
 have:=ie h ht hr;rw[e] at this;simp at this;omega
def vS(h:EI c ps D)(n:Int){t:A4}(ht:t∈c.ts)(T:G9 t){e:Ex}(he:e.Ok)(hp:(cQ e).length<=549755813888)(hb: ∀p∈cQ e,-1<=(bk p).1/\(bk p).1<=1000):
 CallG gs prog 96 [.ptr 1010 0,.agg (t.c.map .iv),.agg (e.cs.map .iv)] [(1010,ca c ps n)] ((1010,ca c ps n)::Cd 1000 (cG c ps t e)) [] (EC 1000 (cG c ps t e)):=by
 obtain⟨h1,h2,h3,_⟩:=jX h.db ht e;have ar:=h.few t ht;have hs:=h.sz;have hc:=h.db.cat.szc;have hl:=hs.len;have kw:=oL c t 0 e C C C (fun p ad=>by have:=hb p ad;omega) T.tn T.tl hc.il hc.inn;have kr:=(rF ps t (bO c t 0 e) C hs.sm T.tn C).toG (gs:=gs);exact Dt c ps n t e he (bO c t 0 e) _ C kw kr (fun x hx=>yJ h ht (h2 x hx)) (fun x hx y hy e=>sq (h.db.dis t ht) (h2 x hx) (h2 y hy) e)
def mc(T:C5 c)(name:Str):CallA prog 53 [.agg (c.c.map .iv),aS name] [] [] [] (.tup [.agg ((ab c name).1.c.map .iv),.iv (B (ab c name).2)]):=
 gj c name (by have:=T.tl;omega)
def HG(h:EI c ps D)(n:Int)(T:aJ c s=(b,0))(hk:b.kind=1):gJ gs c ps n b:=by
 have hW:=qt T;have e:cK c ps b=⟨bD c b,ps,ln,0⟩:=by simp[cK,hk]
 unfold gJ;rw[e];exact CN c ps n b _ _ (mc h.db.cat b.table) (bD c b) hk (tZ c b h.db.cat hW.tne)
def HF(h:EI c ps D)(n:Int)(hb:aJ c s=(b,0))(hk:b.kind=2):gJ gs c ps n b:=by
 have hW:=qt hb;have e:cK c ps b=⟨bD c b,AN (bD c b) ps (ab c b.table).1,ln,0⟩:=by simp[cK,hk]
 unfold gJ;rw[e];have kw:=tZ (gs:=gs) c b h.db.cat hW.tne;obtain⟨hg,aR,T⟩:=ee hb;have a0:=(eD T).1;have ad:=uL C T;subst ad;rw[eL,if_neg C,if_pos hk] at T;have he:=(Prod.mk.inj T).2;unfold va at he;split at he
 · cases he
 split at he
 · cases he
 rename_i ht;simp only[not_or,Bool.not_eq_false,Int.not_lt] at ht;obtain⟨hm,hn⟩:=bU ht.1;have ar:=(gR h.db hm).length_eq;have a1:=h.few _ hm;have a2:=h.pages;have a3:=hW.good.il;have hz:=h.db.cat.szt b.table;refine Hx c ps n b _ _ (mc h.db.cat b.table) (bD c b) _ hk kw (HK c (bD c b) ps n _ b hW.good.szc hz h.sz.len h.sz.sm kw (fun i=> ?_) (fun r hr=> ?_) C)
 · refine Nat.le_trans (uI _ _) ?_;have h1:(List.take i (ci ps (ab c b.table).1 (eh (ab c b.table).1.n))).length<=30:=by rw[lT];omega
   have h2:(List.take i (ci ps (ab c b.table).1 (eh (ab c b.table).1.n))).length*((bD c b).is.length+1)<=30*5:=Nat.mul_le_mul h1 C;omega
 · have:=ie h hm ((gR h.db hm).mem_iff.1 hr);omega
def HE(h:EI c ps D)(n:Int)(hb:aJ c s=(b,0))(hk:b.kind=3):gJ gs c ps n b:=by
 have hW:=qt hb;have e:cK c ps b=⟨bD c b,cg c (ab c b.name).1 (ci ps (ab c b.name).1 (eh (ab c b.name).1.n)) ps,ln,0⟩:=by simp[cK,hk]
 unfold gJ;rw[e];have kw:=tZ (gs:=gs) c b h.db.cat hW.tne;obtain⟨hg,aR,T⟩:=ee hb;have a0:=(eD T).1;have ad:=uL C T;subst ad;rw[eL,if_neg C,if_neg C,if_pos hk] at T;have he:=(Prod.mk.inj T).2;cases hf:(ab c b.name).2 with
 |false=>rw[hf] at he;simp at he
 |true=>
  obtain⟨hm,hn⟩:=bU hf;have ar:=(gR h.db hm).length_eq;have a1:=h.few _ hm;have a2:=h.pages;have hz:=h.db.cat.szt b.name;exact Hy c ps n b _ _ (mc h.db.cat b.table) (bD c b) _ _ _ hk kw h.db.cat.szc hz (fun i=>Nat.le_trans (lQ _ _) C) (fun r hr=>by have:=ie h hm ((gR h.db hm).mem_iff.1 hr);omega) C
   (mc h.db.cat b.name) (oR _ hz.tn) (pb ps _ _ C h.sz.sm hz.tn (by simp[eh]))
def HD(h:EI c ps D)(hs:D8 s)(n:Int)(hb:aJ c s=(b,0))(hk:b.kind=4):gJ gs c ps n b:=by
 obtain⟨hg,a0,hp⟩:=ee hb;have a1:=(eD hp).1;have hC:=zx C hp;obtain⟨hm,hn⟩:=bU hC.tab;have ar:b.table=s.table:=by rw[hC.eq]
 have aR:b.rows=s.rows.map fun r=>(eH (ab c s.table).1 r).1:=by rw[hC.eq]
 have e:cK c ps b=⟨c,(nH c ps (ab c b.table).1 b).1,⟨0,if(nH c ps (ab c b.table).1 b).2=0 then(b.rows.length:Int) else 0,[]⟩,(nH c ps (ab c b.table).1 b).2⟩:=by
  rw[cK,if_neg C,if_neg C,if_pos C]
 unfold gJ;rw[e,ar];have hz:=h.db.cat.szt s.table;have hw:=h.db.cat.wide hm;have T: ∀r∈b.rows,(r.length=(ab c s.table).1.cols.length/\ ∀e∈r,e.Ok)/\ ∀(i:Nat) (cc:B8),(ab c s.table).1.cols[i]?=some cc->tQ cc.t ((r.map (aC [])).getD i af):=fun r hr=>by
  rw[aR] at hr;obtain⟨r0,ad,rfl⟩:=mM hr;have h0:=mS hC.rowsE _ (List.mem_map_of_mem (f:=fun r=>(eH (ab c s.table).1 r).2) ad);obtain⟨h5,h6⟩:=Au h0 (fun e he=>a0 e (by
   simp only[dq,List.mem_append];exact .inl (.inl (.inr (List.mem_flatten.2 ⟨r0,ad,he⟩)))))
  exact⟨⟨h5,Jr (fun e he=>((hs.row r0 ad).2 e he).ok)⟩,h6⟩
 have hl:b.rows.length<=1000000:=by rw[aR,lM];have:=hs.rows;omega
 have k1:CallA prog 53 [.agg (c.c.map .iv),aS b.table] [] [] [] (.tup [.agg ((ab c s.table).1.c.map .iv),.iv (B (ab c s.table).2)]):=by rw[ar];exact mc h.db.cat s.table
 refine CL c ps n b _ _ k1 _ _ _ hk (CV c ps n _ b (fun q=> ∃D,EI c q D) ⟨D,h⟩ (fun q ⟨D',h'⟩=>h'.sz) (fun q ⟨D',h'⟩ r hr=>sD h' hm (by rw[lM];exact(T r hr).1.1) (T r hr).2) h.db.cat.szc hz hw.1 hl (fun r hr=>(T r hr).1))
def ua(h:C5 c)(hs:D8 s)(T: ∀e∈dq s,bX 1 e=true){ts:List A4}(ad:lU ts<=1000){w:Ex}(hw:dN ts s.wh=(w,0)):w.Ok/\(cQ w).length<=549755813888/\ ∀p∈cQ w,-1<=(bk p).1/\(bk p).1<=1000:=by
 have h1:=Gh (ts:=ts) hs.wh.ok;rw[hw] at h1;obtain⟨h2,h3⟩:=zE hw (fun h0=>T s.wh (by unfold dq;rw[if_neg h0];simp));exact⟨h1,h2,fun p hp=>by have:=h3 p hp;omega⟩
def HC(h:EI c ps D)(hs:D8 s)(n:Int)(hb:aJ c s=(b,0))(hk:b.kind=5):gJ gs c ps n b:=by
 obtain⟨hg,ad,hp⟩:=ee hb;have ar:=(eD hp).1;have hC:=zx C hp;have hU:=Cn C hb;obtain⟨hm,hn⟩:=bU hC.tab;have T:b.table=s.table:=by rw[hC.eq]
 have e:cK c ps b=⟨c,cg c (ab c b.table).1 (cG c ps (ab c b.table).1 b.wh) ps,⟨0,((cG c ps (ab c b.table).1 b.wh).length:Int),[]⟩,0⟩:=by
  rw[cK,if_neg C,if_neg C,if_neg C,if_pos C]
 unfold gJ;rw[e,T];have hz:=h.db.cat.szt s.table;have hw:=h.db.cat.wide hm;obtain⟨w1,w2,w3⟩:=ua h.db.cat hs ad (by simp[lU];omega) hU.wh;have kc:=vS (gs:=gs) h n hm hz w1 w2 w3;have aR:=vR h hm b.wh;have a0:=h.pages;have k1:CallA prog 53 [.agg (c.c.map .iv),aS b.table] [] [] [] (.tup [.agg ((ab c s.table).1.c.map .iv),.iv (B (ab c s.table).2)]):=by rw[T];exact mc h.db.cat s.table
 exact CM c ps n b _ _ k1 _ hk h.db.cat.szc hz (fun i=>Nat.le_trans (lQ _ _) C) (fun r hr=>by have:=ie h hm ((nA h.db hm b.wh r).1 hr).1;omega) C kc
def HB(h:EI c ps D)(hs:D8 s)(n:Int)(hb:aJ c s=(b,0))(hk:b.kind=6):gJ gs c ps n b:=by
 obtain⟨hg,ar,hp⟩:=ee hb;have a0:=(eD hp).1;have hC:=zx C hp;have hU:=Cn C hb;obtain⟨hm,hn⟩:=bU hC.tab;have T:b.table=s.table:=by rw[hC.eq]
 have e:cK c ps b=⟨c,(ru c ps (ab c b.table).1 b (cG c ps (ab c b.table).1 b.wh)).1,⟨0,if(ru c ps (ab c b.table).1 b (cG c ps (ab c b.table).1 b.wh)).2=0 then((cG c ps (ab c b.table).1 b.wh).length:Int) else 0,[]⟩,(ru c ps (ab c b.table).1 b (cG c ps (ab c b.table).1 b.wh)).2⟩:=by
  rw[cK,if_neg C,if_neg C,if_neg C,if_neg C,if_pos C]
 unfold gJ;rw[e,T];have hz:=h.db.cat.szt s.table;have hw:=h.db.cat.wide hm;obtain⟨w1,w2,w3⟩:=ua h.db.cat hs ar (by simp[lU];omega) hU.wh;have kc:=vS (gs:=gs) h n hm hz w1 w2 w3;have a1:=vR h hm b.wh;have a2:=h.pages;have ad: ∀r∈cG c ps (ab c s.table).1 b.wh,r∈D (ab c s.table).1.n:=fun r hr=>((nA h.db hm b.wh r).1 hr).1
 have k1:CallA prog 53 [.agg (c.c.map .iv),aS b.table] [] [] [] (.tup [.agg ((ab c s.table).1.c.map .iv),.iv (B (ab c s.table).2)]):=by rw[T];exact mc h.db.cat s.table
 refine CJ c ps n b _ _ k1 _ _ _ hk (Cm c ps n _ b _ (fun q=> ∃D,EI c q D) ⟨_,h.drop_chosen hm b.wh⟩ (fun q ⟨D',h'⟩=>h'.sz)
  (fun q ⟨D',h'⟩ r hr=> ?_) (fun i=>Nat.le_trans (lQ _ _) C) h.db.cat.szc hz hw.1 C (fun r hr=>(ie h hm (ad r hr)).1) (by rw[hU.len];have:=hs.sets;omega) (fun x hx=> ?_) kc)
 · obtain⟨h5,h6⟩:=DS hU (h.fits _ hm r (ad r hr));exact sD h' hm h5 h6
 · obtain⟨h1,y,hy,h2⟩:=hU.sets x hx;have h3:=yV (ts:= [(ab c s.table).1]) (hs.set y hy).ok (eQ (ab c s.table).1 (aV (ab c s.table).1 x.co));rw[h2] at h3;obtain⟨cc,aR,_⟩:=II h1;have:=(gS aR).1;exact⟨h1,by omega,h3⟩
def HA(h:EI c ps D)(hs:D8 s)(n:Int)(hb:aJ c s=(b,0))(hk:b.kind=7):gJ gs c ps n b:=by
 obtain⟨hg,bh,hp⟩:=ee hb;have b6:=(eD hp).1;have hS:=He C hp;have e:cK c ps b=⟨c,ps,⟨0,0,jM c ps b⟩,0⟩:=by
  rw[cK,if_neg C,if_neg C,if_neg C,if_neg C,if_neg C,if_pos C]
 unfold gJ;rw[e];refine CK c ps n b _ _ (mc h.db.cat b.table) _ hk ?_;have b4:=hS.len;obtain⟨n0,a4⟩: ∃n0,s.frm[0]?=some n0:=⟨_,gG C⟩
 have bi:=hS.tab 0 n0 a4;have bm: ∀m∈s.frm,(ab c m).2=true:=fun m hm=>by
  obtain⟨i,hi⟩:=List.getElem?_of_mem hm;exact hS.tab i m hi
 have b7:lU (s.frm.map fun n=>(ab c n).1)<=8:=Nat.le_trans (wc h.db.cat bm) C;obtain⟨hm,hn⟩:=bU bi;obtain⟨w1,w2,w3⟩:=ua h.db.cat hs bh C hS.wh;have bp:b.frm.getD 0 [] =n0:=by rw[hS.frm,List.getD_eq_getElem?_getD,a4];rfl
 have hz:=h.db.cat.szt n0;have hc:=h.db.cat.szc;have a5:=h.sz;have hl:=a5.len;have k1:=mc h.db.cat n0;rw[bi] at k1;obtain⟨f1,f2,f3,_⟩:=jX h.db hm b.wh;have b8:=h.few _ hm;have kw:=oL c (ab c n0).1 0 b.wh C C C (fun p a6=>by have:=w3 p a6;omega) hz.tn hz.tl hc.il hc.inn;have kr:=(rF ps (ab c n0).1 (bO c (ab c n0).1 0 b.wh) C a5.sm hz.tn C).toG (gs:=gs);have aR: ∀e∈b.ord,e.Ok:=fun e he=>by
  rw[hS.ord] at he;obtain⟨y,hy,rfl⟩:=mM he;exact tY _ y (hs.ords y hy).ok
 have a0:b.ord.length<=140737488355328:=by rw[hS.ord,lM];have:=hs.ord;omega
 have a1: ∀e∈b.out,e.Ok:=fun e he=>by
  rcases hS.out e he with⟨h1,h2⟩|⟨y,hy,rfl⟩
  · obtain⟨op,v,s',name,i,l⟩:=e;have h2:l= []:=h2;subst h2;exact .mk sP sP
  · exact tY _ y (hs.outs y hy).ok
 have a2:b.out.length*104<=140737488355328:=by have:=hS.outL;have:=hs.out;omega
 unfold jM;rw[bp];have wide:=h.db.cat.wide hm;have b9:b.frm.length=s.frm.length:=by rw[hS.frm]
 have bP:b.frm.length≠2->og c ps b (ci ps (ab c n0).1 (bO c (ab c n0).1 0 b.wh))=ci ps (ab c n0).1 (bO c (ab c n0).1 0 b.wh):=fun h2=>by rw[og,if_neg h2]
 by_cases h2:s.frm.length=2
 · obtain⟨n1,a7⟩: ∃n1,s.frm[1]?=some n1:=⟨_,gG C⟩
   have bl:=hS.tab 1 n1 a7;obtain⟨ar,b5⟩:=bU bl;have bR:b.frm.getD 1 [] =n1:=by rw[hS.frm,List.getD_eq_getElem?_getD,a7];rfl
   have a8:=h.db.cat.szt n1;have k2:=mc h.db.cat n1;rw[bl] at k2;have cb:=h.few _ ar;have bS:=h.db.cat.wide ar;have a3:b.frm.length=2:=C;have hJ:og c ps b (ci ps (ab c n0).1 (bO c (ab c n0).1 0 b.wh))=(ci ps (ab c n0).1 (bO c (ab c n0).1 0 b.wh)).flatMap (fun x=>(ci ps (ab c n1).1 (bO c (ab c n1).1 (x.length:Int) (bo x b.wh))).map (x++ ·)):=by
    rw[og,if_pos a3,bR]
   have g2:=fun x=>rq h.db ar x (bo x b.wh)
   generalize cc:ci ps (ab c n0).1 (bO c (ab c n0).1 0 b.wh)=R at*
   have mem: ∀z∈og c ps b R,∃x∈D (ab c n0).1.n,∃y∈D (ab c n1).1.n,z=x++y:=fun z T=>by
    rw[hJ] at T;obtain⟨x,hx,T⟩:=List.mem_flatMap.1 T;obtain⟨y,hy,rfl⟩:=mM T;exact⟨x,f2 x hx,y,(g2 x).2.1 y hy,rfl⟩
   have bW:(og c ps b R).length<=1000000:=by
    rw[hJ];refine Nat.le_trans (kY (k:=30) (fun x hx=> ?_)) C;rw[lM];have:=(g2 x).2.2.1;omega
   have ad: ∀x∈D (ab c n0).1.n,∀y:List A3,(x++y).getD 0 af=x.getD 0 af/\(x++y).getD (ab c n0).1.cols.length af=y.getD 0 af:=fun x hx y=>by
    have hl:=(ie h hm hx).1;refine⟨?_,?_⟩
    · rw[List.getD_eq_getElem?_getD,List.getD_eq_getElem?_getD,gL C]
    · rw[List.getD_eq_getElem?_getD,List.getD_eq_getElem?_getD,List.getElem?_append_right C,hl,Nat.sub_self]
   refine pM c ps n b (ab c n0).1 (bO c (ab c n0).1 0 b.wh) R _ C bW w1 aR a0 a1 a2 n0 (by rw[hS.frm];exact a4) k1 kw kr (fun b1=>absurd a3 b1) (fun _=> ?_) ?_ ?_ ?_
   · refine⟨n1,(ab c n1).1,fun x=>bO c (ab c n1).1 (x.length:Int) (bo x b.wh),fun x=>ci ps (ab c n1).1 (bO c (ab c n1).1 (x.length:Int) (bo x b.wh)),by rw[hS.frm];exact a7,k2,fun x hx=> ?_,fun x hx=> ?_,hJ,fun x hx=> ?_⟩
     · have b2:=(ie h hm (f2 x hx)).1;obtain⟨p1,p2⟩:=AR x hS.wh (fun h0=>bh s.wh (by unfold dq;rw[if_neg h0];simp));exact oL c (ab c n1).1 (x.length:Int) (bo x b.wh) C C C (fun p a6=>by have:=p2 p a6;omega) a8.tn a8.tl hc.il hc.inn
     · exact(rF ps (ab c n1).1 _ C a5.sm a8.tn (Nat.le_trans (g2 x).1 dD)).toG
     · have b2:=(ie h hm (f2 x hx)).1;refine⟨by omega,fun y hy=> ?_⟩;have:=(ie h ar ((g2 x).2.1 y hy)).1;omega
   · intro z T e;obtain⟨x,hx,y,hy,rfl⟩:=mem z T;exact yJ h hm hx (List.append_eq_nil_iff.1 e).1
   · intro _ z T;obtain⟨x,hx,y,hy,rfl⟩:=mem z T;have h1:=(ie h hm hx).1;have h2:=(ie h ar hy).1;rw[gV];omega
   · refine xu (fun z T z2 a9 e1 e2=> ?_);obtain⟨x,hx,y,hy,rfl⟩:=mem z (List.mem_filter.1 T).1;obtain⟨x2,ba,y2,b3,rfl⟩:=mem z2 (List.mem_filter.1 a9).1;have e2:=e2 C;rw[(ad x hx y).1,(ad x2 ba y2).1] at e1;rw[(ad x hx y).2,(ad x2 ba y2).2] at e2;rw[sq (h.db.dis _ hm) hx ba e1,sq (h.db.dis _ ar) hy b3 e2]
 · have a3:b.frm.length≠2:=C;rw[bP a3];refine pM c ps n b (ab c n0).1 (bO c (ab c n0).1 0 b.wh) _ _ C C w1 aR a0 a1 a2 n0 (by rw[hS.frm];exact a4) k1 kw kr (fun _=>rfl) (fun he=>absurd he a3) ?_ (fun h3=>by omega) ?_
   · intro x hx;exact yJ h hm (f2 x hx)
   · refine xu (fun z T z2 a9 e1 _=> ?_);exact sq (h.db.dis _ hm) (f2 z (List.mem_filter.1 T).1) (f2 z2 (List.mem_filter.1 a9).1) e1
def JF(h:EI c ps D)(hs:D8 s)(n:Int)(T:aJ c s=(b,0)):gJ gs c ps n b:=by
 obtain⟨hg,ad,hp⟩:=ee T;have ar:=(eD hp).1;have aR:=sd (py T).1;rcases(by omega:b.kind=1\/b.kind=2\/b.kind=3\/b.kind=4\/b.kind=5\/b.kind=6\/b.kind=7) with hk|hk|hk|hk|hk|hk|hk
 · exact HG h n T hk
 · exact HF h n T hk
 · exact HE h n T hk
 · exact HD h hs n T hk
 · exact HC h hs n T hk
 · exact HB h hs n T hk
 · exact HA h hs n T hk
end
def Er{gs:aw}:CallG gs prog 32 [] [] [(1010,ca ⟨[],[]⟩ [] 0)] [] (.ptr 1010 0):=by
 refine iG func32 ntmps32 (fun w0 E0 T=> ?_);refine wz ?_;all_goals(refine gK [(2,1010)] U U U U ?_)
 all_goals(apply L.ends;rfl;rfl;exact fR;exact Wk.mk' kK .nil (.cons U U (.cons Sub.nils (.cons Sub.nils (.cons Sub.nils (.cons sE .nil)))) .nil) .nil)
def Lf(es:List (List IV))(hk: ∀e∈es,e.length=3)(hl:es.length<=1000000):
 CallA prog 50 [.iv (.sl es)] [] [] [] (.iv (.sl es)):=by
 by_cases T:es= []
 · subst T;refine iA func50 ntmps50 (fun w0 E0=> ?_);(repeat' first|intro hb hp|apply mu;rfl;rfl;rfl;rintro (_|_)|(refine LW.is ?_;first|apply eA;rfl;rfl;rfl;rfl;rfl|apply ag;rfl;apply tH;rfl;exact Sub.bslE _ _;rfl)|refine am ?_|refine al ?_ ?_|fail)
   all_goals(apply L.ends;rfl;rfl;(first|exact Sub.nils|exact Sub.emp);exact Wk.mk' kK .nil .nil .nil)
 · have hm:es.length<=maxLen:=by rw[fJ];omega
   have hb:es.length*32<=140737488355328:=C;refine iA func50 ntmps50 (fun w0 E0=> ?_);(repeat' first|intro hb hp|(refine LW.is ?_;first|apply ag;rfl;apply jZ;rfl;rfl;exact T|apply eA;rfl;rfl;rfl;rfl;rfl|apply kC 1000;rfl;rfl;rfl;exact hk;exact T;exact hm;exact hb;rfl)|refine am ?_|refine al ?_ ?_|fail)
   all_goals(refine L.pubS 1000 2 (es:=es) (k:=3) U U hk dD T U U .here ?_)
   all_goals(apply L.ends;rfl;rfl;exact fR;exact Wk.mk' kK .nil .nil .nil)
def tf(es:List (List IV))(hk: ∀e∈es,e.length=1)(hl:es.length<=1000000):
 CallA prog 51 [.iv (.sl es)] [] [] [] (.iv (.sl es)):=by
 by_cases T:es= []
 · subst T;refine iA func51 ntmps51 (fun w0 E0=> ?_);(repeat' first|intro hb hp|apply mu;rfl;rfl;rfl;rintro (_|_)|(refine LW.is ?_;first|apply eA;rfl;rfl;rfl;rfl;rfl|apply ag;rfl;apply tH;rfl;exact Sub.bslE _ _;rfl)|refine am ?_|refine al ?_ ?_|fail)
   all_goals(apply L.ends;rfl;rfl;(first|exact Sub.nils|exact Sub.emp);exact Wk.mk' kK .nil .nil .nil)
 · have hm:es.length<=maxLen:=by rw[fJ];omega
   have hb:es.length*16<=140737488355328:=C;refine iA func51 ntmps51 (fun w0 E0=> ?_);(repeat' first|intro hb hp|(refine LW.is ?_;first|apply ag;rfl;apply jZ;rfl;rfl;exact T|apply eA;rfl;rfl;rfl;rfl;rfl|apply kC 1000;rfl;rfl;rfl;exact hk;exact T;exact hm;exact hb;rfl)|refine am ?_|refine al ?_ ?_|fail)
   all_goals(refine L.pubS 1000 2 (es:=es) (k:=1) U U hk dD T U U .here ?_)
   all_goals(apply L.ends;rfl;rfl;exact fR;exact Wk.mk' kK .nil .nil .nil)
def GL{gs:aw}(c:B0)(ps:List Pg)(n:Int)(aR:ps.length<=1000000)(hp: ∀p∈ps,p.ks.length<=1000/\p.vs.length<=1000):
 CallG gs prog 24 [.ptr 1010 0] [(1010,ca c ps n)] [(1010,ca c ps n)] [] (.agg [.iv (.sl (ps.map Pg.c))]):=by
 refine iG func24 ntmps24 (fun w0 E0 hG=> ?_);refine wz ?_;refine L.adoptB 3 108 93 2 U sP U U (.cons .here .nil) ?_;refine ae (ι:=Nat) (fun i=>⟨[(15,aI (i:Int)),(14,aI ((ps.map Pg.c).length:Int)),(13,.iv (.sl (ps.map Pg.c))),(2,.ptr 2 0),(3,.ptr 3 0)],
  [(1010,ca c ps n),(2,⟨51,.l [.nils]⟩),(3,⟨51,.l [.row 108 ((ps.take i).map Pg.c)]⟩)],[(108,⟨93,2⟩)]⟩) (fun i=>ps.length - i) (fun i=>True) (i0:=0) ?_ trivial ?_
 · exact wL
 intro i _ K hK;cases hx:ps[i]? with
 |none=>
  have ad:=gc (l:=ps.map Pg.c) (bz hx);rw[br hx];clear hK;refine wz ?_;all_goals(apply L.ends;rfl;rfl;exact Sub.agg (.cons (Sub.row _ _) .nil);exact Wk.mk' kK .nil B1 .nil)
 |some p=>
  have ad:=fZ (l:=ps.map Pg.c) (cM (f:=Pg.c) hx);have ar:=fM hx;obtain⟨a0,a1⟩:=hp p (gE hx);have g1:(ps.map Pg.c)[((i:Nat):Int).toNat]?=some [.sl (p.ks.map Str.c),.sl (p.vs.map Str.c)]:=by rw[iN,gP,hx];rfl
  have n1:(ps.take (i+1)).map Pg.c=(ps.take i).map Pg.c++ [[.sl (p.ks.map Str.c),.sl (p.vs.map Str.c)]]:=by rw[dv hx,pA];rfl
  have l1:((ps.take i).map Pg.c).length=i:=by simp;omega
  have k1: ∀e∈(ps.take i).map Pg.c,e.length=2:=fun e he=>by obtain⟨y,_,rfl⟩:=mM he;rfl
  have ka:=tf (p.ks.map Str.c) (fun e he=>by obtain⟨y,_,rfl⟩:=mM he;rfl) (by rw[lM];omega);have kb:=tf (p.vs.map Str.c) (fun e he=>by obtain⟨y,_,rfl⟩:=mM he;rfl) (by rw[lM];omega);generalize (ps.take i).map Pg.c=es at*
  clear hp;(repeat' first|intro hb hp|(refine DR.is ?_;first|apply rh;rfl;rfl;rfl;rfl;exact k1;(first|exact T U|exact bB U bV);(simp[maxLen,ah,l1];omega);(simp[ah,l1];omega);rfl;rfl)|refine am ?_|refine al ?_ ?_|fail)
  refine L.onlyS [15,14,13,2,3] [1010,2,3] U ?_;refine Ca 3 29 108 U sP U U U (.cons .row .nil) ?_;refine hK _ (i+1) trivial C (Wk.mk' kK F5 (wB (wB (.cons U U (Subs.cons (Sub.of_eq (congrArg (AV.row 108) n1.symm)) .nil) .nil))) (.cons U .nil))
end Go.Proofs.Y
namespace Go.Proofs.Y
open Go.Abs
def Ji:Str:= [99,114,101,97,116,101,32,116,97,98,108,101,32,116,32,40,97,32,105,110,116,32,109,117,115,116,44,32,98,32,116,101,120,116,41,59,32,105,110,115,101,114,116,32,105,110,116,111,32,116,32,118,97,108,117,101,115,32,40,49,44,39,120,39,41,44,40,50,44,110,117,108,108,41,59]
def Jh:Str:= [115,101,108,101,99,116,32,98,32,102,114,111,109,32,116,32,119,104,101,114,101,32,97,32,61,32,49,59]
def eng0:C0:=⟨⟨[],[]⟩,[],0⟩
def lit(v:A3):Ex:= .mk 1 v [] [] 0 []
def vI(n:Int):A3:=⟨1,n,[]⟩
def vX:A3:=⟨2,0,[120]⟩
def tabT:A4:=⟨[116],[⟨[97],1,true⟩,⟨[98],2,false⟩]⟩
def fA:B0:=⟨[tabT],[]⟩
def Fc:A9:={ia with kind:=1,name:= [116],cols:= [⟨[97],1,true⟩,⟨[98],2,false⟩]}
def st2:A9:={ia with kind:=4,table:= [116],rows:= [[lit (vI 1),lit vX],[lit (vI 2),lit af]]}
def rG(i:Int):Ex:= .mk 2 af [] [98] i []
def qB(i:Int):Ex:= .mk 2 af [] [97] i []
def st3:A9:={ia with kind:=7,out:= [rG 0],frm:= [[116]],wh:=Bm 5 (qB 0) (lit (vI 1))}
def Lz:cj Ji=([Fc,st2],0):=by kernel_rfl
def Ly:cj Jh=([st3],0):=by kernel_rfl
def MP:aJ ⟨[],[]⟩ Fc=(Fc,0):=by kernel_rfl
def Nb:cK ⟨[],[]⟩ [] Fc=⟨fA,[],ln,0⟩:=by kernel_rfl
def n97:bF [97] =true:=by kernel_rfl
def n98:bF [98] =true:=by kernel_rfl
def oq{v:A3}(h:au v=true)(d:Int)(T:d<=40):bX d (lit v)=true:=by
 rw[lit,gD,show lookM tv 1=some 0 from rfl];simp[gl,h,T]
def BS(ts:List A4)(v:A3):an ts (lit v)=(lit v,v.k,0):=by
 rw[lit,iJ];rfl
def Bn(row:List A3)(v:A3):aC row (lit v)=v:=by
 rw[lit,eP];rfl
def Bd(n:Str)(i:Int)(h:bF n=true)(d:Int)(T:d<=40):bX d (.mk 2 af [] n i [])=true:=by
 rw[gD,show lookM tv 2=some 0 from rfl];simp[gl,h,T]
def MG:gh fA st2=true:=by
 have h:(dq st2).any (fun e=> !bX 1 e)=false:=by
  rw[show dq st2= [lit (vI 1),lit vX,lit (vI 2),lit af] from rfl];simp[oq (show au (vI 1)=true from rfl) 1 dD,oq (show au vX=true from rfl) 1 dD,oq (show au (vI 2)=true from rfl) 1 dD,oq (show au af=true from rfl) 1 dD]
 have h2:dI fA=true:=by kernel_rfl
 rw[gh,h,h2];rfl
def qK(v:A3)(k:Int)(h:((v.k !=k) && (v.k !=0))=false):dw [] (lit v) k=(lit v,0):=by
 rw[dw,BS];simp[h]
def Mw:eH tabT [lit (vI 1),lit vX] =([lit (vI 1),lit vX],0):=by
 have h1:=qK (vI 1) 1 U;have h2:=qK vX 2 U;rw[eH,if_neg dD];show([(dw [] (lit (vI 1)) 1).1,(dw [] (lit vX) 2).1],eG [(dw [] (lit (vI 1)) 1).2,(dw [] (lit vX) 2).2])=_;rw[h1,h2];rfl
def Mv:eH tabT [lit (vI 2),lit af] =([lit (vI 2),lit af],0):=by
 have h1:=qK (vI 2) 1 U;have h2:=qK af 2 U;rw[eH,if_neg dD];show([(dw [] (lit (vI 2)) 1).1,(dw [] (lit af) 2).1],eG [(dw [] (lit (vI 2)) 1).2,(dw [] (lit af) 2).2])=_;rw[h1,h2];rfl
def MY:eL fA st2=(st2,0):=by
 have hr:rowsE st2 tabT=0:=by
  show eG [(eH tabT [lit (vI 1),lit vX]).2,(eH tabT [lit (vI 2),lit af]).2] =0;rw[Mw,Mv];rfl
 have hc:eN st2 tabT=(st2,0):=by
  rw[eN,if_neg (by rw[hr];decide),if_neg dD];show({st2 with rows:= [(eH tabT [lit (vI 1),lit vX]).1,(eH tabT [lit (vI 2),lit af]).1],sets:= [],wh:=nilE},(0:Int))=(st2,0)
  rw[Mw,Mv];rfl
 rw[eL,if_neg dD,if_neg dD,if_neg dD,if_neg dD];show(if(ab fA [116]).2 then eN st2 (ab fA [116]).1 else(st2,3))=_;rw[show ab fA [116] =(tabT,true) from rfl];exact hc
def MO:aJ fA st2=(st2,0):=by
 rw[aJ,if_neg (by rw[MG];decide),MY];rfl
def Mt:(st2.rows.map fun r=>r.map (aC []))= [[vI 1,vX],[vI 2,af]]:=by
 show [[aC [] (lit (vI 1)),aC [] (lit vX)],[aC [] (lit (vI 2)),aC [] (lit af)]] =_;simp only[Bn]
def Mz:nH fA [] tabT st2=([⟨[ap [116] (vI 1),ap [116] (vI 2)],[de [vI 1,vX],de [vI 2,af]]⟩],0):=by
 have e:iL fA tabT [] [[vI 1,vX],[vI 2,af]] =([⟨[ap [116] (vI 1),ap [116] (vI 2)],[de [vI 1,vX],de [vI 2,af]]⟩],0):=by kernel_rfl
 rw[nH,Mt,e]
def rI:List Pg:= [⟨[ap [116] (vI 1),ap [116] (vI 2)],[de [vI 1,vX],de [vI 2,af]]⟩]
def Na:cK fA [] st2=⟨fA,rI,⟨0,2,[]⟩,0⟩:=by
 rw[cK,if_neg dD,if_neg dD,if_pos dD];show I4.mk fA (nH fA [] tabT st2).1 ⟨0,if(nH fA [] tabT st2).2=0 then(st2.rows.length:Int) else 0,[]⟩ (nH fA [] tabT st2).2=_;rw[Mz];rfl
def eng1:C0:=⟨fA,rI,1⟩
def Mb:C0:=⟨fA,rI,2⟩
def do1:fz eng0 Ji=(eng1,⟨0,2,[]⟩):=by
 rw[fz,if_neg dD,Lz,if_neg dD];have h:ib eng0.cat eng0.ps ln 0 [Fc,st2] = .ok (fA,rI,⟨0,2,[]⟩):=by
  show ib ⟨[],[]⟩ [] ln 0 [Fc,st2] =_;rw[ib,MP,if_neg dD,Nb,if_neg dD];show ib fA [] ln 1 [st2] =_;rw[ib,MO,if_neg dD,Na,if_neg dD];rfl
 show(match ib eng0.cat eng0.ps ln 0 [Fc,st2] with| .error e=>(_,_)| .ok r=>(_,_))=_;rw[h];rfl
def whB:Ex:=Bm 5 (qB 0) (lit (vI 1))
def Ai:A9:={st3 with out:= [rG 1],wh:=whB}
def yj:an [tabT] (rG 0)=(rG 1,2,0):=by
 rw[rG,iJ];rfl
def FR:an [tabT] (qB 0)=(qB 0,1,0):=by
 rw[qB,iJ];rfl
def KF:an [tabT] whB=(whB,3,0):=by
 rw[whB,Bm,iJ];show bQ [tabT] 5 af [] [] 0 (eG [(an [tabT] (qB 0)).2.2,(an [tabT] (lit (vI 1))).2.2]) [(an [tabT] (qB 0)).1,(an [tabT] (lit (vI 1))).1] [(an [tabT] (qB 0)).2.1,(an [tabT] (lit (vI 1))).2.1] =_;rw[FR,BS];rfl
def Kb:bX 1 whB=true:=by
 rw[whB,Bm,gD,show lookM tv 5=some 2 from rfl];have h1:=Bd [97] 0 n97 (1+1) dD;have h2:=oq (show au (vI 1)=true from rfl) (1+1) dD;have e:([qB 0,lit (vI 1)].any fun x=> !bX (1+1) x)=false:=by
  show(!bX (1+1) (qB 0)||(!bX (1+1) (lit (vI 1))||false))=false;rw[h2,qB,h1];rfl
 simp;exact⟨rfl,by rw[qB];exact h1,h2⟩
def MF:gh fA st3=true:=by
 have h:(dq st3).any (fun e=> !bX 1 e)=false:=by
  rw[show dq st3= [rG 0,whB] from rfl];have h1:bX 1 (rG 0)=true:=Bd [98] 0 n98 1 dD;simp[h1,Kb]
 have h2:dI fA=true:=by kernel_rfl
 rw[gh,h,h2];rfl
def MX:eL fA st3=(Ai,0):=by
 rw[eL,if_neg dD,if_neg dD,if_neg dD,if_pos dD,iH,if_neg dD,if_neg dD];have e:(st3.frm.zipIdx.map fun p=>(ce fA st3.frm p).1)= [tabT]:=rfl;have T:(st3.out.map fun x=>(an [tabT] x).2.2)= [0]:=by
  show [(an [tabT] (rG 0)).2.2] =_;rw[yj]
 have e2:(st3.out.map fun x=>(an [tabT] x).1)= [rG 1]:=by
  show [(an [tabT] (rG 0)).1] =_;rw[yj]
 have e3:dN [tabT] st3.wh=(whB,0):=by
  show(if whB.op=0 then(whB,0) else dw [tabT] whB 3)=_;rw[if_neg dD,dw,KF];rfl
 dsimp only;rw[e,T,if_neg dD,if_neg dD,e2,e3];rfl
def MN:aJ fA st3=(Ai,0):=by
 rw[aJ,if_neg (by rw[MF];decide),MX];rfl
def MS:bO fA tabT 0 whB=⟨[],ap [116] (vI 1),ap [116] (vI 1)++ [0]⟩:=by
 have h:cQ whB= [whB]:=gW _ _ _ _ (by rintro ⟨h,_⟩;cases h);have e:zy fA tabT 0 [whB] (eh tabT.n) 0=⟨[],ap [116] (vI 1),ap [116] (vI 1)++ [0]⟩:=by kernel_rfl
 rw[bO,h,e]
def Lo:ci rI tabT ⟨[],ap [116] (vI 1),ap [116] (vI 1)++ [0]⟩= [[vI 1,vX]]:=by kernel_rfl
def Ms:ci rI tabT (bO fA tabT 0 whB)= [[vI 1,vX]]:=by
 rw[MS,Lo]
def FG(row:List A3):aC row (rG 1)=uH 1 row:=by
 rw[rG,eP];rfl
def LH:bL whB [vI 1,vX] =true:=by
 rw[bL,whB,Bm,eP];show((5:Int)==0||(rm (jo 5 af 0 [aC [vI 1,vX] (qB 0),aC [vI 1,vX] (lit (vI 1))] [vI 1,vX])==1))=true;rw[Bn,qB,eP];kernel_rfl
def MT:jM fA rI Ai= [[vX]]:=by
 show Al Ai tabT.cols.length (og fA rI Ai (ci rI tabT (bO fA tabT 0 whB)))=_;rw[Ms,og,if_neg dD,Al];show(qN Ai (([[vI 1,vX]].filter (bL whB)).mergeSort _)).map (yQ Ai)=_;rw[List.filter_cons,LH,if_pos U,List.filter_nil,List.mergeSort_singleton];show [[aC [vI 1,vX] (rG 1)]] =_;rw[FG];rfl
def MZ:cK fA rI Ai=⟨fA,rI,⟨0,0,[[vX]]⟩,0⟩:=by
 rw[cK,if_neg dD,if_neg dD,if_neg dD,if_neg dD,if_neg dD,if_pos dD,MT]
def do2:fz eng1 Jh=(Mb,⟨0,0,[[vX]]⟩):=by
 rw[fz,if_neg dD,Ly,if_neg dD];have h:ib eng1.cat eng1.ps ln 0 [st3] = .ok (fA,rI,⟨0,0,[[vX]]⟩):=by
  show ib fA rI ln 0 [st3] =_;rw[ib,MN,if_neg dD,MZ,if_neg dD];rfl
 show(match ib eng1.cat eng1.ps ln 0 [st3] with| .error e=>(_,_)| .ok r=>(_,_))=_;rw[h];rfl
end Go.Proofs.Y
namespace Go.Proofs.Y
open Go.Abs Go.Proofs.Tryz
attribute [local irreducible] L Code.wp bodyPost Exit.then Exit.inBlock
structure B6 (g:C0):Prop where
 n0:0<=g.n
 db: ∃D,EI g.cat g.ps D
def tW:B6 eng0:=by
 refine⟨by decide,fun _=> [],⟨⟨⟨by simp[eng0],by simp[eng0],by simp[eng0],by simp[eng0],by simp[eng0],by simp[eng0]⟩,rfl,by simp[eng0],by simp[eng0],?_⟩,by simp[eng0],by simp[eng0]⟩⟩;intro a b;simp[eng0,az]
def vK: ∀(l:List A9) {c:B0} {ps:List Pg} {r:D3} {i:Int} {x:B0×List Pg×D3},(∃D,EI c ps D)->ib c ps r i l= .ok x-> ∃D,EI x.1 x.2.1 D
 | [],c,ps,r,i,x,h,T=>by
   rw[ib] at T;cases T;exact h
 |s::l,c,ps,r,i,x,⟨D,h⟩,T=>by
  rw[ib] at T;split at T
  · cases T
  split at T
  · cases T
  rename_i h1 h2;have hb:aJ c s=((aJ c s).1,0):=Prod.ext U (Decidable.not_not.1 h1);exact vK l (rN h hb) T
def la{g:C0}(h:B6 g)(x:Str):B6 (fz g x).1:=by
 obtain⟨h0,T⟩:=h;unfold fz;split
 · exact⟨h0,T⟩
 split
 · exact⟨by dsimp only;omega,T⟩
 split
 · exact⟨by dsimp only;omega,T⟩
 · rename_i r hr;exact⟨by dsimp only;omega,vK _ T hr⟩
def C5.ok{c:B0}(h:C5 c):c.Ok:=by
 have ad:=h.tl;have ar:=h.il;refine⟨by omega,by omega,fun t ht=> ?_,fun x hx=>by have:=fw (h.idx x hx).1;omega⟩;have hw:=h.wide ht;refine⟨by have:=fw (h.tname ht);omega,by omega,fun cc T=> ?_⟩;obtain⟨i,hi⟩:=List.getElem?_of_mem T;have hg:=h.tabs t ht;simp only[cv,aE] at hg;have:=aT hg.1 (cc,i) (List.mem_zipIdx_iff_getElem?.2 hi);simp only[ti,Bool.not_eq_true',Bool.or_eq_false_iff,Bool.not_eq_false'] at this;have:=fw this.1.1;omega
variable [C3]
def oI(g:C0)(h:B6 g)(x:Str):CallG cH prog 30 [.ptr 1010 0,.agg [aS x]] [(1010,g.b)] [(1010,(fz g x).1.b)] [] ((fz g x).2.av):=by
 refine Me g x h.n0 (fun c ps=> ∃D,EI c ps D) h.db (fun c ps ⟨D,hd⟩ s hs=> ?_) (fun c ps ⟨D,hd⟩ s hs hb=> ?_)
 · exact Cc (Dy c hd.db.cat.ok s (ut x s hs).ok)
 · have T:aJ c s=((aJ c s).1,0):=Prod.ext U hb;exact⟨JF hd (ut x s hs) 0 T,fun _=>rN hd T⟩
def AF{g:C0}(h:B6 g):g.ps.length<=1000/\(∀p∈g.ps,Eo p)/\(az g.ps).length<=4000:=by
 obtain⟨_,D,T⟩:=h;have h1:=T.pages;have h2:=(eO g.ps).1 T.db.good;refine⟨h1,h2.1,?_⟩;have h3:=Jn h2.1;rw[rC h2.1] at h3;omega
def zW(g:C0)(h:B6 g):CallG cH prog 24 [.ptr 1010 0] [(1010,g.b)] [(1010,g.b)] [] (.agg [.iv (.sl (g.ps.map Pg.c))]):=by
 obtain⟨h1,h2,h3⟩:=AF h;exact GL g.cat g.ps g.n C (fun p T=>by obtain⟨a1,a2,a3⟩:=h2 p T;omega)
def FU:CallG cH prog 35 [] [] [] [] (aB true):=by
 have h1:B6 eng1:=by have:=la tW Ji;rw[do1] at this;exact this
 have h2:B6 Mb:=by have:=la h1 Jh;rw[do2] at this;exact this
 have k1:=oI eng0 tW Ji;have k2:=oI eng1 h1 Jh;rw[do1] at k1;rw[do2] at k2;have kt:=zW Mb h2;have kn:=Er (gs:=cH);have g1:([[vX]].map ai)[(0:Int).toNat]?=some [.sl ([vX].map A3.c)]:=rfl;have g2:([vX].map A3.c)[(0:Int).toNat]?=some [I 2,I 0,S [120]]:=rfl;refine iG func35 ntmps35 (fun w0 E0 T=> ?_);(repeat' first|intro hb hp|refine ac [1010] rfl T kn .nil .nil rfl rfl rfl rfl ?_|refine ac [] rfl T k1 fS B1 rfl rfl rfl rfl ?_|refine ac [] rfl T k2 fS B1 rfl rfl rfl rfl ?_|refine ac [] rfl T kt fS B1 rfl rfl rfl rfl ?_|refine am ?_|refine al ?_ ?_|fail)
 all_goals exact L.ends U U sE wK
end Go.Proofs.Y
namespace Go.Abs
open Go.RowKit (Below)
def kU{P:Program}{gs:aw}{f:FuncId}{avs:List AV}(hc:CallG gs P f avs [] [] [] (aB true)){W:World}{us:List Value}(φ:Nat->Nat)(hφ: ∀b,W.heap.size<=b->φ b=0)(hG:Glob gs (mb φ) W)(hr:RelL (mb φ) W avs us):
 Calls P f us.toArray W fun e w'=>e= .returned (.bool true)/\Below W.heap.size W w':=by
 refine(hc (mb φ) W us hr ?_ hG).mono ?_
 · exact⟨fun id b h=>by simp at h,fun id t h=>by simp at h,fun i j b b' h=>by simp at h,fun i j t t' g h=>by simp at h,fun i j b t h=>by simp at h,fun i b h=>by simp at h,fun i t g h=>by simp at h,
    hφ,fun b _=>rfl,fun id h=>by simp[keys] at h,D1.refl _ _⟩
 · rintro e w' ⟨u,E',he,hu,hh⟩;have hv:=hu.iv_im;subst hv;refine⟨he,?_⟩;have hk:=hh.kept;exact⟨hk.os,hk.tape,hk.output,hk.size,fun k T=>hk.block k T (fun⟨id,ad,_⟩=>by simp[keys] at ad)⟩
def Ft{P:Program}{W:World}{n:String}{g:Nat}{t e:TypeId}{cs:Array Value}{fuel:Nat}{p:List MemPlace}{ws:List (List UInt8)}(hg:P.globalNamed n=some g)(hv:W.var? P n=some cs)(ht:P.underlying t=some (.slice e))(he:P.underlying e=some .string)(a6:P.cellsOf e=1)(a7:ws≠ [])
 (hd:DataW.trod (fun _=>()) P W 0 (fun _=>true) false fuel t cs.toList=some (.slice (ws.map fun s=> .lit (.string s)) [],p)):
 ∀(i:Nat) (x:IV),[IV.sl (ws.map fun s=> [S s])][i]?=some x->i<fL W g/\ ∃v,W.cell? ⟨g,i,none⟩=some v/\C8 (fL W) W x v:=by
 intro i x hx;cases i with
 |succ i=>simp at hx
 |zero=>
  simp only[List.getElem?_cons_zero,Option.some.injEq] at hx;subst hx;rcases DataW.trod_slice ht hd with⟨_,h⟩|⟨a,len,cap,T,rest,n',_,a8,a1,_,bS,a9,ba,a2,_,_⟩
  · simp at h
  · simp only[Prod.mk.injEq,DataW.slice.injEq] at a1;obtain⟨⟨hm,hr⟩,_⟩:=a1;have a3:len=ws.length:=by rw[<-ba];have:=congrArg List.length hm;simpa using this.symm
    have hcell:W.cell? ⟨g,0,none⟩=some (.slice (some a) len cap):=by
     rw[World.var?_cell hg hv 0,<-Array.getElem?_toList,a8];rfl
    have aR: ∀j s,ws[j]?=some s->W.cell? ((a.add j).add 0)=some (.string ⟨s.toArray⟩):=by
     intro j s hs;have hj:j<ws.length:=(gS hs).1;have h1:=a2 j C;rw[a6,Nat.mul_one] at h1;have a4:T[j]?=some T[j]:=gG C;rw[a4] at h1;obtain⟨c1,bh,bi⟩:=Option.bind_eq_some_iff.1 h1;obtain⟨b,rfl,hb,_⟩:=DataW.trod_string he bi;obtain⟨_,bW,bl⟩:=World.cells?_some bh;have h0:=bl 0 dD;have ar:=congrArg (fun l=>l[j]?) hm;simp only[gP,hs,a4,Option.map_some,Option.some.injEq] at ar;rw[hb] at ar;simp only[DataW.lit.injEq,Lit.string.injEq] at ar;rw[h0,ar];rfl
    refine⟨iY hcell,_,hcell,?_⟩;obtain⟨b,o,a5⟩:=a;obtain⟨s0,bm⟩: ∃s0,ws[0]?=some s0:=⟨_,gG (gU a7)⟩
    have bp:a5=none:=by simpa[Addr.add] using World.cell?_spot (aR 0 s0 bm)
    subst bp;have bP:len=(ws.map fun s=> [S s]).length:=by rw[a3,lM]
    rw[bP];refine .sl (k:=1) (fun i j=> .string ⟨(ws.getD i []).toArray⟩) C a9 ?_ ?_ ?_ ?_
    · intro i e' ad;simp only[gP,Option.map_eq_some_iff] at ad;obtain⟨s,_,rfl⟩:=ad;rfl
    all_goals
     intro i e' j x' ad a0;simp only[gP,Option.map_eq_some_iff] at ad;obtain⟨s,hs,rfl⟩:=ad;have hj:j=0:=by have:=(gS a0).1;simp at this;omega
     subst hj;have hc:=aR i s hs;rw[aK,aK] at hc;have bR:ws.getD i [] =s:=by rw[List.getD_eq_getElem?_getD,hs];rfl
     simp only[List.getElem?_cons_zero,Option.some.injEq] at a0;subst a0;try rw[bR]
     first
      |(have:=iY hc;omega)
      |(rw[show o+i*1+0=o+i+0 by omega];exact hc)
      |exact .im U
end Go.Abs
namespace Go.Proofs.Y
open Go.Abs Go.Proofs.Tryz
def qu{P:Program}{W:World}{n:String}{g:Nat}{cs:Array Value}(h:W.var? P n=some cs)(hg:P.globalNamed n=some g): ∃ty sp,W.heap[g]?=some (.cells cs ty sp):=by
 unfold World.var? at h;rw[hg,Option.bind_some] at h;cases T:W.heap[g]? with
 |none=>rw[T] at h;cases h
 |some o=>
  rw[T] at h;cases o with
  |cells c ty sp=>simp only[Option.some.injEq] at h;subst h;exact⟨ty,sp,rfl⟩
  |_=>cases h
def Mo: "*" ++ "errors.errorString" = "*errors.errorString" :=by decide
def EG(u:TypeId)(h:prog.typeName? 3 u=some "*errors.errorString"):u=286:=
 typeName_ptr_named (nm:= "errors.errorString") (by rw[Mo];kernel_rfl) kR dD u (by rw[Mo];exact h)
def Bf{W:World}(h:laidMetH prog [("math/bits.deBruijn32tab",YtnhmohbhgocbjaaGreatDoor.Rows.laid_math_bits_deBruijn32tab),("math/bits.deBruijn64tab",YtnhmohbhgocbjaaGreatDoor.Rows.laid_math_bits_deBruijn64tab),("internal/strconv.uint64pow10",YtnhmohbhgocbjaaGreatDoor.Rows.laid_internal_strconv_uint64pow10),("strconv.ErrRange",YtnhmohbhgocbjaaGreatDoor.Rows.laid_strconv_ErrRange),("strconv.ErrSyntax",YtnhmohbhgocbjaaGreatDoor.Rows.laid_strconv_ErrSyntax),("askance/syntax.words",YtnhmohbhgocbjaaGreatDoor.Rows.laid_askance_syntax_words)] W): ∃E:C3,Glob (@cH E) (mb (fL W)) W:=by
 rw[MakeChecks.laidMetH_plain _ _ _ kR] at h;have ad:prog.globalNamed "internal/strconv.uint64pow10" =some 4:=by kernel_rfl
 have ar:prog.globalNamed "strconv.ErrSyntax" =some 2:=by kernel_rfl
 have a0:prog.globalNamed "strconv.ErrRange" =some 3:=by kernel_rfl
 have a1:prog.globalNamed "askance/syntax.words" =some 0:=by kernel_rfl
 have hP:=h.tail.tail;have a8:(YtnhmohbhgocbjaaGreatDoor.Rows.laid_internal_strconv_uint64pow10:DataW Unit)=Lib.tabData .u64 Lib.pow10Tab:=by kernel_rfl
 rw[a8] at hP;have tP:=Lib.tabIs_of_head ad (by kernel_rfl:(prog.globals[4]?).map (·.type)=some 289) underlying289 underlying259 kR kR hP;have hR:=hP.tail;obtain⟨aR,sR,a4,-,-,-⟩:=laid_sentinel hR a0 (by kernel_rfl:(prog.globals[3]?).map (·.type)=some 168) underlying168 EG underlying286 underlying288 U U underlying9 kR kR;have hS:=hR.tail;obtain⟨a5,sS,a6,-,-,-⟩:=laid_sentinel hS ar (by kernel_rfl:(prog.globals[2]?).map (·.type)=some 168) underlying168 EG underlying286 underlying288 U U underlying9 kR kR;have hW:=hS.tail;obtain⟨ps,⟨g0,t0,c0,f0,p0,q0,a9,ba,a7,a2,hL,_⟩,_,_⟩:=hW;have bh:(prog.globals[0]?).map (·.type)=some 75:=by kernel_rfl
 obtain rfl:=Option.some.inj (a1.symm.trans a9);obtain rfl:=Option.some.inj (bh.symm.trans ba);have ed:(YtnhmohbhgocbjaaGreatDoor.Rows.laid_askance_syntax_words:DataW Unit)= .slice (words.map fun s=> .lit (.string s)) []:=by unfold words;rfl
 rw[ed] at a2;have r0:=Ft a1 a7 underlying75 underlying9 kR (fun e=>by have:=congrArg List.length e;rw[wI] at this;cases this) a2;have bi:c0.size=1:=by
  rcases DataW.trod_slice underlying75 a2 with⟨a3,_⟩|⟨a,len,cap,bl,rest,n',_,a3,_⟩
  · have:=congrArg List.length a3;simpa using this
  · have:=congrArg List.length a3;simpa using this
 have cS:W.cell? ⟨2,0,none⟩=some (.iface 286 (.pointer (some a5))):=by have h0:=World.var?_cell ar a6 0;simpa using h0
 have cR:W.cell? ⟨3,0,none⟩=some (.iface 286 (.pointer (some aR))):=by have h0:=World.var?_cell a0 a4 0;simpa using h0
 obtain⟨bp,b1,bS⟩:=qu a6 ar;obtain⟨b2,b3,bR⟩:=qu a4 a0;obtain⟨b4,b5,bP⟩:=qu tP ad;obtain⟨b6,b7,bW⟩:=qu a7 a1;refine⟨⟨.iface 286 (.pointer (some a5)),.iface 286 (.pointer (some aR)),.inr ⟨_,_,rfl⟩,.inr ⟨_,_,rfl⟩⟩,⟨fun b hb=>jT hb,fun g xs hm _=> ?_⟩,fun g xs hm i x T=> ?_⟩
 · unfold cH tD at hm;simp only[List.mem_cons,List.not_mem_nil,or_false,Prod.mk.injEq] at hm;rcases hm with⟨rfl,rfl⟩|⟨rfl,rfl⟩|⟨rfl,rfl⟩|⟨rfl,rfl⟩
   · exact⟨_,_,_,bS,rfl⟩
   · exact⟨_,_,_,bR,rfl⟩
   · exact⟨_,_,_,bP,by simp[sN]⟩
   · exact⟨_,_,_,bW,by simpa using bi⟩
 · unfold cH tD at hm;simp only[List.mem_cons,List.not_mem_nil,or_false,Prod.mk.injEq] at hm;rcases hm with⟨rfl,rfl⟩|⟨rfl,rfl⟩|⟨rfl,rfl⟩|⟨rfl,rfl⟩
   · match i,T with
     |0,T=>simp at T;subst T;exact⟨iY cS,_,cS,.im U⟩
     |i+1,T=>simp at T
   · match i,T with
     |0,T=>simp at T;subst T;exact⟨iY cR,_,cR,.im U⟩
     |i+1,T=>simp at T
   · have hi:i<Lib.pow10Tab.length:=by
      have:=(gS T).1;simpa[sN] using this
     have c:=Lib.TabIs.cell tP ad i hi;have bm:x= .im (.int .u64 (Lib.pow10Tab.getD i 0)):=by
      rw[sN,gP,gG hi] at T;rw[List.getD_eq_getElem?_getD,gG hi];simpa using T.symm
     subst bm;exact⟨iY c,_,c,.im U⟩
   · exact r0 i x T
end Go.Proofs.Y
