/- Lemmas towards the law. Conditions: each one says its own. -/
import Derived.Test.YtnhmohbhgocbjaaGreatDoorZT14
set_option linter.all false
set_option maxHeartbeats 64000000
set_option maxRecDepth 100000
namespace Go.Proofs.Y
open Go.Abs Go.Proofs.Tryz
attribute [local irreducible] L Code.wp bodyPost Exit.then Exit.inBlock
def dK(es:List (List IV))(hk: ∀e∈es,e.length=2)(hne:es≠ [])(hm:es.length≤maxLen)(hl:es.length*40≤140737488355328):
 CallA prog 133 [.iv (.sl es)] [] [(1000,⟨57,.r es.flatten 0⟩)] [] (.bsh 1000 0 es.length 2):=by
 refine iA func133 ntmps133 (fun w0 E0=> ?_);(repeat' first|intro hb hp|(refine LW.is ?_;first|apply ag;rfl;apply ju;rfl;rfl;exact hne|apply dA;rfl;rfl;rfl;rfl;rfl|apply jv 1000;rfl;rfl;rfl;exact hk;exact hne;exact hm;exact hl;rfl)|refine am ?_|refine ak ?_ ?_|fail)
 all_goals(apply L.ends;rfl;rfl;exact fR;exact Wk.mk' kK .nil B1 .nil)
def wo:CallA prog 133 [.iv (.sl [])] [] [] [] .emp:=by
 refine iA func133 ntmps133 (fun w0 E0=> ?_);(repeat' first|intro hb hp|apply jW;rfl;rfl;rfl;rintro (_|_)|(refine LW.is ?_;first|apply dA;rfl;rfl;rfl;rfl;rfl|apply ag;rfl;apply qF;rfl;exact Sub.bslE _ _;rfl)|refine am ?_|refine ak ?_ ?_|fail)
 all_goals(apply L.ends;rfl;rfl;(first|exact fR|exact Sub.nilsEmp);exact Wk.mk' kK .nil .nil .nil)
def tu(es:List (List IV))(v:List IV)(i:Nat)(hk: ∀e∈es,e.length=2)(hv:v.length=2)(hne:es≠ [])(hi:i≤es.length)(hm:es.length+1≤maxLen)(hl:(es.length+1)*40≤140737488355328):
 CallA prog 137 [.bsh 1000 0 es.length 2,aI (i:Int),.bsl 1001 0 1 1] [(1000,⟨57,.r es.flatten 0⟩),(1001,⟨57,.r [v].flatten 0⟩)] [(1002,⟨57,.r (es.take i++v::es.drop i).flatten 0⟩),(1000,⟨57,.l []⟩),(1001,⟨57,.l []⟩)] [] (.bsh 1002 0 (es.length+1) 2):=by
 have hfl:=ao es hk;have hpos:0<es.length:=gU hne;have hfne:=aD hk dD hne;have hkv: ∀e∈ [v],e.length=2:=by simpa using hv
 have hvl: [v].flatten.length=2:=by simpa using hv
 have hki:=ui (i:=i) hk hv;have hli:=uj (v:=v) hi;have hkt: ∀e∈es.take i,e.length=2:=bw hk;have hlt:(es.take i).length=i:=by simp;omega
 have hft:=ao _ hkt;have hk1: ∀e∈es.take i++ [v],e.length=2:=cH hkt hkv;have hl1:(es.take i++ [v]).length=i+1:=by simp;omega
 have hk3: ∀e∈es.take (i+1)++es.drop i,e.length=2:=cH (bw hk) (bO hk);have h1v: [v].length=1:=rfl;have hl3:i<es.length→(es.take (i+1)++es.drop i).length=es.length+1:=fun h=>by simp;omega
 refine iA func137 ntmps137 (fun w0 E0=> ?_);refine L.openRow 0 rfl rfl (.inl hfne) C (fun cap hc1 hc2=> ?_);generalize hmm:cap*2 - es.flatten.length=mm;have hz:(((1:Nat):Int)==0)=false:=rfl;by_cases hin:i=es.length
 · have hb:(((i:Nat):Int)==((es.length:Nat):Int))=true:=by simp[hin]
   subst hin;by_cases hroom:es.length+1≤cap
   · (repeat' first|intro hb hp|(refine LW.is ?_;first|apply ag;rfl;apply cy;rfl;rfl;omega;omega;rfl;rfl;rfl|apply oc (i':=0);rfl;rfl;rfl;rfl;rfl;exact .inl hfne;exact hk;exact hkv;rfl;exact Nat.le_refl 1;omega;exact hroom;exact Nat.le_refl _;omega;exact Kv;rfl;rfl)|refine am ?_|refine ak ?_ ?_|fail)
     all_goals(apply cv 6 1002 (k:=2) (n:=es.length+1);rfl;rfl;rfl;exact hki;exact hli;omega;omega)
     all_goals refine cT 1001 rfl (Go.Abs.row_ne (.inl (aD hkv dD sP))) ?_
     all_goals(apply L.ends;rfl;rfl;exact fR;exact Wk.mk' kK .nil B3 .nil)
   · (repeat' first|intro hb hp|(refine LW.is ?_;first|apply ag;rfl;apply cy;rfl;rfl;omega;omega;rfl;rfl;rfl|apply qM 1002 (i':=0);rfl;rfl;rfl;rfl;rfl;exact hk;exact hkv;rfl;exact Nat.one_pos;exact Nat.le_refl 1;exact Nat.le_refl _;omega;exact hm;exact hl;rfl;exact Ku;rfl)|refine am ?_|refine ak ?_ ?_|fail)
     all_goals refine cT 1000 rfl (Go.Abs.row_ne (.inl hfne)) ?_
     all_goals refine cT 1001 rfl (Go.Abs.row_ne (.inl (aD hkv dD sP))) ?_
     all_goals(apply L.ends;rfl;rfl;exact fR;exact Wk.mk' kK .nil B3 .nil)
 · have hb:(((i:Nat):Int)==((es.length:Nat):Int))=false:=by simp;omega
   have hilt:i<es.length:=C;have hl3:=hl3 hilt;by_cases hroom:es.length+1≤cap
   · have hb2:decide ((cap:Int)<(es.length:Int)+((1:Nat):Int))=false:=by simp;omega
     (repeat' first|intro hb hp|(refine LW.is ?_;first|apply ag;rfl;apply cy;rfl;rfl;omega;omega;rfl;rfl;rfl|apply ag;rfl;apply fg;rfl;rfl;omega;omega;rfl|apply ag;rfl;apply lz;rfl;rfl;rfl;rfl;rfl;decide;omega;exact hfne|apply ii (es:=es.take (i+1)++es.drop i) (es':= [v]) (i:=i) (i':=0) (cnt:=1) (er:=es.take i++v::es.drop i);rfl;rfl;rfl;rfl;rfl;exact hk3;exact hkv;decide;omega;rfl;(show min _ _=_;omega);decide;omega;omega;(simp;omega);(simp;omega);exact Kw hilt;rfl)|(refine DR.is ?_;first|apply bk;rfl;apply cy;rfl;rfl;omega;omega;rfl;rfl;rfl|apply jz (es:=es) (es':=es) (i:=i+1) (i':=i) (cnt:=es.length - i) (er:=es.take (i+1)++es.drop i);rfl;rfl;rfl;rfl;rfl;exact hk;exact hk;decide;omega;omega;(show min _ _=_;omega);omega;omega;omega;omega;omega;exact Kx hi;rfl)|refine am ?_|refine ak ?_ ?_|fail)
     all_goals(apply cv 6 1002 (k:=2) (n:=es.length+1);rfl;rfl;rfl;exact hki;exact hli;omega;omega)
     all_goals refine cT 1001 rfl (Go.Abs.row_ne (.inl (aD hkv dD sP))) ?_
     all_goals(apply L.ends;rfl;rfl;exact fR;exact Wk.mk' kK .nil B3 .nil)
   · have hb2:decide ((cap:Int)<(es.length:Int)+((1:Nat):Int))=true:=by simp;omega
     (repeat' first|intro hb hp|refine L.openRow 9 (id:=2000) (n:=es.length+1) (k:=2) (ty:=57) (xs:=(es.take i).flatten) (m:=(es.length+1 - i)*2) rfl rfl (.inr C) C (fun cap2 hd1 hd2=> ?_)|(refine LW.is ?_;first|apply ag;rfl;apply cy;rfl;rfl;omega;omega;rfl;rfl;rfl|apply ag;rfl;apply fg;rfl;rfl;omega;omega;rfl|apply qL 2000 (n:=i) (m:=es.length+1 - i) (nr:=es.length+1);rfl;rfl;rfl;omega;rfl;exact hk;omega;omega;omega;omega;omega;rfl;rfl;omega;rfl|apply ii (es:=es.take i) (es':= [v]) (i:=i) (i':=0) (cnt:=1) (er:=es.take i++ [v]);rfl;rfl;rfl;rfl;rfl;exact hkt;exact hkv;decide;omega;rfl;(show min _ _=_;omega);decide;omega;omega;omega;omega;exact Kz hi;rfl)|(refine DR.is ?_;first|apply bk;rfl;apply cy;rfl;rfl;omega;omega;rfl;rfl;rfl|apply jz (es:=es.take i++ [v]) (es':=es) (i:=i+1) (i':=i) (cnt:=es.length - i) (er:=es.take i++v::es.drop i);rfl;rfl;rfl;rfl;rfl;exact hk1;exact hk;decide;omega;omega;(show min _ _=_;omega);omega;omega;omega;omega;omega;exact Ky hi;rfl)|refine am ?_|refine ak ?_ ?_|fail)
     all_goals(apply cv 6 1002 (k:=2) (n:=es.length+1);rfl;rfl;rfl;exact hki;exact hli;omega;omega)
     all_goals refine cT 1000 rfl (Go.Abs.row_ne (.inl hfne)) ?_
     all_goals refine cT 1001 rfl (Go.Abs.row_ne (.inl (aD hkv dD sP))) ?_
     all_goals(apply L.ends;rfl;rfl;exact fR;exact Wk.mk' kK .nil B3 .nil)
def Bw(v:List IV)(hv:v.length=2):
 CallA prog 137 [.emp,aI 0,.iv (.sl [v])] [] [] [] (.iv (.sl [v])):=by
 have hkv: ∀e∈ [v],e.length=2:=by simpa using hv
 refine iA func137 ntmps137 (fun w0 E0=> ?_);(repeat' first|intro hb hp|apply xD;rfl;rfl;rfl;exact hkv;exact cN _ _;exact(by simp[maxLen]);exact sP;rfl|(refine LW.is ?_;first|apply ag;rfl;apply jT;rfl;rfl;exact bK;decide;decide;rfl)|refine am ?_|refine ak ?_ ?_|fail)
 all_goals refine bn ?_
 all_goals rfl
def jh(es:List (List IV))(hk: ∀e∈es,e.length=3)(hne:es≠ [])(hm:es.length≤maxLen)(hl:es.length*48≤140737488355328):
 CallA prog 49 [.iv (.sl es)] [] [(1000,⟨67,.r es.flatten 0⟩)] [] (.bsh 1000 0 es.length 3):=by
 refine iA func49 ntmps49 (fun w0 E0=> ?_);(repeat' first|intro hb hp|(refine LW.is ?_;first|apply ag;rfl;apply ju;rfl;rfl;exact hne|apply dA;rfl;rfl;rfl;rfl;rfl|apply jv 1000;rfl;rfl;rfl;exact hk;exact hne;exact hm;exact hl;rfl)|refine am ?_|refine ak ?_ ?_|fail)
 all_goals(apply L.ends;rfl;rfl;exact fR;exact Wk.mk' kK .nil B1 .nil)
def gH:CallA prog 49 [.iv (.sl [])] [] [] [] .emp:=by
 refine iA func49 ntmps49 (fun w0 E0=> ?_);(repeat' first|intro hb hp|apply jW;rfl;rfl;rfl;rintro (_|_)|(refine LW.is ?_;first|apply dA;rfl;rfl;rfl;rfl;rfl|apply ag;rfl;apply qF;rfl;exact Sub.bslE _ _;rfl)|refine am ?_|refine ak ?_ ?_|fail)
 all_goals(apply L.ends;rfl;rfl;(first|exact fR|exact Sub.nilsEmp);exact Wk.mk' kK .nil .nil .nil)
def Bv(es:List (List IV))(v:List IV)(i:Nat)(hk: ∀e∈es,e.length=3)(hv:v.length=3)(hne:es≠ [])(hi:i≤es.length)(hm:es.length+1≤maxLen)(hl:(es.length+1)*48≤140737488355328):
 CallA prog 140 [.bsh 1000 0 es.length 3,aI (i:Int),.bsl 1001 0 1 1] [(1000,⟨67,.r es.flatten 0⟩),(1001,⟨67,.r [v].flatten 0⟩)] [(1002,⟨67,.r (es.take i++v::es.drop i).flatten 0⟩),(1000,⟨67,.l []⟩),(1001,⟨67,.l []⟩)] [] (.bsh 1002 0 (es.length+1) 3):=by
 have hfl:=ao es hk;have hpos:0<es.length:=gU hne;have hfne:=aD hk dD hne;have hkv: ∀e∈ [v],e.length=3:=by simpa using hv
 have hvl: [v].flatten.length=3:=by simpa using hv
 have hki:=ui (i:=i) hk hv;have hli:=uj (v:=v) hi;have hkt: ∀e∈es.take i,e.length=3:=bw hk;have hlt:(es.take i).length=i:=by simp;omega
 have hft:=ao _ hkt;have hk1: ∀e∈es.take i++ [v],e.length=3:=cH hkt hkv;have hl1:(es.take i++ [v]).length=i+1:=by simp;omega
 have hk3: ∀e∈es.take (i+1)++es.drop i,e.length=3:=cH (bw hk) (bO hk);have h1v: [v].length=1:=rfl;have hl3:i<es.length→(es.take (i+1)++es.drop i).length=es.length+1:=fun h=>by simp;omega
 refine iA func140 ntmps140 (fun w0 E0=> ?_);refine L.openRow 0 rfl rfl (.inl hfne) C (fun cap hc1 hc2=> ?_);generalize hmm:cap*3 - es.flatten.length=mm;have hz:(((1:Nat):Int)==0)=false:=rfl;by_cases hin:i=es.length
 · have hb:(((i:Nat):Int)==((es.length:Nat):Int))=true:=by simp[hin]
   subst hin;by_cases hroom:es.length+1≤cap
   · (repeat' first|intro hb hp|(refine LW.is ?_;first|apply ag;rfl;apply cy;rfl;rfl;omega;omega;rfl;rfl;rfl|apply oc (i':=0);rfl;rfl;rfl;rfl;rfl;exact .inl hfne;exact hk;exact hkv;rfl;exact Nat.le_refl 1;omega;exact hroom;exact Nat.le_refl _;omega;exact Kv;rfl;rfl)|refine am ?_|refine ak ?_ ?_|fail)
     all_goals(apply cv 6 1002 (k:=3) (n:=es.length+1);rfl;rfl;rfl;exact hki;exact hli;omega;omega)
     all_goals refine cT 1001 rfl (Go.Abs.row_ne (.inl (aD hkv dD sP))) ?_
     all_goals(apply L.ends;rfl;rfl;exact fR;exact Wk.mk' kK .nil B3 .nil)
   · (repeat' first|intro hb hp|(refine LW.is ?_;first|apply ag;rfl;apply cy;rfl;rfl;omega;omega;rfl;rfl;rfl|apply qM 1002 (i':=0);rfl;rfl;rfl;rfl;rfl;exact hk;exact hkv;rfl;exact Nat.one_pos;exact Nat.le_refl 1;exact Nat.le_refl _;omega;exact hm;exact hl;rfl;exact Ku;rfl)|refine am ?_|refine ak ?_ ?_|fail)
     all_goals refine cT 1000 rfl (Go.Abs.row_ne (.inl hfne)) ?_
     all_goals refine cT 1001 rfl (Go.Abs.row_ne (.inl (aD hkv dD sP))) ?_
     all_goals(apply L.ends;rfl;rfl;exact fR;exact Wk.mk' kK .nil B3 .nil)
 · have hb:(((i:Nat):Int)==((es.length:Nat):Int))=false:=by simp;omega
   have hilt:i<es.length:=C;have hl3:=hl3 hilt;by_cases hroom:es.length+1≤cap
   · have hb2:decide ((cap:Int)<(es.length:Int)+((1:Nat):Int))=false:=by simp;omega
     (repeat' first|intro hb hp|(refine LW.is ?_;first|apply ag;rfl;apply cy;rfl;rfl;omega;omega;rfl;rfl;rfl|apply ag;rfl;apply fg;rfl;rfl;omega;omega;rfl|apply ag;rfl;apply lz;rfl;rfl;rfl;rfl;rfl;decide;omega;exact hfne|apply ii (es:=es.take (i+1)++es.drop i) (es':= [v]) (i:=i) (i':=0) (cnt:=1) (er:=es.take i++v::es.drop i);rfl;rfl;rfl;rfl;rfl;exact hk3;exact hkv;decide;omega;rfl;(show min _ _=_;omega);decide;omega;omega;(simp;omega);(simp;omega);exact Kw hilt;rfl)|(refine DR.is ?_;first|apply bk;rfl;apply cy;rfl;rfl;omega;omega;rfl;rfl;rfl|apply jz (es:=es) (es':=es) (i:=i+1) (i':=i) (cnt:=es.length - i) (er:=es.take (i+1)++es.drop i);rfl;rfl;rfl;rfl;rfl;exact hk;exact hk;decide;omega;omega;(show min _ _=_;omega);omega;omega;omega;omega;omega;exact Kx hi;rfl)|refine am ?_|refine ak ?_ ?_|fail)
     all_goals(apply cv 6 1002 (k:=3) (n:=es.length+1);rfl;rfl;rfl;exact hki;exact hli;omega;omega)
     all_goals refine cT 1001 rfl (Go.Abs.row_ne (.inl (aD hkv dD sP))) ?_
     all_goals(apply L.ends;rfl;rfl;exact fR;exact Wk.mk' kK .nil B3 .nil)
   · have hb2:decide ((cap:Int)<(es.length:Int)+((1:Nat):Int))=true:=by simp;omega
     (repeat' first|intro hb hp|refine L.openRow 9 (id:=2000) (n:=es.length+1) (k:=3) (ty:=67) (xs:=(es.take i).flatten) (m:=(es.length+1 - i)*3) rfl rfl (.inr C) C (fun cap2 hd1 hd2=> ?_)|(refine LW.is ?_;first|apply ag;rfl;apply cy;rfl;rfl;omega;omega;rfl;rfl;rfl|apply ag;rfl;apply fg;rfl;rfl;omega;omega;rfl|apply qL 2000 (n:=i) (m:=es.length+1 - i) (nr:=es.length+1);rfl;rfl;rfl;omega;rfl;exact hk;omega;omega;omega;omega;omega;rfl;rfl;omega;rfl|apply ii (es:=es.take i) (es':= [v]) (i:=i) (i':=0) (cnt:=1) (er:=es.take i++ [v]);rfl;rfl;rfl;rfl;rfl;exact hkt;exact hkv;decide;omega;rfl;(show min _ _=_;omega);decide;omega;omega;omega;omega;exact Kz hi;rfl)|(refine DR.is ?_;first|apply bk;rfl;apply cy;rfl;rfl;omega;omega;rfl;rfl;rfl|apply jz (es:=es.take i++ [v]) (es':=es) (i:=i+1) (i':=i) (cnt:=es.length - i) (er:=es.take i++v::es.drop i);rfl;rfl;rfl;rfl;rfl;exact hk1;exact hk;decide;omega;omega;(show min _ _=_;omega);omega;omega;omega;omega;omega;exact Ky hi;rfl)|refine am ?_|refine ak ?_ ?_|fail)
     all_goals(apply cv 6 1002 (k:=3) (n:=es.length+1);rfl;rfl;rfl;exact hki;exact hli;omega;omega)
     all_goals refine cT 1000 rfl (Go.Abs.row_ne (.inl hfne)) ?_
     all_goals refine cT 1001 rfl (Go.Abs.row_ne (.inl (aD hkv dD sP))) ?_
     all_goals(apply L.ends;rfl;rfl;exact fR;exact Wk.mk' kK .nil B3 .nil)
def Bu(v:List IV)(hv:v.length=3):
 CallA prog 140 [.emp,aI 0,.iv (.sl [v])] [] [] [] (.iv (.sl [v])):=by
 have hkv: ∀e∈ [v],e.length=3:=by simpa using hv
 refine iA func140 ntmps140 (fun w0 E0=> ?_);(repeat' first|intro hb hp|apply xD;rfl;rfl;rfl;exact hkv;exact cN _ _;exact(by simp[maxLen]);exact sP;rfl|(refine LW.is ?_;first|apply ag;rfl;apply jT;rfl;rfl;exact bK;decide;decide;rfl)|refine am ?_|refine ak ?_ ?_|fail)
 all_goals refine bn ?_
 all_goals rfl
end Go.Proofs.Y
namespace Go.Abs
section
variable {P:Program}{c:Ctx}{st:St}{ops:Array Oper}{Q:Exit→Act→World→Prop}{rest:List Oper}{o:Oper}
def L.callXG{gs:au}{f:FuncId}{args:Array Operand}{ats:Array TypeId}{avs:List AV}{bxi:List (Nat×Box)}{res:AV}{d:Nat}(hg:o.guard=none)(hd:o.dst=some d)(hlt:Nat.ble (d+1) c.nt=true)(hG:Glob gs c.E0 c.w0)
 (ho:o.op= .call {callee:= .value (.func f),args:=args,argTypes:=ats}) (hok:dQ P f=true) (hc:CallG gs P f avs bxi bxi [] res) (ha:Subs (args.toList.map st.ev) avs)
 (hbi:WkB st.bx bxi) (hmb:bxi.all (fun p=> !p.2.cs.isEmpty && AV.mentsIn (keys bxi) p.2.cs)=true) (hmr:AV.mentIn (keys bxi) res=true)
 (h:L c ⟨(d,res)::st.fr,bxi++st.bx,st.tk⟩ (wpList P ops Q rest)):L c st (wpList P ops Q (o::rest)):=
 nf [] hg hd hlt hG (fun E a w hi=>by
  refine⟨args.toList.map a.eval,?_,(hi.evs args).sub ha⟩;have hargs:(args.toList.map a.eval).toArray=args.map a.eval:=by apply Array.ext';simp
  rw[hargs];simp[execOp,ho,resolve,Act.eval,Deferred.ofValue,invoke,eK hok]) hc hbi U (by
   simp only[dW,aE,List.all_eq_true] at hmb⊢;exact⟨fun p hp=>(hmb p hp).1,fun id hid=>by simpa using hid⟩) U (by
   simp only[aE,List.all_eq_true] at hmb⊢;exact fun p hp=>(hmb p hp).2) hmr h
def nj{fr:List (Nat×AV)}{bx:List (Nat×Box)}{tk:List (Nat×Tok)}{d:Nat}{ty:TypeId}{pos:String}{aft:Array Edge}{gs:au}{f:FuncId}{args:Array Operand}{ats:Array TypeId}{avs:List AV}{bxi:List (Nat×Box)}{res:AV}(hlt:Nat.ble (d+1) c.nt=true)(hG:Glob gs c.E0 c.w0)[hok:CallTy P f]
 (hc:CallG gs P f avs bxi bxi [] res) (ha:AV.pub.pubs (args.toList.map (St.ev ⟨fr,bx,tk⟩))=avs) (hbi:WkB bx bxi) (hmb:bxi.all (fun p=> !p.2.cs.isEmpty && AV.mentsIn (keys bxi) p.2.cs)=true) (hmr:AV.mentIn (keys bxi) res=true)
 (h:LW P c ⟨(d,res)::fr,bxi++bx,tk⟩ ops Q rest):
 LW P c ⟨fr,bx,tk⟩ ops Q (⟨some d,.call {callee:= .value (.func f),args:=args,argTypes:=ats},ty,pos,aft,none⟩::rest):=
 .mk (L.callXG (st:=⟨fr,bx,tk⟩) U U hlt hG U hok.h hc (.of_pub ha) hbi hmb hmr (LW.out h))
end
end Go.Abs
namespace Go.Proofs.Y
open Go.Abs Go.Proofs.Tryz
attribute [local irreducible] L Code.wp bodyPost Exit.then Exit.inBlock
def mt(s:Stm)(a:Str)(x:IV):CallA prog 142 [.agg [.iv (S a),.iv x],.ptr 1000 0] [(1000,⟨80,.l (s.cs.map .iv)⟩)] [(1000,⟨80,.l (s.cs.map .iv)⟩)] [] (aB (a==s.name)):=by
 refine iA func142 ntmps142 (fun w0 E0=> ?_);refine wz ?_;all_goals exact L.ends U U fR (Wk.mk' ay .nil B1 .nil)
def rH(s:Stm)(a b:Str)(x:IV):CallA prog 144 [.agg [.iv (S a),.iv (S b),.iv x],.ptr 1000 0] [(1000,⟨80,.l (s.cs.map .iv)⟩)] [(1000,⟨80,.l (s.cs.map .iv)⟩)] [] (aB (b==s.name)):=by
 refine iA func144 ntmps144 (fun w0 E0=> ?_);refine wz ?_;all_goals exact L.ends U U fR (Wk.mk' ay .nil B1 .nil)
def zB{gs:au}{f:FuncId}{b:Box}[CallTy prog f](p:Tab→Bool)(l:List Tab)(hne:l≠ [])(hl:l.length≤140737488355328)(hmb: [(1001,b)].all (fun p=> !p.2.cs.isEmpty && AV.mentsIn (keys [(1001,b)]) p.2.cs)=true)
 (hc: ∀y∈l,CallG gs prog f ([.agg (y.c.map .iv)] ++ [.ptr 1001 0]) [(1001,b)] [(1001,b)] [] (aB (p y))):
 CallG gs prog 183 [.bsh 1000 0 l.length 2,.fn f [.ptr 1001 0]] [(1000,⟨57,.r (l.map Tab.c).flatten 0⟩),(1001,b)] [(1000,⟨57,.r (l.map Tab.c).flatten 0⟩),(1001,b)] [] (aI (iB p l)):=by
 refine iG func183 ntmps183 (fun w0 E0 hG=> ?_);have hk: ∀e∈l.map Tab.c,e.length=2:=by intro e he;obtain⟨t,_,rfl⟩:=mM he;rfl
 refine wz ?_;refine ae (ι:=Nat) (fun i=>⟨[(8,aI (i:Int)),(7,aI (l.length:Int)),(0,.bsh 1000 0 l.length 2),(1,.fn f [.ptr 1001 0])],[(1000,⟨57,.r (l.map Tab.c).flatten 0⟩),(1001,b)],[]⟩) (fun i=>l.length - i) (fun i=> ∀y∈l.take i,p y=false) (i0:=0) ?_ sP ?_
 · exact Wk.mkX ay F4 (fun s v h=>h) .nil
 intro i hI K hK;cases hx:l[i]? with
 |none=>
  have hlt:decide ((i:Int)<(l.length:Int))=false:=by have:=gO hx;exact decide_eq_false C
  rw[jG (fK hI hx)];refine wz ?_;apply L.ends;rfl;rfl;exact fR;exact Wk.mkX ay .nil (fun s v h=>h) .nil
 |some y=>
  have hlt':=(gS hx).1;have hlt:decide ((i:Int)<(l.length:Int))=true:=decide_eq_true C;have hcz:=hc y (gE hx);have g1:((i:Nat):Int)<(l.length:Int):=C;have g4:(0+((i:Nat):Int).toNat)*2=i*2:=by rw[iN,Nat.zero_add]
  have g5:((Box.mk 57 (.r (l.map Tab.c).flatten 0)).cs.drop (i*2)).take 2=y.c.map .iv:=xF hk (by rw[gP,hx];rfl);cases hq:p y with
  |true=>
   rw[hq] at hcz;rw[gC hI hx hq];(repeat' first|intro hb hp|refine aY (f:=f) (bxi:= [(1001,b)]) U hG U hcz U B1 hmb U ?_|(refine LW.is ?_;first|refine ag U (az U U C g1 g4) ?_|refine ag U (cO U U g5 U) ?_)|refine am ?_|refine ak ?_ ?_|fail)
   apply L.ends;rfl;rfl;exact fR;exact Wk.mk' ay .nil B2 .nil
  |false=>
   rw[hq] at hcz;(repeat' first|intro hb hp|refine aY (f:=f) (bxi:= [(1001,b)]) U hG U hcz U B1 hmb U ?_|(refine LW.is ?_;first|refine ag U (az U U C g1 g4) ?_|refine ag U (cO U U g5 U) ?_)|refine am ?_|refine ak ?_ ?_|fail)
   refine hK _ (i+1) (gN hI hx hq) C ?_;exact Wk.mk' ay F4 B2 .nil
def zA{gs:au}{f:FuncId}{b:Box}[CallTy prog f](p:Idx→Bool)(l:List Idx)(hne:l≠ [])(hl:l.length≤140737488355328)(hmb: [(1001,b)].all (fun p=> !p.2.cs.isEmpty && AV.mentsIn (keys [(1001,b)]) p.2.cs)=true)
 (hc: ∀y∈l,CallG gs prog f ([.agg (y.c.map .iv)] ++ [.ptr 1001 0]) [(1001,b)] [(1001,b)] [] (aB (p y))):
 CallG gs prog 111 [.bsh 1000 0 l.length 3,.fn f [.ptr 1001 0]] [(1000,⟨67,.r (l.map Idx.c).flatten 0⟩),(1001,b)] [(1000,⟨67,.r (l.map Idx.c).flatten 0⟩),(1001,b)] [] (aI (iB p l)):=by
 refine iG func111 ntmps111 (fun w0 E0 hG=> ?_);have hk: ∀e∈l.map Idx.c,e.length=3:=by intro e he;obtain⟨t,_,rfl⟩:=mM he;rfl
 refine wz ?_;refine ae (ι:=Nat) (fun i=>⟨[(8,aI (i:Int)),(7,aI (l.length:Int)),(0,.bsh 1000 0 l.length 3),(1,.fn f [.ptr 1001 0])],[(1000,⟨67,.r (l.map Idx.c).flatten 0⟩),(1001,b)],[]⟩) (fun i=>l.length - i) (fun i=> ∀y∈l.take i,p y=false) (i0:=0) ?_ sP ?_
 · exact Wk.mkX ay F4 (fun s v h=>h) .nil
 intro i hI K hK;cases hx:l[i]? with
 |none=>
  have hlt:decide ((i:Int)<(l.length:Int))=false:=by have:=gO hx;exact decide_eq_false C
  rw[jG (fK hI hx)];refine wz ?_;apply L.ends;rfl;rfl;exact fR;exact Wk.mkX ay .nil (fun s v h=>h) .nil
 |some y=>
  have hlt':=(gS hx).1;have hlt:decide ((i:Int)<(l.length:Int))=true:=decide_eq_true C;have hcz:=hc y (gE hx);have g1:((i:Nat):Int)<(l.length:Int):=C;have g4:(0+((i:Nat):Int).toNat)*3=i*3:=by rw[iN,Nat.zero_add]
  have g5:((Box.mk 67 (.r (l.map Idx.c).flatten 0)).cs.drop (i*3)).take 3=y.c.map .iv:=xF hk (by rw[gP,hx];rfl);cases hq:p y with
  |true=>
   rw[hq] at hcz;rw[gC hI hx hq];(repeat' first|intro hb hp|refine aY (f:=f) (bxi:= [(1001,b)]) U hG U hcz U B1 hmb U ?_|(refine LW.is ?_;first|refine ag U (az U U C g1 g4) ?_|refine ag U (cO U U g5 U) ?_)|refine am ?_|refine ak ?_ ?_|fail)
   apply L.ends;rfl;rfl;exact fR;exact Wk.mk' ay .nil B2 .nil
  |false=>
   rw[hq] at hcz;(repeat' first|intro hb hp|refine aY (f:=f) (bxi:= [(1001,b)]) U hG U hcz U B1 hmb U ?_|(refine LW.is ?_;first|refine ag U (az U U C g1 g4) ?_|refine ag U (cO U U g5 U) ?_)|refine am ?_|refine ak ?_ ?_|fail)
   refine hK _ (i+1) (gN hI hx hq) C ?_;exact Wk.mk' ay F4 B2 .nil
def zj{k i mm:Nat}{es:List (List IV)}{e:List IV}(hk: ∀e∈es,e.length=k)(h:es[i]?=some e){t:TypeId}:((Box.mk t (.r es.flatten mm)).cs.drop (i*k)).take k=e.map .iv:=by
 have h1:=(gS h).1;have hfl:=ao es hk;have he:e.length=k:=hk e (gE h);have h2:(i+1)*k≤es.length*k:=mR k h1;rw[Nat.add_mul,Nat.one_mul] at h2;rw[Box.cs_r,List.drop_append_of_le_length (by rw[lM];omega),tA (by rw[lD,lM];omega),←List.map_drop,←List.map_take,sD es i e hk h]
structure DI {α:Type} (p:α→Bool) (ts cur:List α) (i j:Nat):Prop where
 l:cur.length=ts.length
 a:cur.take i=(ts.take j).filter (fun x=> !p x)
 d:cur.drop j=ts.drop j
 lt:i<j
 le:j≤ts.length
def DI.at{α:Type}{p:α→Bool}{ts cur:List α}{i j:Nat}(h:DI p ts cur i j):cur[j]?=ts[j]?:=by
 have:=congrArg (fun l=>l[0]?) h.d;simpa using this
def DI.keep{α:Type}{p:α→Bool}{ts cur:List α}{i j:Nat}{x:α}(h:DI p ts cur i j)(hx:ts[j]?=some x)(hp:p x=false):DI p ts (cur.set i x) (i+1) (j+1):=by
 have hj:=(gS hx).1;have hl:=h.l;have hlt:=h.lt;refine⟨by rw[List.length_set];exact hl,?_,?_,by omega,by omega⟩
 · rw[List.take_add_one (l:=ts),hx,List.filter_append,←h.a,List.take_add_one,List.take_set_of_le nR,List.getElem?_set_self C];simp[hp]
 · rw[List.drop_set_of_lt C,←List.drop_drop,h.d,List.drop_drop]
def DI.drop{α:Type}{p:α→Bool}{ts cur:List α}{i j:Nat}{x:α}(h:DI p ts cur i j)(hx:ts[j]?=some x)(hp:p x=true):DI p ts cur i (j+1):=by
 have hj:=(gS hx).1;have hlt:=h.lt;refine⟨h.l,?_,?_,by omega,by omega⟩
 · rw[List.take_add_one (l:=ts),hx,List.filter_append,←h.a];simp[hp]
 · rw[←List.drop_drop,h.d,List.drop_drop]
def DI.first{α:Type}{p:α→Bool}{ts:List α}{i:Nat}{x:α}(h: ∀y∈ts.take i,p y=false)(hx:ts[i]?=some x)(hp:p x=true):DI p ts ts i (i+1):=by
 have hj:=(gS hx).1;refine⟨rfl,?_,rfl,by omega,by omega⟩;rw[List.take_add_one,hx,List.filter_append,List.filter_eq_self.2 (fun y hy=>by rw[h y hy];rfl)];simp[hp]
def DI.full{α:Type}{p:α→Bool}{ts cur:List α}{i j:Nat}(h:DI p ts cur i j)(hx:ts[j]?=none):cur.take i=ts.filter (fun x=> !p x)∧(ts.filter (fun x=> !p x)).length=i:=by
 have e:cur.take i=ts.filter (fun x=> !p x):=by rw[h.a,tL (gO hx)]
 refine⟨e,?_⟩;rw[←e,lT,h.l];have:=h.lt;have:=h.le;omega
def IW{gs:au}{f:FuncId}{s:Stm}[CallTy prog f](p:Tab→Bool)(l:List Tab)(hne:l≠ [])(hl:l.length≤140737488355328)(hmb: [(1001,(Box.mk 80 (.l (s.cs.map .iv))))].all (fun p=> !p.2.cs.isEmpty && AV.mentsIn (keys [(1001,(Box.mk 80 (.l (s.cs.map .iv))))]) p.2.cs)=true)
 (hmx:([(1000,⟨57,.r (l.map Tab.c).flatten 0⟩),(1001,(Box.mk 80 (.l (s.cs.map .iv))))]:List (Nat×Box)).all (fun p=> !p.2.cs.isEmpty && AV.mentsIn (keys [(1000,⟨57,.r (l.map Tab.c).flatten 0⟩),(1001,(Box.mk 80 (.l (s.cs.map .iv))))]) p.2.cs)=true)
 (hc: ∀y∈l,CallG gs prog f ([.agg [.iv (S y.n),.iv (.sl (y.cols.map Col.c))]] ++ [.ptr 1001 0]) [(1001,(Box.mk 80 (.l (s.cs.map .iv))))] [(1001,(Box.mk 80 (.l (s.cs.map .iv))))] [] (aB (p y))) (hnk:l.filter (fun x=> !p x)≠ [])
 (i0:Nat) (x0:Tab) (hbef: ∀y∈l.take i0,p y=false) (hx0:l[i0]?=some x0) (hp0:p x0=true):
 CallG gs prog 141 [.bsh 1000 0 l.length 2,.fn f [.ptr 1001 0]] [(1000,⟨57,.r (l.map Tab.c).flatten 0⟩),(1001,(Box.mk 80 (.l (s.cs.map .iv))))] [(1002,⟨57,.r ((l.filter (fun x=> !p x)).map Tab.c).flatten 0⟩),(1000,⟨57,.l []⟩),(1001,(Box.mk 80 (.l (s.cs.map .iv))))] [] (.bsh 1002 0 (l.filter (fun x=> !p x)).length 2):=by
 refine iG func141 ntmps141 (fun w0 E0 hG=> ?_);have hk: ∀e∈l.map Tab.c,e.length=2:=by intro e he;obtain⟨t,_,rfl⟩:=mM he;rfl
 have hfl:(l.map Tab.c).flatten.length=l.length*2:=by rw[ao _ hk,lM]
 have hfne:(l.map Tab.c).flatten≠ []:=aD hk dD (by simpa using hne);have kx:=zB (gs:=gs) (f:=f) (b:=(Box.mk 80 (.l (s.cs.map .iv)))) p l hne hl hmb hc;rw[gC hbef hx0 hp0] at kx;have hi0:=(gS hx0).1;have he:((i0:Int)== -1)=false:=beq_eq_false_iff_ne.2 C;(repeat' first|intro hb hp|refine nj (bxi:= [(1000,⟨57,.r (l.map Tab.c).flatten 0⟩),(1001,(Box.mk 80 (.l (s.cs.map .iv))))]) U hG kx U B2 hmx U ?_|refine am ?_|refine ak ?_ ?_|fail)
 refine L.openRow 0 U U (.inl hfne) C (fun cap hc1 hc2=> ?_);obtain⟨mm,hmm⟩: ∃mm,mm=cap*2 - (l.map Tab.c).flatten.length:=⟨_,rfl⟩
 rw[←hmm];rw[hfl] at hmm;refine ae (ι:=List Tab×Nat×Nat) (fun x=>⟨[(5,aI (x.2.1:Int)),(6,aI (x.2.2:Int)),(0,.bsl 1000 0 l.length cap),(1,.fn f [.ptr 1001 0])],[(1000,⟨57,.r (x.1.map Tab.c).flatten mm⟩),(1001,(Box.mk 80 (.l (s.cs.map .iv))))],[]⟩) (fun x=>l.length - x.2.2) (fun x=>DI p l x.1 x.2.1 x.2.2) (i0:=(l,i0,i0+1)) ?_ (.first hbef hx0 hp0) ?_
 · exact Wk.mk' kK (wF (wG F2)) B2 .nil
 rintro ⟨cur,i,j⟩ hD K hK;dsimp only at hD hK⊢;have hlt0:=hD.lt;have hle0:=hD.le;have hcu:=hD.l;have hkc: ∀e∈cur.map Tab.c,e.length=2:=by intro e he;obtain⟨t,_,rfl⟩:=mM he;rfl
 have hlc:(cur.map Tab.c).length=l.length:=by rw[lM,hcu]
 have hic:i<(cur.map Tab.c).length:=by rw[hlc];omega
 cases hx:l[j]? with
 |none=>
  obtain⟨hcl0,hci⟩:=hD.full hx;have hcl:(cur.map Tab.c).take i=(l.filter (fun x=> !p x)).map Tab.c:=by rw[←List.map_take,hcl0]
  have hj:=gO hx;have hlt:decide ((j:Int)<(l.length:Int))=false:=decide_eq_false C;generalize hG2:l.filter (fun x=> !p x)=kept at*
  (repeat' first|intro hb hp|(refine LW.is ?_;first|refine ag U (cy (off':=i*2) (n':=l.length - i) (cap':=cap - i) U U C C C C C) ?_|refine gf (j:=i) U U hkc U (by rw[hlc];omega) C (by rw[hlc];omega) hcl U ?_|refine ag U (fg (n':=i) U U C C C) ?_)|refine am ?_|refine ak ?_ ?_|fail)
  have hpos:0<i:=by rw[←hci];exact gU hnk
  have hkk: ∀e∈kept.map Tab.c,e.length=2:=by intro e he;obtain⟨t,_,rfl⟩:=mM he;rfl
  all_goals(apply cv 4 1002 (k:=2) (n:=i);rfl;rfl;rfl;exact hkk;(rw[lM];exact hci);omega;(rw[hlc];omega))
  all_goals exact L.ends U U (Sub.of_eq (congrArg (fun z=>AV.bsh 1002 0 z 2) hci.symm)) wK
 |some y=>
  have hlt':=(gS hx).1;have hlt:decide ((j:Int)<(l.length:Int))=true:=decide_eq_true C;have hcz:=hc y (gE hx);have g1:((j:Nat):Int)<(l.length:Int):=C;have g4:0+((j:Nat):Int).toNat*2=j*2:=by rw[iN,Nat.zero_add]
  have h1:((i:Nat):Int)<(l.length:Int):=C;have h4:0+((i:Nat):Int).toNat*2=i*2:=by rw[iN,Nat.zero_add]
  have g5:((Box.mk 57 (.r (cur.map Tab.c).flatten mm)).cs.drop (j*2)).take 2= [.iv (S y.n),.iv (.sl (y.cols.map Col.c))]:=zj hkc (by rw[gP,hD.at,hx];rfl);cases hq:p y with
  |true=>
   rw[hq] at hcz;(repeat' first|intro hb hp|refine aY (f:=f) (bxi:= [(1001,(Box.mk 80 (.l (s.cs.map .iv))))]) U hG U hcz U B1 hmb U ?_|(refine LW.is ?_;first|refine ag U (cF U U C g1 g4) ?_|refine ag U (cO U U g5 U) ?_)|refine am ?_|refine ak ?_ ?_|fail)
   refine hK _ (cur,i,j+1) (hD.drop hx hq) oD ?_;exact Wk.mk' kK F4 B2 .nil
  |false=>
   rw[hq] at hcz;(repeat' first|intro hb hp|refine aY (f:=f) (bxi:= [(1001,(Box.mk 80 (.l (s.cs.map .iv))))]) U hG U hcz U B1 hmb U ?_|(refine LW.is ?_;first|refine ag U (cF U U C g1 g4) ?_|refine ag U (cF U U C h1 h4) ?_|refine ag U (cO U U g5 U) ?_|refine dS (i:=i) (e:=y.c) (er:=(cur.set i y).map Tab.c) U U U U U U hkc U hic List.map_set.symm ?_)|refine am ?_|refine ak ?_ ?_|fail)
   refine hK _ (cur.set i y,i+1,j+1) (hD.keep hx hq) oD ?_;exact Wk.mk' kK F4 B2 .nil
def BT{gs:au}{f:FuncId}{s:Stm}[CallTy prog f](p:Tab→Bool)(l:List Tab)(hne:l≠ [])(hl:l.length≤140737488355328)(hmb: [(1001,(Box.mk 80 (.l (s.cs.map .iv))))].all (fun p=> !p.2.cs.isEmpty && AV.mentsIn (keys [(1001,(Box.mk 80 (.l (s.cs.map .iv))))]) p.2.cs)=true)
 (hmx:([(1000,⟨57,.r (l.map Tab.c).flatten 0⟩),(1001,(Box.mk 80 (.l (s.cs.map .iv))))]:List (Nat×Box)).all (fun p=> !p.2.cs.isEmpty && AV.mentsIn (keys [(1000,⟨57,.r (l.map Tab.c).flatten 0⟩),(1001,(Box.mk 80 (.l (s.cs.map .iv))))]) p.2.cs)=true)
 (hc: ∀y∈l,CallG gs prog f ([.agg [.iv (S y.n),.iv (.sl (y.cols.map Col.c))]] ++ [.ptr 1001 0]) [(1001,(Box.mk 80 (.l (s.cs.map .iv))))] [(1001,(Box.mk 80 (.l (s.cs.map .iv))))] [] (aB (p y))) (hnk:l.filter (fun x=> !p x)= [])
 (i0:Nat) (x0:Tab) (hbef: ∀y∈l.take i0,p y=false) (hx0:l[i0]?=some x0) (hp0:p x0=true):
 CallG gs prog 141 [.bsh 1000 0 l.length 2,.fn f [.ptr 1001 0]] [(1000,⟨57,.r (l.map Tab.c).flatten 0⟩),(1001,(Box.mk 80 (.l (s.cs.map .iv))))] [(1000,⟨57,.l []⟩),(1001,(Box.mk 80 (.l (s.cs.map .iv))))] [] (.iv (.sl [])):=by
 refine iG func141 ntmps141 (fun w0 E0 hG=> ?_);have hk: ∀e∈l.map Tab.c,e.length=2:=by intro e he;obtain⟨t,_,rfl⟩:=mM he;rfl
 have hfl:(l.map Tab.c).flatten.length=l.length*2:=by rw[ao _ hk,lM]
 have hfne:(l.map Tab.c).flatten≠ []:=aD hk dD (by simpa using hne);have kx:=zB (gs:=gs) (f:=f) (b:=(Box.mk 80 (.l (s.cs.map .iv)))) p l hne hl hmb hc;rw[gC hbef hx0 hp0] at kx;have hi0:=(gS hx0).1;have he:((i0:Int)== -1)=false:=beq_eq_false_iff_ne.2 C;(repeat' first|intro hb hp|refine nj (bxi:= [(1000,⟨57,.r (l.map Tab.c).flatten 0⟩),(1001,(Box.mk 80 (.l (s.cs.map .iv))))]) U hG kx U B2 hmx U ?_|refine am ?_|refine ak ?_ ?_|fail)
 refine L.openRow 0 U U (.inl hfne) C (fun cap hc1 hc2=> ?_);obtain⟨mm,hmm⟩: ∃mm,mm=cap*2 - (l.map Tab.c).flatten.length:=⟨_,rfl⟩
 rw[←hmm];rw[hfl] at hmm;refine ae (ι:=List Tab×Nat×Nat) (fun x=>⟨[(5,aI (x.2.1:Int)),(6,aI (x.2.2:Int)),(0,.bsl 1000 0 l.length cap),(1,.fn f [.ptr 1001 0])],[(1000,⟨57,.r (x.1.map Tab.c).flatten mm⟩),(1001,(Box.mk 80 (.l (s.cs.map .iv))))],[]⟩) (fun x=>l.length - x.2.2) (fun x=>DI p l x.1 x.2.1 x.2.2) (i0:=(l,i0,i0+1)) ?_ (.first hbef hx0 hp0) ?_
 · exact Wk.mk' kK (wF (wG F2)) B2 .nil
 rintro ⟨cur,i,j⟩ hD K hK;dsimp only at hD hK⊢;have hlt0:=hD.lt;have hle0:=hD.le;have hcu:=hD.l;have hkc: ∀e∈cur.map Tab.c,e.length=2:=by intro e he;obtain⟨t,_,rfl⟩:=mM he;rfl
 have hlc:(cur.map Tab.c).length=l.length:=by rw[lM,hcu]
 have hic:i<(cur.map Tab.c).length:=by rw[hlc];omega
 cases hx:l[j]? with
 |none=>
  obtain⟨hcl0,hci⟩:=hD.full hx;have hcl:(cur.map Tab.c).take i=(l.filter (fun x=> !p x)).map Tab.c:=by rw[←List.map_take,hcl0]
  have hj:=gO hx;have hlt:decide ((j:Int)<(l.length:Int))=false:=decide_eq_false C;generalize hG2:l.filter (fun x=> !p x)=kept at*
  (repeat' first|intro hb hp|(refine LW.is ?_;first|refine ag U (cy (off':=i*2) (n':=l.length - i) (cap':=cap - i) U U C C C C C) ?_|refine gf (j:=i) U U hkc U (by rw[hlc];omega) C (by rw[hlc];omega) hcl U ?_|refine ag U (fg (n':=i) U U C C C) ?_)|refine am ?_|refine ak ?_ ?_|fail)
  subst hnk;all_goals refine cT 1000 U (Go.Abs.row_ne (.inr (by rw[hlc];omega))) ?_
  all_goals exact L.ends U U (hci▸Sub.bsl0 _ _ _) wK
 |some y=>
  have hlt':=(gS hx).1;have hlt:decide ((j:Int)<(l.length:Int))=true:=decide_eq_true C;have hcz:=hc y (gE hx);have g1:((j:Nat):Int)<(l.length:Int):=C;have g4:0+((j:Nat):Int).toNat*2=j*2:=by rw[iN,Nat.zero_add]
  have h1:((i:Nat):Int)<(l.length:Int):=C;have h4:0+((i:Nat):Int).toNat*2=i*2:=by rw[iN,Nat.zero_add]
  have g5:((Box.mk 57 (.r (cur.map Tab.c).flatten mm)).cs.drop (j*2)).take 2= [.iv (S y.n),.iv (.sl (y.cols.map Col.c))]:=zj hkc (by rw[gP,hD.at,hx];rfl);cases hq:p y with
  |true=>
   rw[hq] at hcz;(repeat' first|intro hb hp|refine aY (f:=f) (bxi:= [(1001,(Box.mk 80 (.l (s.cs.map .iv))))]) U hG U hcz U B1 hmb U ?_|(refine LW.is ?_;first|refine ag U (cF U U C g1 g4) ?_|refine ag U (cO U U g5 U) ?_)|refine am ?_|refine ak ?_ ?_|fail)
   refine hK _ (cur,i,j+1) (hD.drop hx hq) oD ?_;exact Wk.mk' kK F4 B2 .nil
  |false=>
   rw[hq] at hcz;(repeat' first|intro hb hp|refine aY (f:=f) (bxi:= [(1001,(Box.mk 80 (.l (s.cs.map .iv))))]) U hG U hcz U B1 hmb U ?_|(refine LW.is ?_;first|refine ag U (cF U U C g1 g4) ?_|refine ag U (cF U U C h1 h4) ?_|refine ag U (cO U U g5 U) ?_|refine dS (i:=i) (e:=y.c) (er:=(cur.set i y).map Tab.c) U U U U U U hkc U hic List.map_set.symm ?_)|refine am ?_|refine ak ?_ ?_|fail)
   refine hK _ (cur.set i y,i+1,j+1) (hD.keep hx hq) oD ?_;exact Wk.mk' kK F4 B2 .nil
def IT{gs:au}{f:FuncId}{s:Stm}[CallTy prog f](p:Idx→Bool)(l:List Idx)(hne:l≠ [])(hl:l.length≤140737488355328)(hmb: [(1001,(Box.mk 80 (.l (s.cs.map .iv))))].all (fun p=> !p.2.cs.isEmpty && AV.mentsIn (keys [(1001,(Box.mk 80 (.l (s.cs.map .iv))))]) p.2.cs)=true)
 (hmx:([(1000,⟨67,.r (l.map Idx.c).flatten 0⟩),(1001,(Box.mk 80 (.l (s.cs.map .iv))))]:List (Nat×Box)).all (fun p=> !p.2.cs.isEmpty && AV.mentsIn (keys [(1000,⟨67,.r (l.map Idx.c).flatten 0⟩),(1001,(Box.mk 80 (.l (s.cs.map .iv))))]) p.2.cs)=true)
 (hc: ∀y∈l,CallG gs prog f ([.agg [.iv (S y.n),.iv (S y.tb),.iv (S y.co)]] ++ [.ptr 1001 0]) [(1001,(Box.mk 80 (.l (s.cs.map .iv))))] [(1001,(Box.mk 80 (.l (s.cs.map .iv))))] [] (aB (p y))) (hnk:l.filter (fun x=> !p x)≠ [])
 (i0:Nat) (x0:Idx) (hbef: ∀y∈l.take i0,p y=false) (hx0:l[i0]?=some x0) (hp0:p x0=true):
 CallG gs prog 143 [.bsh 1000 0 l.length 3,.fn f [.ptr 1001 0]] [(1000,⟨67,.r (l.map Idx.c).flatten 0⟩),(1001,(Box.mk 80 (.l (s.cs.map .iv))))] [(1002,⟨67,.r ((l.filter (fun x=> !p x)).map Idx.c).flatten 0⟩),(1000,⟨67,.l []⟩),(1001,(Box.mk 80 (.l (s.cs.map .iv))))] [] (.bsh 1002 0 (l.filter (fun x=> !p x)).length 3):=by
 refine iG func143 ntmps143 (fun w0 E0 hG=> ?_);have hk: ∀e∈l.map Idx.c,e.length=3:=by intro e he;obtain⟨t,_,rfl⟩:=mM he;rfl
 have hfl:(l.map Idx.c).flatten.length=l.length*3:=by rw[ao _ hk,lM]
 have hfne:(l.map Idx.c).flatten≠ []:=aD hk dD (by simpa using hne);have kx:=zA (gs:=gs) (f:=f) (b:=(Box.mk 80 (.l (s.cs.map .iv)))) p l hne hl hmb hc;rw[gC hbef hx0 hp0] at kx;have hi0:=(gS hx0).1;have he:((i0:Int)== -1)=false:=beq_eq_false_iff_ne.2 C;(repeat' first|intro hb hp|refine nj (bxi:= [(1000,⟨67,.r (l.map Idx.c).flatten 0⟩),(1001,(Box.mk 80 (.l (s.cs.map .iv))))]) U hG kx U B2 hmx U ?_|refine am ?_|refine ak ?_ ?_|fail)
 refine L.openRow 0 U U (.inl hfne) C (fun cap hc1 hc2=> ?_);obtain⟨mm,hmm⟩: ∃mm,mm=cap*3 - (l.map Idx.c).flatten.length:=⟨_,rfl⟩
 rw[←hmm];rw[hfl] at hmm;refine ae (ι:=List Idx×Nat×Nat) (fun x=>⟨[(5,aI (x.2.1:Int)),(6,aI (x.2.2:Int)),(0,.bsl 1000 0 l.length cap),(1,.fn f [.ptr 1001 0])],[(1000,⟨67,.r (x.1.map Idx.c).flatten mm⟩),(1001,(Box.mk 80 (.l (s.cs.map .iv))))],[]⟩) (fun x=>l.length - x.2.2) (fun x=>DI p l x.1 x.2.1 x.2.2) (i0:=(l,i0,i0+1)) ?_ (.first hbef hx0 hp0) ?_
 · exact Wk.mk' kK (wF (wG F2)) B2 .nil
 rintro ⟨cur,i,j⟩ hD K hK;dsimp only at hD hK⊢;have hlt0:=hD.lt;have hle0:=hD.le;have hcu:=hD.l;have hkc: ∀e∈cur.map Idx.c,e.length=3:=by intro e he;obtain⟨t,_,rfl⟩:=mM he;rfl
 have hlc:(cur.map Idx.c).length=l.length:=by rw[lM,hcu]
 have hic:i<(cur.map Idx.c).length:=by rw[hlc];omega
 cases hx:l[j]? with
 |none=>
  obtain⟨hcl0,hci⟩:=hD.full hx;have hcl:(cur.map Idx.c).take i=(l.filter (fun x=> !p x)).map Idx.c:=by rw[←List.map_take,hcl0]
  have hj:=gO hx;have hlt:decide ((j:Int)<(l.length:Int))=false:=decide_eq_false C;generalize hG2:l.filter (fun x=> !p x)=kept at*
  (repeat' first|intro hb hp|(refine LW.is ?_;first|refine ag U (cy (off':=i*3) (n':=l.length - i) (cap':=cap - i) U U C C C C C) ?_|refine gf (j:=i) U U hkc U (by rw[hlc];omega) C (by rw[hlc];omega) hcl U ?_|refine ag U (fg (n':=i) U U C C C) ?_)|refine am ?_|refine ak ?_ ?_|fail)
  have hpos:0<i:=by rw[←hci];exact gU hnk
  have hkk: ∀e∈kept.map Idx.c,e.length=3:=by intro e he;obtain⟨t,_,rfl⟩:=mM he;rfl
  all_goals(apply cv 4 1002 (k:=3) (n:=i);rfl;rfl;rfl;exact hkk;(rw[lM];exact hci);omega;(rw[hlc];omega))
  all_goals exact L.ends U U (Sub.of_eq (congrArg (fun z=>AV.bsh 1002 0 z 3) hci.symm)) wK
 |some y=>
  have hlt':=(gS hx).1;have hlt:decide ((j:Int)<(l.length:Int))=true:=decide_eq_true C;have hcz:=hc y (gE hx);have g1:((j:Nat):Int)<(l.length:Int):=C;have g4:0+((j:Nat):Int).toNat*3=j*3:=by rw[iN,Nat.zero_add]
  have h1:((i:Nat):Int)<(l.length:Int):=C;have h4:0+((i:Nat):Int).toNat*3=i*3:=by rw[iN,Nat.zero_add]
  have g5:((Box.mk 67 (.r (cur.map Idx.c).flatten mm)).cs.drop (j*3)).take 3= [.iv (S y.n),.iv (S y.tb),.iv (S y.co)]:=zj hkc (by rw[gP,hD.at,hx];rfl);cases hq:p y with
  |true=>
   rw[hq] at hcz;(repeat' first|intro hb hp|refine aY (f:=f) (bxi:= [(1001,(Box.mk 80 (.l (s.cs.map .iv))))]) U hG U hcz U B1 hmb U ?_|(refine LW.is ?_;first|refine ag U (cF U U C g1 g4) ?_|refine ag U (cO U U g5 U) ?_)|refine am ?_|refine ak ?_ ?_|fail)
   refine hK _ (cur,i,j+1) (hD.drop hx hq) oD ?_;exact Wk.mk' kK F4 B2 .nil
  |false=>
   rw[hq] at hcz;(repeat' first|intro hb hp|refine aY (f:=f) (bxi:= [(1001,(Box.mk 80 (.l (s.cs.map .iv))))]) U hG U hcz U B1 hmb U ?_|(refine LW.is ?_;first|refine ag U (cF U U C g1 g4) ?_|refine ag U (cF U U C h1 h4) ?_|refine ag U (cO U U g5 U) ?_|refine dS (i:=i) (e:=y.c) (er:=(cur.set i y).map Idx.c) U U U U U U hkc U hic List.map_set.symm ?_)|refine am ?_|refine ak ?_ ?_|fail)
   refine hK _ (cur.set i y,i+1,j+1) (hD.keep hx hq) oD ?_;exact Wk.mk' kK F4 B2 .nil
def BS{gs:au}{f:FuncId}{s:Stm}[CallTy prog f](p:Idx→Bool)(l:List Idx)(hne:l≠ [])(hl:l.length≤140737488355328)(hmb: [(1001,(Box.mk 80 (.l (s.cs.map .iv))))].all (fun p=> !p.2.cs.isEmpty && AV.mentsIn (keys [(1001,(Box.mk 80 (.l (s.cs.map .iv))))]) p.2.cs)=true)
 (hmx:([(1000,⟨67,.r (l.map Idx.c).flatten 0⟩),(1001,(Box.mk 80 (.l (s.cs.map .iv))))]:List (Nat×Box)).all (fun p=> !p.2.cs.isEmpty && AV.mentsIn (keys [(1000,⟨67,.r (l.map Idx.c).flatten 0⟩),(1001,(Box.mk 80 (.l (s.cs.map .iv))))]) p.2.cs)=true)
 (hc: ∀y∈l,CallG gs prog f ([.agg [.iv (S y.n),.iv (S y.tb),.iv (S y.co)]] ++ [.ptr 1001 0]) [(1001,(Box.mk 80 (.l (s.cs.map .iv))))] [(1001,(Box.mk 80 (.l (s.cs.map .iv))))] [] (aB (p y))) (hnk:l.filter (fun x=> !p x)= [])
 (i0:Nat) (x0:Idx) (hbef: ∀y∈l.take i0,p y=false) (hx0:l[i0]?=some x0) (hp0:p x0=true):
 CallG gs prog 143 [.bsh 1000 0 l.length 3,.fn f [.ptr 1001 0]] [(1000,⟨67,.r (l.map Idx.c).flatten 0⟩),(1001,(Box.mk 80 (.l (s.cs.map .iv))))] [(1000,⟨67,.l []⟩),(1001,(Box.mk 80 (.l (s.cs.map .iv))))] [] (.iv (.sl [])):=by
 refine iG func143 ntmps143 (fun w0 E0 hG=> ?_);have hk: ∀e∈l.map Idx.c,e.length=3:=by intro e he;obtain⟨t,_,rfl⟩:=mM he;rfl
 have hfl:(l.map Idx.c).flatten.length=l.length*3:=by rw[ao _ hk,lM]
 have hfne:(l.map Idx.c).flatten≠ []:=aD hk dD (by simpa using hne);have kx:=zA (gs:=gs) (f:=f) (b:=(Box.mk 80 (.l (s.cs.map .iv)))) p l hne hl hmb hc;rw[gC hbef hx0 hp0] at kx;have hi0:=(gS hx0).1;have he:((i0:Int)== -1)=false:=beq_eq_false_iff_ne.2 C;(repeat' first|intro hb hp|refine nj (bxi:= [(1000,⟨67,.r (l.map Idx.c).flatten 0⟩),(1001,(Box.mk 80 (.l (s.cs.map .iv))))]) U hG kx U B2 hmx U ?_|refine am ?_|refine ak ?_ ?_|fail)
 refine L.openRow 0 U U (.inl hfne) C (fun cap hc1 hc2=> ?_);obtain⟨mm,hmm⟩: ∃mm,mm=cap*3 - (l.map Idx.c).flatten.length:=⟨_,rfl⟩
 rw[←hmm];rw[hfl] at hmm;refine ae (ι:=List Idx×Nat×Nat) (fun x=>⟨[(5,aI (x.2.1:Int)),(6,aI (x.2.2:Int)),(0,.bsl 1000 0 l.length cap),(1,.fn f [.ptr 1001 0])],[(1000,⟨67,.r (x.1.map Idx.c).flatten mm⟩),(1001,(Box.mk 80 (.l (s.cs.map .iv))))],[]⟩) (fun x=>l.length - x.2.2) (fun x=>DI p l x.1 x.2.1 x.2.2) (i0:=(l,i0,i0+1)) ?_ (.first hbef hx0 hp0) ?_
 · exact Wk.mk' kK (wF (wG F2)) B2 .nil
 rintro ⟨cur,i,j⟩ hD K hK;dsimp only at hD hK⊢;have hlt0:=hD.lt;have hle0:=hD.le;have hcu:=hD.l;have hkc: ∀e∈cur.map Idx.c,e.length=3:=by intro e he;obtain⟨t,_,rfl⟩:=mM he;rfl
 have hlc:(cur.map Idx.c).length=l.length:=by rw[lM,hcu]
 have hic:i<(cur.map Idx.c).length:=by rw[hlc];omega
 cases hx:l[j]? with
 |none=>
  obtain⟨hcl0,hci⟩:=hD.full hx;have hcl:(cur.map Idx.c).take i=(l.filter (fun x=> !p x)).map Idx.c:=by rw[←List.map_take,hcl0]
  have hj:=gO hx;have hlt:decide ((j:Int)<(l.length:Int))=false:=decide_eq_false C;generalize hG2:l.filter (fun x=> !p x)=kept at*
  (repeat' first|intro hb hp|(refine LW.is ?_;first|refine ag U (cy (off':=i*3) (n':=l.length - i) (cap':=cap - i) U U C C C C C) ?_|refine gf (j:=i) U U hkc U (by rw[hlc];omega) C (by rw[hlc];omega) hcl U ?_|refine ag U (fg (n':=i) U U C C C) ?_)|refine am ?_|refine ak ?_ ?_|fail)
  subst hnk;all_goals refine cT 1000 U (Go.Abs.row_ne (.inr (by rw[hlc];omega))) ?_
  all_goals exact L.ends U U (hci▸Sub.bsl0 _ _ _) wK
 |some y=>
  have hlt':=(gS hx).1;have hlt:decide ((j:Int)<(l.length:Int))=true:=decide_eq_true C;have hcz:=hc y (gE hx);have g1:((j:Nat):Int)<(l.length:Int):=C;have g4:0+((j:Nat):Int).toNat*3=j*3:=by rw[iN,Nat.zero_add]
  have h1:((i:Nat):Int)<(l.length:Int):=C;have h4:0+((i:Nat):Int).toNat*3=i*3:=by rw[iN,Nat.zero_add]
  have g5:((Box.mk 67 (.r (cur.map Idx.c).flatten mm)).cs.drop (j*3)).take 3= [.iv (S y.n),.iv (S y.tb),.iv (S y.co)]:=zj hkc (by rw[gP,hD.at,hx];rfl);cases hq:p y with
  |true=>
   rw[hq] at hcz;(repeat' first|intro hb hp|refine aY (f:=f) (bxi:= [(1001,(Box.mk 80 (.l (s.cs.map .iv))))]) U hG U hcz U B1 hmb U ?_|(refine LW.is ?_;first|refine ag U (cF U U C g1 g4) ?_|refine ag U (cO U U g5 U) ?_)|refine am ?_|refine ak ?_ ?_|fail)
   refine hK _ (cur,i,j+1) (hD.drop hx hq) oD ?_;exact Wk.mk' kK F4 B2 .nil
  |false=>
   rw[hq] at hcz;(repeat' first|intro hb hp|refine aY (f:=f) (bxi:= [(1001,(Box.mk 80 (.l (s.cs.map .iv))))]) U hG U hcz U B1 hmb U ?_|(refine LW.is ?_;first|refine ag U (cF U U C g1 g4) ?_|refine ag U (cF U U C h1 h4) ?_|refine ag U (cO U U g5 U) ?_|refine dS (i:=i) (e:=y.c) (er:=(cur.set i y).map Idx.c) U U U U U U hkc U hic List.map_set.symm ?_)|refine am ?_|refine ak ?_ ?_|fail)
   refine hK _ (cur.set i y,i+1,j+1) (hD.keep hx hq) oD ?_;exact Wk.mk' kK F4 B2 .nil
def jg{α:Type}{p:α→Bool}: ∀{l:List α},(¬ ∀y∈l,p y=false)→ ∃i x,(∀y∈l.take i,p y=false)∧l[i]?=some x∧p x=true
 | [],h=>absurd (fun y hy=>by cases hy) h
 |x::l,h=>by
  cases hp:p x with
  |true=>exact⟨0,x,by simp,rfl,hp⟩
  |false=>
   obtain⟨i,z,h1,h2,h3⟩:=jg (l:=l) (fun hn=>h (fun y hy=>by
    rcases List.mem_cons.1 hy with rfl|hy
    · exact hp
    · exact hn y hy))
   exact⟨i+1,z,fun y hy=>by
    rw[List.take_succ_cons] at hy;rcases List.mem_cons.1 hy with rfl|hy
    · exact hp
    · exact h1 y hy,by simpa using h2,h3⟩
def KT{gs:au}{f:FuncId}{s:Stm}[CallTy prog f](p:Tab→Bool)(l:List Tab)(hne:l≠ [])(hl:l.length≤140737488355328)(hmb: [(1001,(Box.mk 80 (.l (s.cs.map .iv))))].all (fun p=> !p.2.cs.isEmpty && AV.mentsIn (keys [(1001,(Box.mk 80 (.l (s.cs.map .iv))))]) p.2.cs)=true)
 (hmx:([(1000,⟨57,.r (l.map Tab.c).flatten 0⟩),(1001,(Box.mk 80 (.l (s.cs.map .iv))))]:List (Nat×Box)).all (fun p=> !p.2.cs.isEmpty && AV.mentsIn (keys [(1000,⟨57,.r (l.map Tab.c).flatten 0⟩),(1001,(Box.mk 80 (.l (s.cs.map .iv))))]) p.2.cs)=true)
 (hc: ∀y∈l,CallG gs prog f ([.agg [.iv (S y.n),.iv (.sl (y.cols.map Col.c))]] ++ [.ptr 1001 0]) [(1001,(Box.mk 80 (.l (s.cs.map .iv))))] [(1001,(Box.mk 80 (.l (s.cs.map .iv))))] [] (aB (p y))) (hno: ∀y∈l,p y=false):
 CallG gs prog 141 [.bsh 1000 0 l.length 2,.fn f [.ptr 1001 0]] [(1000,⟨57,.r (l.map Tab.c).flatten 0⟩),(1001,(Box.mk 80 (.l (s.cs.map .iv))))] [(1002,⟨57,.r (l.map Tab.c).flatten 0⟩),(1000,⟨57,.l []⟩),(1001,(Box.mk 80 (.l (s.cs.map .iv))))] [] (.bsh 1002 0 l.length 2):=by
 have hk: ∀e∈l.map Tab.c,e.length=2:=by intro e he;obtain⟨t,_,rfl⟩:=mM he;rfl
 have hfl:(l.map Tab.c).flatten.length=l.length*2:=by rw[ao _ hk,lM]
 have hfne:(l.map Tab.c).flatten≠ []:=aD hk dD (by simpa using hne);have hpos:0<l.length:=gU hne;refine iG func141 ntmps141 (fun w0 E0 hG=> ?_);have kx:=zB (gs:=gs) (f:=f) (b:=(Box.mk 80 (.l (s.cs.map .iv)))) p l hne hl hmb hc;rw[jG hno] at kx;(repeat' first|intro hb hp|refine nj (bxi:= [(1000,⟨57,.r (l.map Tab.c).flatten 0⟩),(1001,(Box.mk 80 (.l (s.cs.map .iv))))]) U hG kx U B2 hmx U ?_|refine am ?_|refine ak ?_ ?_|fail)
 all_goals(refine L.openRow 4 (id:=1000) (n:=l.length) (k:=2) U U (.inl hfne) C (fun cap hc1 hc2=> ?_))
 all_goals(apply cv 4 1002 (k:=2) (n:=l.length);rfl;rfl;rfl;exact hk;exact lM _;omega;(rw[hfl];omega))
 all_goals exact L.ends U U fR wK
def wi{gs:au}{f:FuncId}{s:Stm}[CallTy prog f](p:Tab→Bool)(l:List Tab)(hne:l≠ [])(hl:l.length≤140737488355328)(hmb: [(1001,(Box.mk 80 (.l (s.cs.map .iv))))].all (fun p=> !p.2.cs.isEmpty && AV.mentsIn (keys [(1001,(Box.mk 80 (.l (s.cs.map .iv))))]) p.2.cs)=true)
 (hmx:([(1000,⟨57,.r (l.map Tab.c).flatten 0⟩),(1001,(Box.mk 80 (.l (s.cs.map .iv))))]:List (Nat×Box)).all (fun p=> !p.2.cs.isEmpty && AV.mentsIn (keys [(1000,⟨57,.r (l.map Tab.c).flatten 0⟩),(1001,(Box.mk 80 (.l (s.cs.map .iv))))]) p.2.cs)=true)
 (hc: ∀y∈l,CallG gs prog f ([.agg [.iv (S y.n),.iv (.sl (y.cols.map Col.c))]] ++ [.ptr 1001 0]) [(1001,(Box.mk 80 (.l (s.cs.map .iv))))] [(1001,(Box.mk 80 (.l (s.cs.map .iv))))] [] (aB (p y))) (hnk:l.filter (fun x=> !p x)≠ []):
 CallG gs prog 141 [.bsh 1000 0 l.length 2,.fn f [.ptr 1001 0]] [(1000,⟨57,.r (l.map Tab.c).flatten 0⟩),(1001,(Box.mk 80 (.l (s.cs.map .iv))))] [(1002,⟨57,.r ((l.filter (fun x=> !p x)).map Tab.c).flatten 0⟩),(1000,⟨57,.l []⟩),(1001,(Box.mk 80 (.l (s.cs.map .iv))))] [] (.bsh 1002 0 (l.filter (fun x=> !p x)).length 2):=by
 by_cases hno: ∀y∈l,p y=false
 · have e:l.filter (fun x=> !p x)=l:=List.filter_eq_self.2 (fun y hy=>by rw[hno y hy];rfl);rw[e];exact KT p l hne hl hmb hmx hc hno
 · obtain⟨i,x,h1,h2,h3⟩:=jg hno;exact IW p l hne hl hmb hmx hc hnk i x h1 h2 h3
def KS{gs:au}{f:FuncId}{s:Stm}[CallTy prog f](p:Idx→Bool)(l:List Idx)(hne:l≠ [])(hl:l.length≤140737488355328)(hmb: [(1001,(Box.mk 80 (.l (s.cs.map .iv))))].all (fun p=> !p.2.cs.isEmpty && AV.mentsIn (keys [(1001,(Box.mk 80 (.l (s.cs.map .iv))))]) p.2.cs)=true)
 (hmx:([(1000,⟨67,.r (l.map Idx.c).flatten 0⟩),(1001,(Box.mk 80 (.l (s.cs.map .iv))))]:List (Nat×Box)).all (fun p=> !p.2.cs.isEmpty && AV.mentsIn (keys [(1000,⟨67,.r (l.map Idx.c).flatten 0⟩),(1001,(Box.mk 80 (.l (s.cs.map .iv))))]) p.2.cs)=true)
 (hc: ∀y∈l,CallG gs prog f ([.agg [.iv (S y.n),.iv (S y.tb),.iv (S y.co)]] ++ [.ptr 1001 0]) [(1001,(Box.mk 80 (.l (s.cs.map .iv))))] [(1001,(Box.mk 80 (.l (s.cs.map .iv))))] [] (aB (p y))) (hno: ∀y∈l,p y=false):
 CallG gs prog 143 [.bsh 1000 0 l.length 3,.fn f [.ptr 1001 0]] [(1000,⟨67,.r (l.map Idx.c).flatten 0⟩),(1001,(Box.mk 80 (.l (s.cs.map .iv))))] [(1002,⟨67,.r (l.map Idx.c).flatten 0⟩),(1000,⟨67,.l []⟩),(1001,(Box.mk 80 (.l (s.cs.map .iv))))] [] (.bsh 1002 0 l.length 3):=by
 have hk: ∀e∈l.map Idx.c,e.length=3:=by intro e he;obtain⟨t,_,rfl⟩:=mM he;rfl
 have hfl:(l.map Idx.c).flatten.length=l.length*3:=by rw[ao _ hk,lM]
 have hfne:(l.map Idx.c).flatten≠ []:=aD hk dD (by simpa using hne);have hpos:0<l.length:=gU hne;refine iG func143 ntmps143 (fun w0 E0 hG=> ?_);have kx:=zA (gs:=gs) (f:=f) (b:=(Box.mk 80 (.l (s.cs.map .iv)))) p l hne hl hmb hc;rw[jG hno] at kx;(repeat' first|intro hb hp|refine nj (bxi:= [(1000,⟨67,.r (l.map Idx.c).flatten 0⟩),(1001,(Box.mk 80 (.l (s.cs.map .iv))))]) U hG kx U B2 hmx U ?_|refine am ?_|refine ak ?_ ?_|fail)
 all_goals(refine L.openRow 4 (id:=1000) (n:=l.length) (k:=3) U U (.inl hfne) C (fun cap hc1 hc2=> ?_))
 all_goals(apply cv 4 1002 (k:=3) (n:=l.length);rfl;rfl;rfl;exact hk;exact lM _;omega;(rw[hfl];omega))
 all_goals exact L.ends U U fR wK
def Kt{gs:au}{f:FuncId}{s:Stm}:
 CallG gs prog 111 [.iv (.sl []),.fn f [.ptr 1001 0]] [(1001,(Box.mk 80 (.l (s.cs.map .iv))))] [(1001,(Box.mk 80 (.l (s.cs.map .iv))))] [] (aI (-1)):=by
 refine iG func111 ntmps111 (fun w0 E0 hG=> ?_);refine wz ?_;refine ae (ι:=Nat) (fun i=>⟨[(8,aI 0),(7,aI 0),(0,.iv (.sl [])),(1,.fn f [.ptr 1001 0])],[(1001,(Box.mk 80 (.l (s.cs.map .iv))))],[]⟩) (fun i=>i) (fun i=>True) (i0:=0) ?_ trivial ?_
 · exact Wk.mk' ay (wG (wG F2)) B1 .nil
 intro i _ K hK;refine wz ?_;all_goals exact L.ends U U sE (Wk.mk' ay .nil B1 .nil)
def Fh{gs:au}{f:FuncId}{s:Stm}:
 CallG gs prog 143 [.iv (.sl []),.fn f [.ptr 1001 0]] [(1001,(Box.mk 80 (.l (s.cs.map .iv))))] [(1001,(Box.mk 80 (.l (s.cs.map .iv))))] [] (.iv (.sl [])):=by
 refine iG func143 ntmps143 (fun w0 E0 hG=> ?_);have hz:([(1001,(Box.mk 80 (.l (s.cs.map .iv))))]:List (Nat×Box)).all (fun p=> !p.2.cs.isEmpty && AV.mentsIn (keys [(1001,(Box.mk 80 (.l (s.cs.map .iv))))]) p.2.cs)=true:=by first|rfl|kernel_rfl|(simp[keys,Stm.cs,AV.mentsIn,AV.mentIn];done)
 have kx:=Kt (gs:=gs) (f:=f) (s:=s);(repeat' first|intro hb hp|refine nj (bxi:= [(1001,(Box.mk 80 (.l (s.cs.map .iv))))]) U hG kx U B1 hz U ?_|refine am ?_|refine ak ?_ ?_|fail)
 all_goals exact L.ends U U fR (Wk.mk' ay .nil B1 .nil)
def IU{gs:au}{f:FuncId}{s:Stm}[CallTy prog f](p:Idx→Bool)(l:List Idx)(hne:l≠ [])(hl:l.length≤140737488355328)(hmb: [(1001,(Box.mk 80 (.l (s.cs.map .iv))))].all (fun p=> !p.2.cs.isEmpty && AV.mentsIn (keys [(1001,(Box.mk 80 (.l (s.cs.map .iv))))]) p.2.cs)=true)
 (hmx:([(1000,⟨67,.r (l.map Idx.c).flatten 0⟩),(1001,(Box.mk 80 (.l (s.cs.map .iv))))]:List (Nat×Box)).all (fun p=> !p.2.cs.isEmpty && AV.mentsIn (keys [(1000,⟨67,.r (l.map Idx.c).flatten 0⟩),(1001,(Box.mk 80 (.l (s.cs.map .iv))))]) p.2.cs)=true)
 (hc: ∀y∈l,CallG gs prog f ([.agg [.iv (S y.n),.iv (S y.tb),.iv (S y.co)]] ++ [.ptr 1001 0]) [(1001,(Box.mk 80 (.l (s.cs.map .iv))))] [(1001,(Box.mk 80 (.l (s.cs.map .iv))))] [] (aB (p y))) (hnk:l.filter (fun x=> !p x)≠ []):
 CallG gs prog 143 [.bsh 1000 0 l.length 3,.fn f [.ptr 1001 0]] [(1000,⟨67,.r (l.map Idx.c).flatten 0⟩),(1001,(Box.mk 80 (.l (s.cs.map .iv))))] [(1002,⟨67,.r ((l.filter (fun x=> !p x)).map Idx.c).flatten 0⟩),(1000,⟨67,.l []⟩),(1001,(Box.mk 80 (.l (s.cs.map .iv))))] [] (.bsh 1002 0 (l.filter (fun x=> !p x)).length 3):=by
 by_cases hno: ∀y∈l,p y=false
 · have e:l.filter (fun x=> !p x)=l:=List.filter_eq_self.2 (fun y hy=>by rw[hno y hy];rfl);rw[e];exact KS p l hne hl hmb hmx hc hno
 · obtain⟨i,x,h1,h2,h3⟩:=jg hno;exact IT p l hne hl hmb hmx hc hnk i x h1 h2 h3
end Go.Proofs.Y
