/- Lemmas towards the law. Conditions: each one says its own. -/
import Derived.Test.YtnhmohbhgocbjaaGreatDoorZT3
import Derived.KernelRfl
import Derived.Test.YtnhmohbhgocbjaaGreatDoorChecked
import Derived.Test.YtnhmohbhgocbjaaGreatDoorRows
set_option linter.all false
set_option maxHeartbeats 64000000
set_option maxRecDepth 100000
namespace Go.Abs
variable [Dr]
section
variable {cs:List AV}{es:List (List IV)}{i id k n off:Nat}{x:AV}{α β:Type}
def eC{X:Option α}{l l':α}(h:X=some l)(hl:l=l'):X=some l':=h.trans (congrArg some hl)
def eN{X:List α}(h:X= []):X= []:=h
def dx{X:List α}{x x':α}{t t':List α}(h:X=x::t)(hx:x=x')(ht:t=t'):X=x'::t':=by rw[h,hx,ht]
def pN{v:Value}(h:x= .iv (.im v)):x= .iv (.im v):=h
def pL(h:x= .iv (.sl es)):x= .iv (.sl es):=h
def pM{y:IV}(h:x= .iv y):x= .iv y:=h
def fU(h:x= .row id es):x= .row id es:=h
def qW(h:x= .emp):x= .emp:=h
def fW(h:x= .nils):x= .nils:=h
def fV(h:x= .ptr id off):x= .ptr id off:=h
def fZ(h:x= .bsh id off n k):x= .bsh id off n k:=h
def fY{cap:Nat}(h:x= .bsl id off n cap):x= .bsl id off n cap:=h
def gc(h:x= .any):x= .any:=h
def qY(h:x= .agg cs):x= .agg cs:=h
def qV(h:x= .tup cs):x= .tup cs:=h
def ET{f:FuncId}(h:x= .fn f cs):x= .fn f cs:=h
def ns{x:IV}{v:Value}(h:x= .im v):x= .im v:=h
def nq{x:IV}(h:x= .sl es):x= .sl es:=h
def Nh{m:List α}{b:α}(h:m[i]?=some b):m[((i:Nat):Int).toNat]?=some b:=by simpa using h
def eZ{l:List α}{v:α}(h:l[i]?=some v):decide ((i:Int)<(l.length:Int))=true:=by
 have:=(gS h).1;simpa using this
def fa{l:List α}(h:l[i]?=none):decide ((i:Int)<(l.length:Int))=false:=by
 have:=gO h;simpa using this
def cq{f:α→β}{l:List α}{v:α}(h:l[i]?=some v):(l.map f)[i]?=some (f v):=by simp[h]
def bf{f:α→β}{l:List α}(h:l[i]?=none):(l.map f)[i]?=none:=by simpa using h
def bK: ∀e∈([]:List (List IV)),e.length=k:=fun e h=>by cases h
def cH{a b:List (List IV)}(h1: ∀e∈a,e.length=k)(h2: ∀e∈b,e.length=k): ∀e∈a++b,e.length=k:=fun e h=>(mA h).elim (h1 e) (h2 e)
def jn{f:α→List IV}{l:List α}(h: ∀x,(f x).length=k): ∀e∈l.map f,e.length=k:=fun e he=>by
 obtain⟨x,_,rfl⟩:=mM he;exact h x
def bz{a:List IV}{l:List (List IV)}(h:a.length=k)(t: ∀e∈l,e.length=k): ∀e∈a::l,e.length=k:=fun e he=>by
 rcases List.mem_cons.1 he with rfl|he
 · exact h
 · exact t e he
def eP{l:List α}{v:α}(h:l[i]?=some v):i<l.length:=(gS h).1
def eS{l:List α}{v:α}(h:l[i]?=some v):l.drop i=v::l.drop (i+1):=by
 obtain⟨hl,hv⟩:=gS h;rw[List.drop_eq_getElem_cons hl,hv]
def oN{l:List α}(h:l[i]?=none):l.drop i= []:=dL (gO h)
def dg{l:List α}{v:α}(h:l[i]?=some v):l.take (i+1)=l.take i++ [v]:=by
 rw[List.take_add_one,h];rfl
def Lx{l:List α}(h:l[i]?=none):l.take i=l:=tL (gO h)
end
section
variable {P:Program}{c:Ctx}{st:St}
def St.only(l:List Nat)(st:St):St:=⟨l.filterMap fun s=>(st.fr.lookup s).map fun v=>(s,v),st.bx,st.tk⟩
def qU(fr:List (Nat×AV)): ∀(l:List Nat) (s:Nat) (v:AV),(l.filterMap fun s=>(fr.lookup s).map fun v=>(s,v)).lookup s=some v→fr.lookup s=some v
 | [],s,v,h=>by simp at h
 |a::l,s,v,h=>by
  cases hq:fr.lookup a with
  |none=>simp only[List.filterMap_cons,hq,Option.map_none] at h;exact qU fr l s v h
  |some u=>
   simp only[List.filterMap_cons,hq,Option.map_some] at h;by_cases e:s=a
   · subst e;rw[aj] at h;cases h;exact hq
   · rw[aa e] at h;exact qU fr l s v h
def L.only(l:List Nat){X:Act→World→Prop}(h:L c (st.only l) X):L c st X:=fun a w hr=>by
 obtain⟨E,hi⟩:=hr;exact h a w ⟨E,hi.defers,hi.size,fun s v hv=>hi.slot s v (qU st.fr l s v hv),hi.heap⟩
def St.onlyS(l b:List Nat)(st:St):St:=⟨l.filterMap fun s=>(st.fr.lookup s).map fun v=>(s,v),b.filterMap fun s=>(st.bx.lookup s).map fun v=>(s,v),st.tk⟩
def sh(fr:List (Nat×Box)): ∀(l:List Nat) (s:Nat) (v:Box),(l.filterMap fun s=>(fr.lookup s).map fun v=>(s,v)).lookup s=some v→fr.lookup s=some v
 | [],s,v,h=>by simp at h
 |a::l,s,v,h=>by
  cases hq:fr.lookup a with
  |none=>simp only[List.filterMap_cons,hq,Option.map_none] at h;exact sh fr l s v h
  |some u=>
   simp only[List.filterMap_cons,hq,Option.map_some] at h;by_cases e:s=a
   · subst e;rw[aj] at h;cases h;exact hq
   · rw[aa e] at h;exact sh fr l s v h
def L.onlyS(l b:List Nat){X:Act→World→Prop}(hin:c.ins.all (fun i=>((st.onlyS l b).bx.lookup i).isSome)=true)(h:L c (st.onlyS l b) X):L c st X:=
 .wk ⟨fun id hid=>aT hin id hid,fun s v hv=>⟨v,qU st.fr l s v hv,Sub.refl _⟩,fun id bb hb=>⟨bb,sh st.bx b id bb hb,rfl,Subs.refl _⟩,fun id t ht=>ht⟩ h
def ae{ι:Type}{Q:Exit→Act→World→Prop}(inv:ι→St)(n:ι→Nat)(I:ι→Prop){i0:ι}(h0:Wk c st (inv i0))(p0:I i0){x:Code}
 (h: ∀i,I i→ ∀K:Act→World→Prop,(∀st' i',I i'→n i'<n i→Wk c st' (inv i')→L c st' K)→L c (inv i) (x.wp P (Exit.then K Q))):L c st ((Code.loop x).wp P Q):=
 L.loop (ι:={i:ι // I i}) (fun i=>inv i.1) (fun i=>n i.1) (i0:=⟨i0,p0⟩) h0 fun i K hK=>h i.1 i.2 K fun st' i' hi' hn hw=>hK st' ⟨i',hi'⟩ hn hw
def Sub.resOf{vs:List AV}:Sub (Go.Abs.resOf vs) (Go.Abs.resOf (AV.pub.pubs vs)):=by
 match vs with
 | [] =>exact fR
 | [v] =>exact Sub.pub v
 |v::w::r=>exact Sub.tup (Subs.pubs (v::w::r))
def L.endsP{fn:Func}{bx':List (Nat×Box)}{res:AV}{rs:List ResultVar}{vs:List AV}(hfn:fn.results=rs.toArray)(hv:(st.ress P rs).map AV.pub.pubs=some vs)(hi:c.ins= [])(he:resOf vs=res):
 L c st (bodyPost P fn (lp c [] [] res) .ret):=by
 cases h:st.ress P rs with
 |none=>rw[h] at hv;cases hv
 |some us=>rw[h] at hv;cases hv;exact L.ends hfn h (he▸Sub.resOf) (Lm hi)
section
variable {fn:Func}{res:AV}{rs:List ResultVar}{y z u:IV}{cs:List AV}
def L.ends1(hfn:fn.results=rs.toArray)(hv:(st.ress P rs).map AV.pub.pubs=some [.iv y])(hi:c.ins= [])(he:AV.iv y=res):L c st (bodyPost P fn (lp c [] [] res) .ret):=L.endsP (bx':= []) hfn hv hi he
def L.ends1A(hfn:fn.results=rs.toArray)(hv:(st.ress P rs).map AV.pub.pubs=some [.agg cs])(hi:c.ins= [])(he:AV.agg cs=res):L c st (bodyPost P fn (lp c [] [] res) .ret):=L.endsP (bx':= []) hfn hv hi he
def L.ends2(hfn:fn.results=rs.toArray)(hv:(st.ress P rs).map AV.pub.pubs=some [.iv y,.iv z])(hi:c.ins= [])(he:AV.tup [.iv y,.iv z] =res):L c st (bodyPost P fn (lp c [] [] res) .ret):=L.endsP (bx':= []) hfn hv hi he
def L.ends2A(hfn:fn.results=rs.toArray)(hv:(st.ress P rs).map AV.pub.pubs=some [.agg cs,.iv z])(hi:c.ins= [])(he:AV.tup [.agg cs,.iv z] =res):L c st (bodyPost P fn (lp c [] [] res) .ret):=L.endsP (bx':= []) hfn hv hi he
def L.ends3A(hfn:fn.results=rs.toArray)(hv:(st.ress P rs).map AV.pub.pubs=some [.agg cs,.iv z,.iv u])(hi:c.ins= [])(he:AV.tup [.agg cs,.iv z,.iv u] =res):L c st (bodyPost P fn (lp c [] [] res) .ret):=L.endsP (bx':= []) hfn hv hi he
def L.ends3(hfn:fn.results=rs.toArray)(hv:(st.ress P rs).map AV.pub.pubs=some [.iv y,.iv z,.iv u])(hi:c.ins= [])(he:AV.tup [.iv y,.iv z,.iv u] =res):L c st (bodyPost P fn (lp c [] [] res) .ret):=L.endsP (bx':= []) hfn hv hi he
end
end
end Go.Abs
namespace Go.Abs
variable [Dr]
open Go.RowKit (Below)
def mg(φ:Nat→Nat):Env:=⟨φ,fun _=>0,fun _=> .slice none 0 0⟩
def RelL.cons{E:Env}{w:World}{v:AV}{u:Value}{vs:List AV}{us:List Value}(h:RepA E w v u)(t:RelL E w vs us):RelL E w (v::vs) (u::us):=
 ⟨by simp[t.1],fun i c x hc hx=>by
   cases i with
   |zero=>simp at hc hx;subst hc;subst hx;exact h
   |succ i=>exact t.2 i c x (by simpa using hc) (by simpa using hx)⟩
end Go.Abs
namespace Go.Abs
variable [Dr]
section
variable {P:Program}{c:Ctx}{fr:List (Nat×AV)}{bx:List (Nat×Box)}{tk:List (Nat×Tok)}{ops:Array Oper}{Q:Exit→Act→World→Prop}{rest:List Oper}{d:Nat}{ty:TypeId}{pos:String}{aft:Array Edge}{st0:St}{done:List Eff}
def fct{p q X:Prop}(hb:p)(k:q→X)(hq:p→q:=by(intro hp;(try simp only[decide_eq_true_eq,decide_eq_false_iff_not,beq_iff_eq,beq_eq_false_iff_ne,bne_iff_ne,bne_eq_false_iff_eq,ne_eq,Bool.not_eq_true,Bool.not_eq_false,Bool.not_eq_eq_eq_not,Bool.not_true,Bool.not_false,Bool.or_eq_true,Bool.or_eq_false_iff,Bool.and_eq_true,Bool.and_eq_false_iff,Int.not_lt,Int.not_le] at hp);exact hp)):X:=k (hq hb)
def Lv{st:St}{b:BinOp}{x y:Operand}{t t':TypeId}{v:AV}{tb:List Nat}(h:VV P c st ⟨some d,.binOp b t x y t',ty,pos,aft,none⟩ v tb):VV P c st ⟨some d,.binOp b t x y t',ty,pos,aft,none⟩ v tb:=h
def s_v{v:AV}{tb:List Nat}{op:Op}(h:LW P c ⟨(d,v)::fr,bx,tk⟩ ops Q rest)(hlt:Nat.ble (d+1) c.nt=true:=by exact rfl)(hv:VV P c ⟨fr,bx,tk⟩ ⟨some d,op,ty,pos,aft,none⟩ v tb:=by(first|(apply Aj;exact rfl;exact rfl;(apply eC;exact rfl;(first|exact pN rfl|exact pL rfl|exact pM rfl|exact fV rfl|exact fU rfl|exact fW rfl|exact qW rfl|exact fZ rfl|exact fY rfl|exact gc rfl|exact qY rfl|exact nEl rfl|exact qV rfl|exact ET rfl|exact rfl)))|(apply Ap;exact rfl;exact rfl)|(apply MN;(first|exact pN rfl|exact pL rfl|exact pM rfl|exact fV rfl|exact fU rfl|exact fW rfl|exact qW rfl|exact fZ rfl|exact fY rfl|exact gc rfl|exact qY rfl|exact nEl rfl|exact qV rfl|exact ET rfl|exact rfl))|(apply MO;(first|exact pN rfl|exact pL rfl|exact pM rfl|exact fV rfl|exact fU rfl|exact fW rfl|exact qW rfl|exact fZ rfl|exact fY rfl|exact gc rfl|exact qY rfl|exact nEl rfl|exact qV rfl|exact ET rfl|exact rfl))|(apply cO;exact rfl;exact rfl;(focus repeat' (first|exact eN rfl|(apply dx;exact rfl)|exact pN rfl|exact pL rfl|exact pM rfl|exact fU rfl|exact fW rfl|exact fV rfl|exact fZ rfl|exact fY rfl|exact gc rfl|exact ns rfl|exact nq rfl|exact rfl));exact rfl)|(apply Aq;exact rfl;exact rfl)|(apply Ak;exact rfl;exact rfl)|(apply Ai;exact rfl;(focus repeat' (first|exact eN rfl|(apply dx;exact rfl)|exact pN rfl|exact pL rfl|exact pM rfl|exact fU rfl|exact fW rfl|exact fV rfl|exact fZ rfl|exact fY rfl|exact gc rfl|exact ns rfl|exact nq rfl|exact rfl));exact rfl)|(apply xq;exact rfl;(apply eC;exact rfl;(first|exact pN rfl|exact pL rfl|exact pM rfl|exact fV rfl|exact fU rfl|exact fW rfl|exact qW rfl|exact fZ rfl|exact fY rfl|exact gc rfl|exact qY rfl|exact nEl rfl|exact qV rfl|exact ET rfl|exact rfl)))|(apply GL;exact rfl)|(apply Ao;exact rfl;(apply eC;exact rfl;(first|exact pN rfl|exact pL rfl|exact pM rfl|exact fV rfl|exact fU rfl|exact fW rfl|exact qW rfl|exact fZ rfl|exact fY rfl|exact gc rfl|exact qY rfl|exact nEl rfl|exact qV rfl|exact ET rfl|exact rfl)))|(apply Lv;first|(apply Hb;exact rfl;exact rfl)|(apply GN;exact rfl;exact rfl)|(apply GR;exact rfl;exact rfl)|(apply GT;exact rfl;exact rfl)|(apply GX;exact rfl;exact rfl)|(apply GZ;exact rfl;exact rfl)|(apply Ha;exact rfl;exact rfl)|(apply GM;exact rfl;exact rfl)|(apply GQ;exact rfl;exact rfl)|(apply GS;exact rfl;exact rfl)|(apply GW;exact rfl;exact rfl)|(apply GY;exact rfl;exact rfl)|(apply Er;exact rfl;exact rfl)|(apply Ar;exact rfl;exact rfl;exact rfl;exact rfl)|(apply Ah;exact rfl;exact rfl;exact rfl;exact rfl)|(apply iV;exact rfl;exact rfl;(first|omega|decide|(dsimp only;omega));(first|omega|decide|(dsimp only;omega)))|(apply qf;exact rfl;exact rfl;(first|omega|decide|(dsimp only;omega));(first|omega|decide|(dsimp only;omega)))|(apply GO;exact rfl;exact rfl;(first|omega|decide|(dsimp only;omega));(first|omega|decide|(dsimp only;omega)))|(apply Hd;exact rfl;exact rfl;(first|omega|(dsimp only;omega)|(simp;done)|(simp;omega)))|(apply GI;exact rfl;exact rfl;(first|decide|omega|(dsimp only;omega)))|(apply Hc;exact rfl;exact rfl)|(apply GK;exact rfl;exact rfl;(first|decide|omega|(dsimp only;omega));(first|omega|decide|(dsimp only;omega));(first|omega|decide|(dsimp only;omega)))|(apply GJ;exact rfl;exact rfl;(first|decide|omega|(dsimp only;omega))))|(apply GU;exact rfl)|(apply Ep;exact rfl)|(apply Lu;exact rfl)|(apply Es;exact rfl;(apply eC;exact rfl;(focus repeat' (first|exact eN rfl|(apply dx;exact rfl)|exact pN rfl|exact pL rfl|exact pM rfl|exact fU rfl|exact fW rfl|exact fV rfl|exact fZ rfl|exact fY rfl|exact gc rfl|exact ns rfl|exact nq rfl|exact rfl))))|(apply As;exact rfl)|(apply CH;exact rfl)|(apply Au;exact rfl)|(apply bF;exact rfl;exact rfl;(first|omega|decide|(dsimp only;omega));(exact Nh (by assumption)))|(apply An;exact rfl;exact rfl;(first|omega|decide|(dsimp only;omega));(first|omega|decide|(dsimp only;omega)))|(apply cd;exact rfl;exact rfl;(first|omega|decide|(dsimp only;omega));(exact Go.Abs.getM (by assumption));exact rfl)|(apply cd;exact rfl;exact rfl;(first|omega|decide|(dsimp only;omega));assumption;exact rfl)|(apply GV;exact rfl;exact rfl)|(apply GP;exact rfl;exact rfl)|(apply Al;exact rfl)|(apply Am;exact rfl)|(apply At;exact rfl)|(apply En;exact rfl;(first|exact rfl|assumption);(first|exact pN rfl|exact pL rfl|exact pM rfl|exact fV rfl|exact fU rfl|exact fW rfl|exact qW rfl|exact fZ rfl|exact fY rfl|exact gc rfl|exact qY rfl|exact nEl rfl|exact qV rfl|exact ET rfl|exact rfl))|(apply Eo;exact rfl;(first|exact rfl|assumption);(first|exact pN rfl|exact pL rfl|exact pM rfl|exact fV rfl|exact fU rfl|exact fW rfl|exact qW rfl|exact fZ rfl|exact fY rfl|exact gc rfl|exact qY rfl|exact nEl rfl|exact qV rfl|exact ET rfl|exact rfl))|(apply yR;exact rfl;(first|omega|decide|(dsimp only;omega));(first|omega|decide|(dsimp only;omega)))|(apply aA;(focus repeat' (first|exact eN rfl|(apply dx;exact rfl)|exact pN rfl|exact pL rfl|exact pM rfl|exact fU rfl|exact fW rfl|exact fV rfl|exact fZ rfl|exact fY rfl|exact gc rfl|exact ns rfl|exact nq rfl|exact rfl))))):LW P c ⟨fr,bx,tk⟩ ops Q (⟨some d,op,ty,pos,aft,none⟩::rest):=ag hlt hv h
def d_v{v:AV}{tb:List Nat}{op:Op}(h:DR P c ops Q st0 (⟨some (d,v),[],[],[],tb,[],[]⟩::done) ⟨(d,v)::fr,bx,tk⟩ rest)(hlt:Nat.ble (d+1) c.nt=true:=by exact rfl)(hv:VV P c ⟨fr,bx,tk⟩ ⟨some d,op,ty,pos,aft,none⟩ v tb:=by(first|(apply Aj;exact rfl;exact rfl;(apply eC;exact rfl;(first|exact pN rfl|exact pL rfl|exact pM rfl|exact fV rfl|exact fU rfl|exact fW rfl|exact qW rfl|exact fZ rfl|exact fY rfl|exact gc rfl|exact qY rfl|exact nEl rfl|exact qV rfl|exact ET rfl|exact rfl)))|(apply Ap;exact rfl;exact rfl)|(apply MN;(first|exact pN rfl|exact pL rfl|exact pM rfl|exact fV rfl|exact fU rfl|exact fW rfl|exact qW rfl|exact fZ rfl|exact fY rfl|exact gc rfl|exact qY rfl|exact nEl rfl|exact qV rfl|exact ET rfl|exact rfl))|(apply MO;(first|exact pN rfl|exact pL rfl|exact pM rfl|exact fV rfl|exact fU rfl|exact fW rfl|exact qW rfl|exact fZ rfl|exact fY rfl|exact gc rfl|exact qY rfl|exact nEl rfl|exact qV rfl|exact ET rfl|exact rfl))|(apply cO;exact rfl;exact rfl;(focus repeat' (first|exact eN rfl|(apply dx;exact rfl)|exact pN rfl|exact pL rfl|exact pM rfl|exact fU rfl|exact fW rfl|exact fV rfl|exact fZ rfl|exact fY rfl|exact gc rfl|exact ns rfl|exact nq rfl|exact rfl));exact rfl)|(apply Aq;exact rfl;exact rfl)|(apply Ak;exact rfl;exact rfl)|(apply Ai;exact rfl;(focus repeat' (first|exact eN rfl|(apply dx;exact rfl)|exact pN rfl|exact pL rfl|exact pM rfl|exact fU rfl|exact fW rfl|exact fV rfl|exact fZ rfl|exact fY rfl|exact gc rfl|exact ns rfl|exact nq rfl|exact rfl));exact rfl)|(apply xq;exact rfl;(apply eC;exact rfl;(first|exact pN rfl|exact pL rfl|exact pM rfl|exact fV rfl|exact fU rfl|exact fW rfl|exact qW rfl|exact fZ rfl|exact fY rfl|exact gc rfl|exact qY rfl|exact nEl rfl|exact qV rfl|exact ET rfl|exact rfl)))|(apply GL;exact rfl)|(apply Ao;exact rfl;(apply eC;exact rfl;(first|exact pN rfl|exact pL rfl|exact pM rfl|exact fV rfl|exact fU rfl|exact fW rfl|exact qW rfl|exact fZ rfl|exact fY rfl|exact gc rfl|exact qY rfl|exact nEl rfl|exact qV rfl|exact ET rfl|exact rfl)))|(apply Lv;first|(apply Hb;exact rfl;exact rfl)|(apply GN;exact rfl;exact rfl)|(apply GR;exact rfl;exact rfl)|(apply GT;exact rfl;exact rfl)|(apply GX;exact rfl;exact rfl)|(apply GZ;exact rfl;exact rfl)|(apply Ha;exact rfl;exact rfl)|(apply GM;exact rfl;exact rfl)|(apply GQ;exact rfl;exact rfl)|(apply GS;exact rfl;exact rfl)|(apply GW;exact rfl;exact rfl)|(apply GY;exact rfl;exact rfl)|(apply Er;exact rfl;exact rfl)|(apply Ar;exact rfl;exact rfl;exact rfl;exact rfl)|(apply Ah;exact rfl;exact rfl;exact rfl;exact rfl)|(apply iV;exact rfl;exact rfl;(first|omega|decide|(dsimp only;omega));(first|omega|decide|(dsimp only;omega)))|(apply qf;exact rfl;exact rfl;(first|omega|decide|(dsimp only;omega));(first|omega|decide|(dsimp only;omega)))|(apply GO;exact rfl;exact rfl;(first|omega|decide|(dsimp only;omega));(first|omega|decide|(dsimp only;omega)))|(apply Hd;exact rfl;exact rfl;(first|omega|(dsimp only;omega)|(simp;done)|(simp;omega)))|(apply GI;exact rfl;exact rfl;(first|decide|omega|(dsimp only;omega)))|(apply Hc;exact rfl;exact rfl)|(apply GK;exact rfl;exact rfl;(first|decide|omega|(dsimp only;omega));(first|omega|decide|(dsimp only;omega));(first|omega|decide|(dsimp only;omega)))|(apply GJ;exact rfl;exact rfl;(first|decide|omega|(dsimp only;omega))))|(apply GU;exact rfl)|(apply Ep;exact rfl)|(apply Lu;exact rfl)|(apply Es;exact rfl;(apply eC;exact rfl;(focus repeat' (first|exact eN rfl|(apply dx;exact rfl)|exact pN rfl|exact pL rfl|exact pM rfl|exact fU rfl|exact fW rfl|exact fV rfl|exact fZ rfl|exact fY rfl|exact gc rfl|exact ns rfl|exact nq rfl|exact rfl))))|(apply As;exact rfl)|(apply CH;exact rfl)|(apply Au;exact rfl)|(apply bF;exact rfl;exact rfl;(first|omega|decide|(dsimp only;omega));(exact Nh (by assumption)))|(apply An;exact rfl;exact rfl;(first|omega|decide|(dsimp only;omega));(first|omega|decide|(dsimp only;omega)))|(apply cd;exact rfl;exact rfl;(first|omega|decide|(dsimp only;omega));(exact Go.Abs.getM (by assumption));exact rfl)|(apply cd;exact rfl;exact rfl;(first|omega|decide|(dsimp only;omega));assumption;exact rfl)|(apply GV;exact rfl;exact rfl)|(apply GP;exact rfl;exact rfl)|(apply Al;exact rfl)|(apply Am;exact rfl)|(apply At;exact rfl)|(apply En;exact rfl;(first|exact rfl|assumption);(first|exact pN rfl|exact pL rfl|exact pM rfl|exact fV rfl|exact fU rfl|exact fW rfl|exact qW rfl|exact fZ rfl|exact fY rfl|exact gc rfl|exact qY rfl|exact nEl rfl|exact qV rfl|exact ET rfl|exact rfl))|(apply Eo;exact rfl;(first|exact rfl|assumption);(first|exact pN rfl|exact pL rfl|exact pM rfl|exact fV rfl|exact fU rfl|exact fW rfl|exact qW rfl|exact fZ rfl|exact fY rfl|exact gc rfl|exact qY rfl|exact nEl rfl|exact qV rfl|exact ET rfl|exact rfl))|(apply yR;exact rfl;(first|omega|decide|(dsimp only;omega));(first|omega|decide|(dsimp only;omega)))|(apply aA;(focus repeat' (first|exact eN rfl|(apply dx;exact rfl)|exact pN rfl|exact pL rfl|exact pM rfl|exact fU rfl|exact fW rfl|exact fV rfl|exact fZ rfl|exact fY rfl|exact gc rfl|exact ns rfl|exact nq rfl|exact rfl))))):DR P c ops Q st0 done ⟨fr,bx,tk⟩ (⟨some d,op,ty,pos,aft,none⟩::rest):=bk hlt hv h
def s_m{st st':St}{o:Oper}(h:LW P c st' ops Q rest)(hs:LW P c st' ops Q rest→LW P c st ops Q (o::rest):=by(intro hq;(first|(apply MT;exact rfl;exact rfl;exact rfl;(focus repeat' (first|exact eN rfl|(apply dx;exact rfl)|exact pN rfl|exact pL rfl|exact pM rfl|exact fU rfl|exact fW rfl|exact fV rfl|exact fZ rfl|exact fY rfl|exact gc rfl|exact ns rfl|exact nq rfl|exact rfl));exact rfl;exact rfl;exact hq)|(apply EH;exact rfl;exact rfl;(focus repeat' (first|exact eN rfl|(apply dx;exact rfl)|exact pN rfl|exact pL rfl|exact pM rfl|exact fU rfl|exact fW rfl|exact fV rfl|exact fZ rfl|exact fY rfl|exact gc rfl|exact ns rfl|exact nq rfl|exact rfl));exact rfl;exact rfl;exact hq)|(apply EE;exact rfl;exact rfl;exact rfl;exact rfl;exact rfl;exact rfl;(focus repeat' (first|exact eN rfl|(apply dx;exact rfl)|exact pN rfl|exact pL rfl|exact pM rfl|exact fU rfl|exact fW rfl|exact fV rfl|exact fZ rfl|exact fY rfl|exact gc rfl|exact ns rfl|exact nq rfl|exact rfl));exact hq)|(apply mB;exact rfl;exact rfl;exact rfl;exact rfl;exact rfl;(apply eC;exact rfl;(focus repeat' (first|exact eN rfl|(apply dx;exact rfl)|exact pN rfl|exact pL rfl|exact pM rfl|exact fU rfl|exact fW rfl|exact fV rfl|exact fZ rfl|exact fY rfl|exact gc rfl|exact ns rfl|exact nq rfl|exact rfl)));(apply eC;exact rfl;(focus repeat' (first|exact eN rfl|(apply dx;exact rfl)|exact pN rfl|exact pL rfl|exact pM rfl|exact fU rfl|exact fW rfl|exact fV rfl|exact fZ rfl|exact fY rfl|exact gc rfl|exact ns rfl|exact nq rfl|exact rfl)));exact rfl;(focus repeat' (first|exact eN rfl|(apply dx;exact rfl)|exact pN rfl|exact pL rfl|exact pM rfl|exact fU rfl|exact fW rfl|exact fV rfl|exact fZ rfl|exact fY rfl|exact gc rfl|exact ns rfl|exact nq rfl|exact rfl));exact rfl;exact hq)|(apply bC;exact rfl;exact rfl;exact rfl;exact rfl;(focus repeat' (first|exact bK|apply cH|(refine jn (fun x=>rfl))|(refine bz rfl ?_)|exact len_chunks rfl|assumption));(focus repeat' (first|exact bK|apply cH|(refine jn (fun x=>rfl))|(refine bz rfl ?_)|exact len_chunks rfl|assumption));(first|(simp[maxLen,ah];done)|(simp[maxLen,ah];omega));(first|(simp[maxLen,ah];done)|(simp[maxLen,ah];omega));exact rfl;exact rfl;exact hq)|(apply th;exact rfl;exact rfl;exact rfl;(focus repeat' (first|exact bK|apply cH|(refine jn (fun x=>rfl))|(refine bz rfl ?_)|exact len_chunks rfl|assumption));(first|(simp[maxLen,ah];done)|(simp[maxLen,ah];omega));(first|(simp[maxLen,ah];done)|(simp[maxLen,ah];omega));exact rfl;exact hq)|(apply FI;exact rfl;exact rfl;exact rfl;exact rfl;(focus repeat' (first|exact bK|apply cH|(refine jn (fun x=>rfl))|(refine bz rfl ?_)|exact len_chunks rfl|assumption));(first|(simp[maxLen,ah];done)|(simp[maxLen,ah];omega));(first|(simp[maxLen,ah];done)|(simp[maxLen,ah];omega));exact rfl;exact rfl;exact hq)|(apply AL;exact rfl;exact rfl;exact rfl;(first|exact rfl|assumption);exact hq)|(apply AM;exact rfl;exact rfl;exact rfl;(first|exact rfl|assumption);exact hq)|(apply AK;exact rfl;exact rfl;exact rfl;exact hq)))):LW P c st ops Q (o::rest):=hs h
def d_m{st st':St}{done':List Eff}{o:Oper}(h:DR P c ops Q st0 done' st' rest)(hs:DR P c ops Q st0 done' st' rest→DR P c ops Q st0 done st (o::rest):=by(intro hq;(first|(apply KX;exact rfl;exact rfl;(focus repeat' (first|exact eN rfl|(apply dx;exact rfl)|exact pN rfl|exact pL rfl|exact pM rfl|exact fU rfl|exact fW rfl|exact fV rfl|exact fZ rfl|exact fY rfl|exact gc rfl|exact ns rfl|exact nq rfl|exact rfl));exact rfl;exact rfl;exact hq)|(apply KW;exact rfl;exact rfl;exact rfl;exact rfl;exact rfl;exact rfl;(focus repeat' (first|exact eN rfl|(apply dx;exact rfl)|exact pN rfl|exact pL rfl|exact pM rfl|exact fU rfl|exact fW rfl|exact fV rfl|exact fZ rfl|exact fY rfl|exact gc rfl|exact ns rfl|exact nq rfl|exact rfl));exact hq)|(apply Jj;exact rfl;exact rfl;exact rfl;exact rfl;exact rfl;(apply eC;exact rfl;(focus repeat' (first|exact eN rfl|(apply dx;exact rfl)|exact pN rfl|exact pL rfl|exact pM rfl|exact fU rfl|exact fW rfl|exact fV rfl|exact fZ rfl|exact fY rfl|exact gc rfl|exact ns rfl|exact nq rfl|exact rfl)));(apply eC;exact rfl;(focus repeat' (first|exact eN rfl|(apply dx;exact rfl)|exact pN rfl|exact pL rfl|exact pM rfl|exact fU rfl|exact fW rfl|exact fV rfl|exact fZ rfl|exact fY rfl|exact gc rfl|exact ns rfl|exact nq rfl|exact rfl)));exact rfl;(focus repeat' (first|exact eN rfl|(apply dx;exact rfl)|exact pN rfl|exact pL rfl|exact pM rfl|exact fU rfl|exact fW rfl|exact fV rfl|exact fZ rfl|exact fY rfl|exact gc rfl|exact ns rfl|exact nq rfl|exact rfl));exact rfl;exact hq)|(apply rA;exact rfl;exact rfl;exact rfl;exact rfl;(focus repeat' (first|exact bK|apply cH|(refine jn (fun x=>rfl))|(refine bz rfl ?_)|exact len_chunks rfl|assumption));(focus repeat' (first|exact bK|apply cH|(refine jn (fun x=>rfl))|(refine bz rfl ?_)|exact len_chunks rfl|assumption));(first|(simp[maxLen,ah];done)|(simp[maxLen,ah];omega));(first|(simp[maxLen,ah];done)|(simp[maxLen,ah];omega));exact rfl;exact rfl;exact hq)|(apply Jg;exact rfl;exact rfl;exact rfl;(first|exact rfl|assumption);exact hq)|(apply Jh;exact rfl;exact rfl;exact rfl;(first|exact rfl|assumption);exact hq)|(apply Jf;exact rfl;exact rfl;exact rfl;exact hq)))):DR P c ops Q st0 done st (o::rest):=hs h
def Nx{dst:Option Tmp}{op:Op}{st:St}{j s:Nat}{b b':Bool}(h:LW P c st ops Q (⟨dst,op,ty,pos,aft,none⟩::rest))(hj:(ops[j]?).bind (·.dst)=some s:=by exact rfl)(hb:st.ev (.tmp s)=aB b':=by exact rfl)(he:b'=b:=by(first|exact rfl|assumption)):LW P c st ops Q (⟨dst,op,ty,pos,aft,some (j,b)⟩::rest):=MS hj hb he h
def NG{dst:Option Tmp}{op:Op}{st:St}{j s:Nat}{b b':Bool}(h:DR P c ops Q st0 done st (⟨dst,op,ty,pos,aft,none⟩::rest))(hj:(ops[j]?).bind (·.dst)=some s:=by exact rfl)(hb:st.ev (.tmp s)=aB b':=by exact rfl)(he:b'=b:=by(first|exact rfl|assumption)):DR P c ops Q st0 done st (⟨dst,op,ty,pos,aft,some (j,b)⟩::rest):=No hj hb he h
def NH{st:St}{K X:Act→World→Prop}(h:L c st K)(hs:L c st K→L c st X:=by(intro hq;(first|exact Np hq|exact L.block hq|exact Lo hq|exact L.thenE hq|exact L.thenR hq|exact Nu hq|exact L.inR hq|exact L.inE hq|(apply L.inO;exact rfl;exact hq)|exact L.ret hq|exact L.exit hq|exact L.skip hq|(apply Lb;exact rfl;(first|exact rfl|assumption);exact hq)|(apply Lc;exact rfl;(first|exact rfl|assumption);exact hq)))):L c st X:=hs h
def am{X Y:Prop}(h:X)(hs:X→Y:=by(intro hq;first|(refine LW.is ?_;first|exact s_v hq|exact s_m hq|exact EF hq|exact Nx hq|(apply gp (h:=hq) (ha:=rfl);exact rfl;assumption;exact rfl)|(apply dM (h:=hq) (ha:=rfl);exact rfl;assumption;assumption;exact rfl)|(apply xC (h:=hq) (ha:=rfl);exact rfl;assumption;exact rfl)|(apply jw (h:=hq) (ha:=rfl);exact rfl;assumption;exact rfl;exact rfl))|(refine DR.is ?_;first|exact d_v hq|exact d_m hq|(apply Nn;kernel_rfl;exact hq)|exact NG hq|(apply ry (h:=hq) (ha:=rfl);exact rfl;assumption;exact rfl)|(apply um (h:=hq) (ha:=rfl);exact rfl;assumption;assumption;exact rfl)|(apply Gl (h:=hq) (ha:=rfl);exact rfl;assumption;exact rfl)|(apply li (h:=hq) (ha:=rfl);exact rfl;assumption;exact rfl;exact rfl))|exact NH hq|exact HE hq|exact Jd hq|fail)):Y:=hs h
def ak{p p1 q q1 X1 X2 Y:Prop}(h1:p→p1→X1)(h2:q→q1→X2)(hs:(p→p1→X1)→(q→q1→X2)→Y:=by(intro h1 h2;first|(refine LW.is ?_;exact HF rfl rfl rfl (fun hb=>fct hb (h1 hb)) (fun hb=>fct hb (h2 hb)))|(refine DR.is ?_;exact Je rfl rfl rfl (fun hb=>fct hb (h1 hb)) (fun hb=>fct hb (h2 hb)))|exact L.cond rfl (fun hb=>fct hb (h1 hb)) (fun hb=>fct hb (h2 hb))|fail)):Y:=hs h1 h2
def bn{X Y:Prop}(h:X)(hs:X→Y:=by(intro hq;first|(apply L.ends1;exact rfl;exact rfl;exact rfl;exact hq)|(apply L.ends2;exact rfl;exact rfl;exact rfl;exact hq)|(apply L.ends3;exact rfl;exact rfl;exact rfl;exact hq)|(apply L.ends1A;exact rfl;exact rfl;exact rfl;exact hq)|(apply L.ends2A;exact rfl;exact rfl;exact rfl;exact hq)|(apply L.ends3A;exact rfl;exact rfl;exact rfl;exact hq)|fail)):Y:=hs h
def df{st:St}{FB:St}(h:Wk c st FB:=by(refine Wk.mk' (by intro id h;cases h) ?_ ?_ ?_<;>repeat' (first|exact WkF.nil|exact WkB.nil|exact WkT.nil|(refine WkF.cons rfl (Sub.refl _) ?_)|(refine WkB.cons rfl rfl (Subs.refl _) ?_)|(refine WkT.cons rfl ?_)))):Wk c st FB:=h
end
structure Hq (X:Prop):Prop where
 o:X
def wke{X Y:Prop}(h:X)(hs:X→Y:=by(intro hq;first|exact am hq|exact bn hq)):Y:=hs h
def wz{X Y:Prop}(h:X)(hs:Hq X→Y:=by(intro hq;(repeat' (first|intro hb hp|refine am ?_|refine ak ?_ ?_|fail));exact hq.1)):Y:=hs ⟨h⟩
def wy{X Y:Prop}(h:X)(hs:Hq X→Y:=by(intro hq;(repeat' (first|intro hb hp|refine wke ?_|refine ak ?_ ?_|fail));exact hq.1)):Y:=hs ⟨h⟩
def wr{Y:Prop}(h:Y:=by((repeat' (first|intro hb hp|refine wke ?_|refine ak ?_ ?_|fail));all_goals exact rfl)):Y:=h
def wR{Y:Prop}(h:Y:=by((repeat' (first|intro hb hp|refine wke ?_|refine ak ?_ ?_|fail));all_goals kernel_rfl)):Y:=h
def ws{Y:Prop}(h:Y:=by((repeat' (first|intro hb hp|refine am ?_|refine ak ?_ ?_|fail));all_goals refine bn ?_;all_goals exact rfl)):Y:=h
def wS{Y:Prop}(h:Y:=by((repeat' (first|intro hb hp|refine am ?_|refine ak ?_ ?_|fail));all_goals refine bn ?_;all_goals kernel_rfl)):Y:=h
def wE{Y:Prop}(h:Y:=by((repeat' (first|intro hb hp|refine am ?_|refine ak ?_ ?_|fail));all_goals exact L.ends rfl rfl sE wK)):Y:=h
end Go.Abs
namespace Go.Proofs.Y
open Go Go.Abs
instance:VarTy Tryz.prog 3 false 1:=⟨kR⟩
instance:ZeroTy Tryz.prog 3 [.int .i64 0]:=⟨kR⟩
instance:IntTy Tryz.prog 3 .i64:=⟨kR⟩
instance:VarTy Tryz.prog 4 false 1:=⟨kR⟩
instance:ZeroTy Tryz.prog 5 [.int .u8 0]:=⟨kR⟩
instance:IntTy Tryz.prog 5 .u8:=⟨kR⟩
instance:VarTy Tryz.prog 9 false 1:=⟨kR⟩
instance:ZeroTy Tryz.prog 9 [.string ⟨#[]⟩]:=⟨kR⟩
instance:StrTy Tryz.prog 9:=⟨kR⟩
instance:SliceTy Tryz.prog 22 72 1:=⟨kR⟩
instance:AppTy Tryz.prog 22 72 1 16:=⟨kR⟩
instance:VarTy Tryz.prog 23 false 1:=⟨kR⟩
instance:PtrTy Tryz.prog 23:=⟨kR⟩
instance:SliceTy Tryz.prog 27 80 20:=⟨kR⟩
instance:AppTy Tryz.prog 27 80 20 320:=⟨kR⟩
instance:VarTy Tryz.prog 28 false 1:=⟨kR⟩
instance:VarTy Tryz.prog 32 false 1:=⟨kR⟩
instance:SliceTy Tryz.prog 32 35 1:=⟨kR⟩
instance:AppTy Tryz.prog 32 35 1 24:=⟨kR⟩
instance:RowTy Tryz.prog 32 35 1 24:=⟨kR⟩
instance:VarTy Tryz.prog 35 false 1:=⟨kR⟩
instance:ZeroTy Tryz.prog 35 [.slice none 0 0]:=⟨kR⟩
instance:SliceTy Tryz.prog 35 41 3:=⟨kR⟩
instance:AppTy Tryz.prog 35 41 3 32:=⟨kR⟩
instance:RowTy Tryz.prog 35 41 3 32:=⟨kR⟩
instance:SliceTy Tryz.prog 38 5 1:=⟨kR⟩
instance:AppTy Tryz.prog 38 5 1 1:=⟨kR⟩
instance:VarTy Tryz.prog 41 true 3:=⟨kR⟩
instance:ZeroTy Tryz.prog 41 [.int .i64 0,.int .i64 0,.string ⟨#[]⟩]:=⟨kR⟩
instance:FieldTy Tryz.prog 41 0 0:=⟨kR⟩
instance:FieldTy Tryz.prog 41 1 1:=⟨kR⟩
instance:FieldTy Tryz.prog 41 2 2:=⟨kR⟩
instance:PlacesTy Tryz.prog 41 [(0,1),(1,1),(2,1)]:=⟨kR⟩
instance:EqTy Tryz.prog 41 [1,1,3]:=⟨kR⟩
instance:VarTy Tryz.prog 44 false 1:=⟨kR⟩
instance:SliceTy Tryz.prog 44 57 2:=⟨kR⟩
instance:AppTy Tryz.prog 44 57 2 40:=⟨kR⟩
instance:RowTy Tryz.prog 44 57 2 40:=⟨kR⟩
instance:VarTy Tryz.prog 45 false 1:=⟨kR⟩
instance:SliceTy Tryz.prog 45 67 3:=⟨kR⟩
instance:AppTy Tryz.prog 45 67 3 48:=⟨kR⟩
instance:RowTy Tryz.prog 45 67 3 48:=⟨kR⟩
instance:VarTy Tryz.prog 47 true 2:=⟨kR⟩
instance:ZeroTy Tryz.prog 47 [.slice none 0 0,.slice none 0 0]:=⟨kR⟩
instance:FieldTy Tryz.prog 47 0 0:=⟨kR⟩
instance:FieldTy Tryz.prog 47 1 1:=⟨kR⟩
instance:PlacesTy Tryz.prog 47 [(0,1),(1,1)]:=⟨kR⟩
instance:VarTy Tryz.prog 49 false 1:=⟨kR⟩
instance:SliceTy Tryz.prog 49 93 2:=⟨kR⟩
instance:AppTy Tryz.prog 49 93 2 48:=⟨kR⟩
instance:RowTy Tryz.prog 49 93 2 48:=⟨kR⟩
instance:VarTy Tryz.prog 51 true 1:=⟨kR⟩
instance:ZeroTy Tryz.prog 51 [.slice none 0 0]:=⟨kR⟩
instance:FieldTy Tryz.prog 51 0 0:=⟨kR⟩
instance:FldTy Tryz.prog 51 0 0:=⟨kR⟩
instance:VarTy Tryz.prog 55 false 1:=⟨kR⟩
instance:SliceTy Tryz.prog 55 63 3:=⟨kR⟩
instance:RowTy Tryz.prog 55 63 3 32:=⟨kR⟩
instance:VarTy Tryz.prog 57 true 2:=⟨kR⟩
instance:ZeroTy Tryz.prog 57 [.string ⟨#[]⟩,.slice none 0 0]:=⟨kR⟩
instance:FieldTy Tryz.prog 57 0 0:=⟨kR⟩
instance:FieldTy Tryz.prog 57 1 1:=⟨kR⟩
instance:PlacesTy Tryz.prog 57 [(0,1),(1,1)]:=⟨kR⟩
instance:VarTy Tryz.prog 60 true 3:=⟨kR⟩
instance:ZeroTy Tryz.prog 60 [.string ⟨#[]⟩,.string ⟨#[]⟩,.string ⟨#[]⟩]:=⟨kR⟩
instance:FieldTy Tryz.prog 60 0 0:=⟨kR⟩
instance:FieldTy Tryz.prog 60 1 1:=⟨kR⟩
instance:FieldTy Tryz.prog 60 2 2:=⟨kR⟩
instance:FldTy Tryz.prog 60 2 2:=⟨kR⟩
instance:PlacesTy Tryz.prog 60 [(0,1),(1,1),(2,1)]:=⟨kR⟩
instance:VarTy Tryz.prog 63 true 3:=⟨kR⟩
instance:ZeroTy Tryz.prog 63 [.string ⟨#[]⟩,.int .i64 0,.bool false]:=⟨kR⟩
instance:FieldTy Tryz.prog 63 0 0:=⟨kR⟩
instance:FieldTy Tryz.prog 63 1 1:=⟨kR⟩
instance:FieldTy Tryz.prog 63 2 2:=⟨kR⟩
instance:PlacesTy Tryz.prog 63 [(0,1),(1,1),(2,1)]:=⟨kR⟩
instance:EqTy Tryz.prog 63 [3,1,2]:=⟨kR⟩
instance:VarTy Tryz.prog 67 true 3:=⟨kR⟩
instance:ZeroTy Tryz.prog 67 [.string ⟨#[]⟩,.string ⟨#[]⟩,.string ⟨#[]⟩]:=⟨kR⟩
instance:FieldTy Tryz.prog 67 0 0:=⟨kR⟩
instance:FieldTy Tryz.prog 67 1 1:=⟨kR⟩
instance:FieldTy Tryz.prog 67 2 2:=⟨kR⟩
instance:PlacesTy Tryz.prog 67 [(0,1),(1,1),(2,1)]:=⟨kR⟩
instance:EqTy Tryz.prog 67 [3,3,3]:=⟨kR⟩
instance:VarTy Tryz.prog 69 true 3:=⟨kR⟩
instance:ZeroTy Tryz.prog 69 [.int .i64 0,.int .i64 0,.slice none 0 0]:=⟨kR⟩
instance:FieldTy Tryz.prog 69 0 0:=⟨kR⟩
instance:FieldTy Tryz.prog 69 1 1:=⟨kR⟩
instance:FieldTy Tryz.prog 69 2 2:=⟨kR⟩
instance:FldTy Tryz.prog 69 0 0:=⟨kR⟩
instance:PlacesTy Tryz.prog 69 [(0,1),(1,1),(2,1)]:=⟨kR⟩
instance:VarTy Tryz.prog 72 true 1:=⟨kR⟩
instance:ZeroTy Tryz.prog 72 [.string ⟨#[]⟩]:=⟨kR⟩
instance:FieldTy Tryz.prog 72 0 0:=⟨kR⟩
instance:PlacesTy Tryz.prog 72 [(0,1)]:=⟨kR⟩
instance:VarTy Tryz.prog 73 false 1:=⟨kR⟩
instance:SliceTy Tryz.prog 73 76 1:=⟨kR⟩
instance:AppTy Tryz.prog 73 76 1 24:=⟨kR⟩
instance:RowTy Tryz.prog 73 76 1 24:=⟨kR⟩
instance:VarTy Tryz.prog 74 false 1:=⟨kR⟩
instance:SliceTy Tryz.prog 74 144 9:=⟨kR⟩
instance:AppTy Tryz.prog 74 144 9 120:=⟨kR⟩
instance:RowTy Tryz.prog 74 144 9 120:=⟨kR⟩
instance:VarTy Tryz.prog 75 false 1:=⟨kR⟩
instance:ZeroTy Tryz.prog 75 [.slice none 0 0]:=⟨kR⟩
instance:SliceTy Tryz.prog 75 9 1:=⟨kR⟩
instance:AppTy Tryz.prog 75 9 1 16:=⟨kR⟩
instance:RowTy Tryz.prog 75 9 1 16:=⟨kR⟩
instance:VarTy Tryz.prog 76 false 1:=⟨kR⟩
instance:ZeroTy Tryz.prog 76 [.slice none 0 0]:=⟨kR⟩
instance:SliceTy Tryz.prog 76 78 8:=⟨kR⟩
instance:AppTy Tryz.prog 76 78 8 104:=⟨kR⟩
instance:RowTy Tryz.prog 76 78 8 104:=⟨kR⟩
instance:VarTy Tryz.prog 78 true 8:=⟨kR⟩
instance:ZeroTy Tryz.prog 78 [.int .i64 0,.int .i64 0,.int .i64 0,.string ⟨#[]⟩,.string ⟨#[]⟩,.string ⟨#[]⟩,.int .i64 0,.slice none 0 0]:=⟨kR⟩
instance:FieldTy Tryz.prog 78 0 0:=⟨kR⟩
instance:FieldTy Tryz.prog 78 1 1:=⟨kR⟩
instance:FieldTy Tryz.prog 78 2 4:=⟨kR⟩
instance:FieldTy Tryz.prog 78 3 5:=⟨kR⟩
instance:FieldTy Tryz.prog 78 4 6:=⟨kR⟩
instance:FieldTy Tryz.prog 78 5 7:=⟨kR⟩
instance:PlacesTy Tryz.prog 78 [(0,1),(1,3),(4,1),(5,1),(6,1),(7,1)]:=⟨kR⟩
instance:VarTy Tryz.prog 80 true 20:=⟨kR⟩
instance:ZeroTy Tryz.prog 80 [.int .i64 0,.string ⟨#[]⟩,.string ⟨#[]⟩,.string ⟨#[]⟩,.slice none 0 0,.slice none 0 0,.slice none 0 0,.slice none 0 0,.slice none 0 0,.int .i64 0,.int .i64 0,.int .i64 0,.string ⟨#[]⟩,.string ⟨#[]⟩,.string ⟨#[]⟩,.int .i64 0,.slice none 0 0,.slice none 0 0,.bool false,.int .i64 0]:=⟨kR⟩
instance:FieldTy Tryz.prog 80 0 0:=⟨kR⟩
instance:FieldTy Tryz.prog 80 1 1:=⟨kR⟩
instance:FieldTy Tryz.prog 80 2 2:=⟨kR⟩
instance:FieldTy Tryz.prog 80 3 3:=⟨kR⟩
instance:FieldTy Tryz.prog 80 4 4:=⟨kR⟩
instance:FieldTy Tryz.prog 80 5 5:=⟨kR⟩
instance:FieldTy Tryz.prog 80 6 6:=⟨kR⟩
instance:FieldTy Tryz.prog 80 7 7:=⟨kR⟩
instance:FieldTy Tryz.prog 80 8 8:=⟨kR⟩
instance:FieldTy Tryz.prog 80 9 9:=⟨kR⟩
instance:FieldTy Tryz.prog 80 10 17:=⟨kR⟩
instance:FieldTy Tryz.prog 80 11 18:=⟨kR⟩
instance:FieldTy Tryz.prog 80 12 19:=⟨kR⟩
instance:PlacesTy Tryz.prog 80 [(0,1),(1,1),(2,1),(3,1),(4,1),(5,1),(6,1),(7,1),(8,1),(9,8),(17,1),(18,1),(19,1)]:=⟨kR⟩
instance:SliceTy Tryz.prog 88 69 3:=⟨kR⟩
instance:AppTy Tryz.prog 88 69 3 40:=⟨kR⟩
instance:VarTy Tryz.prog 93 true 2:=⟨kR⟩
instance:ZeroTy Tryz.prog 93 [.slice none 0 0,.slice none 0 0]:=⟨kR⟩
instance:FieldTy Tryz.prog 93 0 0:=⟨kR⟩
instance:FieldTy Tryz.prog 93 1 1:=⟨kR⟩
instance:PlacesTy Tryz.prog 93 [(0,1),(1,1)]:=⟨kR⟩
instance:VarTy Tryz.prog 101 false 1:=⟨kR⟩
instance:ZeroTy Tryz.prog 103 [.slice none 0 0,.bool false]:=⟨kR⟩
instance:FieldTy Tryz.prog 103 0 0:=⟨kR⟩
instance:FieldTy Tryz.prog 103 1 1:=⟨kR⟩
instance:PlacesTy Tryz.prog 103 [(0,1),(1,1)]:=⟨kR⟩
instance:VarTy Tryz.prog 112 true 4:=⟨kR⟩
instance:ZeroTy Tryz.prog 112 [.slice none 0 0,.slice none 0 0,.slice none 0 0,.int .i64 0]:=⟨kR⟩
instance:FieldTy Tryz.prog 112 0 0:=⟨kR⟩
instance:FieldTy Tryz.prog 112 1 2:=⟨kR⟩
instance:FieldTy Tryz.prog 112 2 3:=⟨kR⟩
instance:PlacesTy Tryz.prog 112 [(0,2),(2,1),(3,1)]:=⟨kR⟩
instance:VarTy Tryz.prog 144 true 9:=⟨kR⟩
instance:ZeroTy Tryz.prog 144 [.string ⟨#[]⟩,.int .i64 0,.int .i64 0,.int .i64 0,.string ⟨#[]⟩,.string ⟨#[]⟩,.string ⟨#[]⟩,.int .i64 0,.slice none 0 0]:=⟨kR⟩
instance:FieldTy Tryz.prog 144 0 0:=⟨kR⟩
instance:FieldTy Tryz.prog 144 1 1:=⟨kR⟩
instance:PlacesTy Tryz.prog 144 [(0,1),(1,8)]:=⟨kR⟩
instance:VarTy Tryz.prog 147 false 1:=⟨kR⟩
instance:ZeroTy Tryz.prog 147 [.slice none 0 0]:=⟨kR⟩
instance:SliceTy Tryz.prog 147 3 1:=⟨kR⟩
instance:AppTy Tryz.prog 147 3 1 8:=⟨kR⟩
instance:IntTy Tryz.prog 149 .u64:=⟨kR⟩
instance:SliceTy Tryz.prog 177 57 2:=⟨kR⟩
instance:AppTy Tryz.prog 177 57 2 40:=⟨kR⟩
instance:IntTy Tryz.prog 206 .u32:=⟨kR⟩
instance:IntTy Tryz.prog 259 .u64:=⟨kR⟩
instance:SliceTy Tryz.prog 272 75 1:=⟨kR⟩
instance:MixTy Tryz.prog:=⟨kR⟩
instance:CallTy Tryz.prog 15:=⟨kR⟩
instance:CallTy Tryz.prog 16:=⟨kR⟩
instance:CallTy Tryz.prog 17:=⟨kR⟩
instance:CallTy Tryz.prog 18:=⟨kR⟩
instance:CallTy Tryz.prog 21:=⟨kR⟩
instance:CallTy Tryz.prog 22:=⟨kR⟩
instance:CallTy Tryz.prog 23:=⟨kR⟩
instance:CallTy Tryz.prog 24:=⟨kR⟩
instance:CallTy Tryz.prog 25:=⟨kR⟩
instance:CallTy Tryz.prog 26:=⟨kR⟩
instance:CallTy Tryz.prog 27:=⟨kR⟩
instance:CallTy Tryz.prog 28:=⟨kR⟩
instance:CallTy Tryz.prog 29:=⟨kR⟩
instance:CallTy Tryz.prog 30:=⟨kR⟩
instance:CallTy Tryz.prog 31:=⟨kR⟩
instance:CallTy Tryz.prog 32:=⟨kR⟩
instance:CallTy Tryz.prog 34:=⟨kR⟩
instance:CallTy Tryz.prog 35:=⟨kR⟩
instance:CallTy Tryz.prog 36:=⟨kR⟩
instance:CallTy Tryz.prog 38:=⟨kR⟩
instance:CallTy Tryz.prog 39:=⟨kR⟩
instance:CallTy Tryz.prog 40:=⟨kR⟩
instance:CallTy Tryz.prog 42:=⟨kR⟩
instance:CallTy Tryz.prog 43:=⟨kR⟩
instance:CallTy Tryz.prog 44:=⟨kR⟩
instance:CallTy Tryz.prog 45:=⟨kR⟩
instance:CallTy Tryz.prog 46:=⟨kR⟩
instance:CallTy Tryz.prog 47:=⟨kR⟩
instance:CallTy Tryz.prog 48:=⟨kR⟩
instance:CallTy Tryz.prog 49:=⟨kR⟩
instance:CallTy Tryz.prog 50:=⟨kR⟩
instance:CallTy Tryz.prog 51:=⟨kR⟩
instance:CallTy Tryz.prog 52:=⟨kR⟩
instance:CallTy Tryz.prog 53:=⟨kR⟩
instance:CallTy Tryz.prog 54:=⟨kR⟩
instance:CallTy Tryz.prog 55:=⟨kR⟩
instance:CallTy Tryz.prog 56:=⟨kR⟩
instance:CallTy Tryz.prog 57:=⟨kR⟩
instance:CallTy Tryz.prog 58:=⟨kR⟩
instance:CallTy Tryz.prog 59:=⟨kR⟩
instance:CallTy Tryz.prog 60:=⟨kR⟩
instance:CallTy Tryz.prog 61:=⟨kR⟩
instance:CallTy Tryz.prog 62:=⟨kR⟩
instance:CallTy Tryz.prog 63:=⟨kR⟩
instance:CallTy Tryz.prog 64:=⟨kR⟩
instance:CallTy Tryz.prog 65:=⟨kR⟩
instance:CallTy Tryz.prog 66:=⟨kR⟩
instance:CallTy Tryz.prog 67:=⟨kR⟩
instance:CallTy Tryz.prog 68:=⟨kR⟩
instance:CallTy Tryz.prog 69:=⟨kR⟩
instance:CallTy Tryz.prog 70:=⟨kR⟩
instance:CallTy Tryz.prog 71:=⟨kR⟩
instance:CallTy Tryz.prog 72:=⟨kR⟩
instance:CallTy Tryz.prog 73:=⟨kR⟩
instance:CallTy Tryz.prog 74:=⟨kR⟩
instance:CallTy Tryz.prog 75:=⟨kR⟩
instance:CallTy Tryz.prog 76:=⟨kR⟩
instance:CallTy Tryz.prog 77:=⟨kR⟩
instance:CallTy Tryz.prog 78:=⟨kR⟩
instance:CallTy Tryz.prog 79:=⟨kR⟩
instance:CallTy Tryz.prog 80:=⟨kR⟩
instance:CallTy Tryz.prog 81:=⟨kR⟩
instance:CallTy Tryz.prog 82:=⟨kR⟩
instance:CallTy Tryz.prog 83:=⟨kR⟩
instance:CallTy Tryz.prog 84:=⟨kR⟩
instance:CallTy Tryz.prog 85:=⟨kR⟩
instance:CallTy Tryz.prog 86:=⟨kR⟩
instance:CallTy Tryz.prog 87:=⟨kR⟩
instance:CallTy Tryz.prog 88:=⟨kR⟩
instance:CallTy Tryz.prog 89:=⟨kR⟩
instance:CallTy Tryz.prog 90:=⟨kR⟩
instance:CallTy Tryz.prog 91:=⟨kR⟩
instance:CallTy Tryz.prog 92:=⟨kR⟩
instance:CallTy Tryz.prog 93:=⟨kR⟩
instance:CallTy Tryz.prog 94:=⟨kR⟩
instance:CallTy Tryz.prog 95:=⟨kR⟩
instance:CallTy Tryz.prog 96:=⟨kR⟩
instance:CallTy Tryz.prog 97:=⟨kR⟩
instance:CallTy Tryz.prog 98:=⟨kR⟩
instance:CallTy Tryz.prog 99:=⟨kR⟩
instance:CallTy Tryz.prog 100:=⟨kR⟩
instance:CallTy Tryz.prog 101:=⟨kR⟩
instance:CallTy Tryz.prog 102:=⟨kR⟩
instance:CallTy Tryz.prog 103:=⟨kR⟩
instance:CallTy Tryz.prog 104:=⟨kR⟩
instance:CallTy Tryz.prog 105:=⟨kR⟩
instance:CallTy Tryz.prog 106:=⟨kR⟩
instance:CallTy Tryz.prog 107:=⟨kR⟩
instance:CallTy Tryz.prog 108:=⟨kR⟩
instance:CallTy Tryz.prog 109:=⟨kR⟩
instance:CallTy Tryz.prog 110:=⟨kR⟩
instance:CallTy Tryz.prog 111:=⟨kR⟩
instance:CallTy Tryz.prog 112:=⟨kR⟩
instance:CallTy Tryz.prog 113:=⟨kR⟩
instance:CallTy Tryz.prog 114:=⟨kR⟩
instance:CallTy Tryz.prog 115:=⟨kR⟩
instance:CallTy Tryz.prog 116:=⟨kR⟩
instance:CallTy Tryz.prog 117:=⟨kR⟩
instance:CallTy Tryz.prog 118:=⟨kR⟩
instance:CallTy Tryz.prog 119:=⟨kR⟩
instance:CallTy Tryz.prog 120:=⟨kR⟩
instance:CallTy Tryz.prog 121:=⟨kR⟩
instance:CallTy Tryz.prog 122:=⟨kR⟩
instance:CallTy Tryz.prog 123:=⟨kR⟩
instance:CallTy Tryz.prog 125:=⟨kR⟩
instance:CallTy Tryz.prog 126:=⟨kR⟩
instance:CallTy Tryz.prog 127:=⟨kR⟩
instance:CallTy Tryz.prog 128:=⟨kR⟩
instance:CallTy Tryz.prog 129:=⟨kR⟩
instance:CallTy Tryz.prog 130:=⟨kR⟩
instance:CallTy Tryz.prog 131:=⟨kR⟩
instance:CallTy Tryz.prog 132:=⟨kR⟩
instance:CallTy Tryz.prog 133:=⟨kR⟩
instance:CallTy Tryz.prog 134:=⟨kR⟩
instance:CallTy Tryz.prog 135:=⟨kR⟩
instance:CallTy Tryz.prog 136:=⟨kR⟩
instance:CallTy Tryz.prog 137:=⟨kR⟩
instance:CallTy Tryz.prog 138:=⟨kR⟩
instance:CallTy Tryz.prog 139:=⟨kR⟩
instance:CallTy Tryz.prog 140:=⟨kR⟩
instance:CallTy Tryz.prog 141:=⟨kR⟩
instance:CallTy Tryz.prog 142:=⟨kR⟩
instance:CallTy Tryz.prog 143:=⟨kR⟩
instance:CallTy Tryz.prog 144:=⟨kR⟩
instance:CallTy Tryz.prog 145:=⟨kR⟩
instance:CallTy Tryz.prog 146:=⟨kR⟩
instance:CallTy Tryz.prog 148:=⟨kR⟩
instance:CallTy Tryz.prog 149:=⟨kR⟩
instance:CallTy Tryz.prog 153:=⟨kR⟩
instance:CallTy Tryz.prog 154:=⟨kR⟩
instance:CallTy Tryz.prog 155:=⟨kR⟩
instance:CallTy Tryz.prog 156:=⟨kR⟩
instance:CallTy Tryz.prog 157:=⟨kR⟩
instance:CallTy Tryz.prog 158:=⟨kR⟩
instance:CallTy Tryz.prog 159:=⟨kR⟩
instance:CallTy Tryz.prog 160:=⟨kR⟩
instance:CallTy Tryz.prog 161:=⟨kR⟩
instance:CallTy Tryz.prog 162:=⟨kR⟩
instance:CallTy Tryz.prog 163:=⟨kR⟩
instance:CallTy Tryz.prog 164:=⟨kR⟩
instance:CallTy Tryz.prog 165:=⟨kR⟩
instance:CallTy Tryz.prog 166:=⟨kR⟩
instance:CallTy Tryz.prog 167:=⟨kR⟩
instance:CallTy Tryz.prog 168:=⟨kR⟩
instance:CallTy Tryz.prog 169:=⟨kR⟩
instance:CallTy Tryz.prog 170:=⟨kR⟩
instance:CallTy Tryz.prog 171:=⟨kR⟩
instance:CallTy Tryz.prog 172:=⟨kR⟩
instance:CallTy Tryz.prog 173:=⟨kR⟩
instance:CallTy Tryz.prog 174:=⟨kR⟩
instance:CallTy Tryz.prog 175:=⟨kR⟩
instance:CallTy Tryz.prog 176:=⟨kR⟩
instance:CallTy Tryz.prog 177:=⟨kR⟩
instance:CallTy Tryz.prog 178:=⟨kR⟩
instance:CallTy Tryz.prog 183:=⟨kR⟩
instance:CallTy Tryz.prog 184:=⟨kR⟩
instance:CallTy Tryz.prog 191:=⟨kR⟩
instance:CallTy Tryz.prog 192:=⟨kR⟩
instance:CallTy Tryz.prog 193:=⟨kR⟩
instance:CallTy Tryz.prog 194:=⟨kR⟩
instance:CallTy Tryz.prog 195:=⟨kR⟩
instance:CallTy Tryz.prog 196:=⟨kR⟩
instance:CallTy Tryz.prog 197:=⟨kR⟩
instance:CallTy Tryz.prog 206:=⟨kR⟩
instance:CallTy Tryz.prog 207:=⟨kR⟩
instance:CallTy Tryz.prog 211:=⟨kR⟩
instance:CallTy Tryz.prog 223:=⟨kR⟩
instance:CallTy Tryz.prog 229:=⟨kR⟩
instance:CallTy Tryz.prog 232:=⟨kR⟩
instance:CallTy Tryz.prog 233:=⟨kR⟩
instance:CallTy Tryz.prog 243:=⟨kR⟩
instance:IdxTy Tryz.prog 147:=⟨⟨Tryz.f147,Tryz.func147,by kernel_rfl,by kernel_rfl,by kernel_rfl,by kernel_rfl⟩⟩
instance:OvlTy Tryz.prog 179 44 4:=⟨⟨Tryz.f179,Tryz.func179,by kernel_rfl,by kernel_rfl,by kernel_rfl,by kernel_rfl⟩⟩
instance:OvlTy Tryz.prog 181 45 4:=⟨⟨Tryz.f181,Tryz.func181,by kernel_rfl,by kernel_rfl,by kernel_rfl,by kernel_rfl⟩⟩
instance:OvlTy Tryz.prog 219 75 4:=⟨⟨Tryz.f219,Tryz.func219,by kernel_rfl,by kernel_rfl,by kernel_rfl,by kernel_rfl⟩⟩
instance:OvlTy Tryz.prog 221 49 4:=⟨⟨Tryz.f221,Tryz.func221,by kernel_rfl,by kernel_rfl,by kernel_rfl,by kernel_rfl⟩⟩
end Go.Proofs.Y
namespace Go.Proofs.Y
open Go.Abs Go.Proofs.Tryz
attribute [local irreducible] L Code.wp bodyPost Exit.then Exit.inBlock
abbrev Str:=List UInt8
def Str.c(s:Str):List IV:= [S s]
structure Pg where
 ks:List Str
 vs:List Str
def Pg.c(p:Pg):List IV:= [.sl (p.ks.map Str.c),.sl (p.vs.map Str.c)]
def Mk{x y:Str}:Op.bytesLess x y=decide (x<y):=by
 induction x generalizing y with
 |nil=>cases y<;>simp[Op.bytesLess]
 |cons a x ih=>
  cases y with
  |nil=>simp[Op.bytesLess]
  |cons b y=>
   unfold Op.bytesLess;rw[ih,Bool.eq_iff_iff];simp[List.cons_lt_cons_iff]
def leS{x y:Str}:(Op.bytesLess x y||x==y)=decide (x≤y):=by
 rw[Mk,Bool.eq_iff_iff];simp only[Bool.or_eq_true,decide_eq_true_eq,beq_iff_eq];constructor
 · rintro (h|rfl)
   · exact List.not_lt.1 (List.lt_asymm h)
   · exact List.not_lt.1 (List.lt_irrefl _)
 · intro h;by_cases h1:x<y
   · exact .inl h1
   · exact .inr (List.le_antisymm h (List.not_lt.1 h1))
def dP:Option Str→List Str→Bool
 |_,[] =>true
 |some a,s::l=>decide (a<s) && dP (some s) l
 |none,s::l=>dP (some s) l
def pQ:Option Str→List Str→Option Str
 |o,[] =>o
 |_,s::l=>pQ (some s) l
def pS:Option Str→List Pg→Bool
 |_,[] =>true
 |o,p::ps=>decide (1≤p.ks.length) && (decide (p.ks.length≤4) && (decide (p.vs.length=p.ks.length) && (dP o p.ks && pS (pQ o p.ks) ps)))
def aG(ps:List Pg):Bool:=pS none ps
def FP(a:Str):CallA prog 84 [aS a] [] [] [] (aB false):=by
 refine iA func84 ntmps84 (fun w0 E0=> ?_);refine wz ?_;all_goals refine bn ?_
 all_goals simp[resOf]
def FO(a:Str):CallA prog 146 [aS a] [] [] [] (aB false):=by
 refine iA func146 ntmps146 (fun w0 E0=> ?_);refine wz ?_;all_goals refine bn ?_
 all_goals simp[resOf]
def Bo(a b:Str):CallA prog 145 [aS a,aS b] [] [] [] (aB (decide (a<b))):=by
 refine iA func145 ntmps145 (fun w0 E0=> ?_);(repeat' first|intro hb hp|refine LW.is (s_C (FP _) ?_)|refine am ?_|refine ak ?_ ?_|fail)
 all_goals refine bn ?_
 all_goals simp[resOf,Mk]
def Ez:List Pg→Nat
 | [] =>0
 |p::ps=>p.ks.length+Ez ps
def Dx(o:Option Str)(p:Pg)(ps:List Pg):pS o (p::ps)=(decide (1≤p.ks.length) && (decide (p.ks.length≤4) && (decide (p.vs.length=p.ks.length) && (dP o p.ks && pS (pQ o p.ks) ps)))):=rfl
def Da{o:Option Str}{s:Str}{l:List Str}:dP o (s::l)=((match o with|some a=>decide (a<s)|none=>true) && dP (some s) l):=by
 cases o<;>simp[dP]
def iC(ps:List Pg)(hl:ps.length≤140737488355328):CallA prog 26 [.agg [.iv (.sl (ps.map Pg.c))]] [] [] [] (aB (aG ps)):=by
 refine iA func26 ntmps26 (fun w0 E0=> ?_);refine wz ?_;refine ae (ι:=Nat×Option Str) (fun i=>⟨[(11,aI (i.1:Int)),(10,aI ((ps.map Pg.c).length:Int)),(9,.iv (.sl (ps.map Pg.c))),(3,aS (i.2.getD []))],[],[]⟩) (fun i=>ps.length - i.1) (fun i=>aG ps=pS i.2 (ps.drop i.1)∧(i.2=none↔i.1=0)) (i0:=(0,none)) ?_ ⟨rfl,by simp⟩ ?_
 · exact df
 rintro ⟨i,o⟩ ⟨hi,ho⟩ K hK;dsimp only at hi ho⊢;cases hv:ps[i]? with
 |none=>
  have hlt:=fa (l:=ps.map Pg.c) (bf hv);rw[oN hv] at hi;refine wz ?_;all_goals refine bn ?_
  rw[hi];rfl
 |some p=>
  have hlt:=eZ (l:=ps.map Pg.c) (cq hv);have hlt':=eP hv;rw[eS hv,Dx] at hi;obtain⟨ks,vs⟩:=p;dsimp only at hi;cases c1:decide (((ks.map Str.c).length:Int)<1) with
  |true=>
   have e:decide (1≤ks.length)=false:=by
    simp only[decide_eq_true_eq,decide_eq_false_iff_not,lM] at c1⊢;omega
   rw[e] at hi;refine wz ?_;all_goals refine bn ?_
   rw[hi];rfl
  |false=>
  have e1:decide (1≤ks.length)=true:=by
   simp only[decide_eq_true_eq,decide_eq_false_iff_not,lM] at c1⊢;omega
  cases c2:decide ((4:Int)<((ks.map Str.c).length:Int)) with
  |true=>
   have e:decide (ks.length≤4)=false:=by simp at c2⊢;omega
   rw[e1,e] at hi;refine wz ?_;all_goals refine bn ?_
   rw[hi];rfl
  |false=>
  have e2:decide (ks.length≤4)=true:=by simp at c2⊢;omega
  cases c3:(((vs.map Str.c).length:Int) !=((ks.map Str.c).length:Int)) with
  |true=>
   have e:decide (vs.length=ks.length)=false:=by simp at c3⊢;omega
   rw[e1,e2,e] at hi;refine wz ?_;all_goals refine bn ?_
   rw[hi];rfl
  |false=>
  have e3:decide (vs.length=ks.length)=true:=by simp at c3⊢;omega
  rw[e1,e2,e3] at hi;simp only[Bool.true_and] at hi;have hk4:ks.length≤4:=by simpa using e2
  refine wz ?_;refine ae (ι:=Nat×Option Str) (fun k=>⟨[(38,aI (k.1:Int)),(37,aI ((ks.map Str.c).length:Int)),(36,.iv (.sl (ks.map Str.c))),(4,aI (i:Int)),(3,aS (k.2.getD [])),(11,aI (i:Int)),(10,aI ((ps.map Pg.c).length:Int)),(9,.iv (.sl (ps.map Pg.c)))],[],[]⟩) (fun k=>ks.length - k.1)
   (fun k=>aG ps=(dP k.2 (ks.drop k.1) && pS (pQ k.2 (ks.drop k.1)) (ps.drop (i+1)))∧(k.2=none↔(i=0∧k.1=0))) (i0:=(0,o)) ?_ ⟨hi,by simp[ho]⟩ ?_
  · exact df
  rintro ⟨k,o'⟩ ⟨hi',ho'⟩ K2 hK2;dsimp only at hi' ho'⊢;cases hw:ks[k]? with
  |none=>
   have hlt2:=fa (l:=ks.map Str.c) (bf hw);have hlk:ks.length≤k:=gO hw;rw[oN hw] at hi';refine wz ?_;refine hK _ (i+1,o') ⟨by rw[hi'];rfl,by dsimp only;rw[ho'];simp at e1;omega⟩ oD ?_;exact df
  |some s=>
   have hlt2:=eZ (l:=ks.map Str.c) (cq hw);have hlt2':=eP hw;rw[eS hw,Da] at hi';cases o' with
   |none=>
    obtain⟨rfl,rfl⟩:=ho'.1 U;refine wz ?_;refine hK2 _ (1,some s) ⟨by rw[hi'];rfl,by simp⟩ oD ?_;exact df
   |some a=>
    have hik: ¬(i=0∧k=0):=fun h=>by have:=ho'.2 h;cases this
    have hle:(Op.bytesLess s a||s==a)=decide (s≤a):=leS;cases q0:decide ((0:Int)<(i:Int)) with
    |true=>
     cases q2:decide (a<s) with
     |true=>
      have hle':(Op.bytesLess s a||s==a)=false:=by rw[hle];simpa using q2
      refine wz ?_;refine hK2 _ (k+1,some s) ⟨by rw[hi'];simp[pQ,q2],by simp⟩ oD ?_;exact df
     |false=>
      have hle':(Op.bytesLess s a||s==a)=true:=by rw[hle];simpa using q2
      refine wz ?_;all_goals refine bn ?_
      rw[hi'];simp[q2]
    |false=>
     have q1:decide ((0:Int)<(k:Int))=true:=by simp at q0⊢;omega
     cases q2:decide (a<s) with
     |true=>
      have hle':(Op.bytesLess s a||s==a)=false:=by rw[hle];simpa using q2
      refine wz ?_;refine hK2 _ (k+1,some s) ⟨by rw[hi'];simp[pQ,q2],by simp⟩ oD ?_;exact df
     |false=>
      have hle':(Op.bytesLess s a||s==a)=true:=by rw[hle];simpa using q2
      refine wz ?_;all_goals refine bn ?_
      rw[hi'];simp[q2]
def pre{α:Type}(p:α→Bool):List α→Nat
 | [] =>0
 |x::l=>if p x then pre p l+1 else 0
def Falls{α:Type}(p:α→Bool)(l:List α):Prop:= ∀(i j:Nat) (x y:α),i≤j→l[i]?=some x→l[j]?=some y→p y=true→p x=true
def jd{α:Type}(p:α→Bool): ∀l:List α,pre p l≤l.length
 | [] =>Nat.le_refl _
 |x::l=>by
  have:=jd p l;simp only[pre,lC];split<;>omega
def ve{α:Type}{p:α→Bool}: ∀{l:List α} {i:Nat} {x:α},l[i]?=some x→i<pre p l→p x=true
 | [],i,x,h,_=>by simp at h
 |y::l,0,x,h,hi=>by
  simp at h;subst h;simp only[pre] at hi;split at hi
  · assumption
  · omega
 |y::l,i+1,x,h,hi=>by
  simp only[pre] at hi;split at hi
  · exact ve (l:=l) (by simpa using h) C
  · omega
def HQ{α:Type}{p:α→Bool}: ∀{l:List α} {x:α},l[pre p l]?=some x→p x=false
 | [],x,h=>by simp at h
 |y::l,x,h=>by
  simp only[pre] at h;split at h
  · exact HQ (l:=l) (by simpa using h)
  · rename_i hp;simp at h;subst h;simpa using hp
def Falls.le{α:Type}{p:α→Bool}{l:List α}(hf:Falls p l){i:Nat}{x:α}(h:l[i]?=some x)(hp:p x=true):i<pre p l:=by
 refine Nat.lt_of_not_le (fun hle=> ?_);have hlt:=(gS h).1;obtain⟨y,hy⟩: ∃y,l[pre p l]?=some y:=⟨_,gG C⟩
 have:=hf _ _ y x hle hy h hp;rw[HQ hy] at this;cases this
def rF{α:Type}{p:α→Bool}{l:List α}{i:Nat}{x:α}(h:l[i]?=some x)(hp:p x=false):pre p l≤i:=by
 refine Nat.le_of_not_lt (fun hlt=> ?_);rw[ve h hlt] at hp;cases hp
def aW(ks:List Str)(key:Str):Nat:=pre (fun s=>decide (s<key)) ks
def bN(ks:List Str)(key:Str):Bool:=ks[aW ks key]?==some key
def Iv(i j:Nat)(h:i+j<4611686018427387904):IntKind.i64.wrap ((IntKind.u64.wrap ((i:Int)+(j:Int))).fdiv (2 ^ min (Int.toNat 1) IntKind.u64.bits))=(((i+j) / 2:Nat):Int):=by
 have h1:IntKind.u64.wrap ((i:Int)+(j:Int))=(i:Int)+j:=by rw[IntKind.wrap_u64];omega
 rw[h1];have h2:((i:Int)+(j:Int)).fdiv (2 ^ min (Int.toNat 1) IntKind.u64.bits)=((i:Int)+j) / 2:=Int.fdiv_eq_ediv_of_nonneg _ dD;rw[h2,IntKind.wrap_i64];omega
def Cq(ks:List Str)(key:Str)(hl:ks.length≤140737488355328)(hf:Falls (fun s=>decide (s<key)) ks):
 CallA prog 100 [.iv (.sl (ks.map Str.c)),aS key] [] [] [] (.tup [.iv (I (aW ks key:Int)),.iv (B (bN ks key))]):=by
 refine iA func100 ntmps100 (fun w0 E0=> ?_);have hle:=jd (fun s=>decide (s<key)) ks;refine wz ?_;refine ae (ι:=Nat×Nat) (fun i=>⟨[(7,aI (i.1:Int)),(8,aI (i.2:Int)),(6,aI ((ks.map Str.c).length:Int)),(0,.iv (.sl (ks.map Str.c))),(1,aS key)],[],[]⟩) (fun i=>i.2 - i.1) (fun i=>i.1≤aW ks key∧aW ks key≤i.2∧i.2≤ks.length) (i0:=(0,ks.length)) ?_ ⟨Nat.zero_le _,hle,Nat.le_refl _⟩ ?_
 · refine Wk.mk' kK (wF (.cons U (Sub.of_eq ?_) F3)) .nil .nil;simp
 rintro ⟨i,j⟩ ⟨h1,h2,h3⟩ K hK;dsimp only at h1 h2 h3⊢;cases hlt:decide ((i:Int)<(j:Int)) with
 |true=>
  have hij:i<j:=by simpa using hlt
  have hh:=Iv i j C;have hm:(i+j) / 2<ks.length:=C;obtain⟨s,hs⟩: ∃s,ks[(i+j) / 2]?=some s:=⟨_,gG hm⟩
  have g0:0≤IntKind.i64.wrap ((IntKind.u64.wrap ((i:Int)+(j:Int))).fdiv (2 ^ min (Int.toNat 1) IntKind.u64.bits)):=by rw[hh];omega
  have g1:(ks.map Str.c)[(IntKind.i64.wrap ((IntKind.u64.wrap ((i:Int)+(j:Int))).fdiv (2 ^ min (Int.toNat 1) IntKind.u64.bits))).toNat]?=some [S s]:=by rw[hh,iN,gP,hs];rfl
  have g2: -9223372036854775808≤IntKind.i64.wrap ((IntKind.u64.wrap ((i:Int)+(j:Int))).fdiv (2 ^ min (Int.toNat 1) IntKind.u64.bits))+1:=C;have g3:IntKind.i64.wrap ((IntKind.u64.wrap ((i:Int)+(j:Int))).fdiv (2 ^ min (Int.toNat 1) IntKind.u64.bits))+1≤9223372036854775807:=by rw[hh];omega
  cases hp:decide (s<key) with
  |true=>
   have:=hf.le hs (by simpa using hp);(repeat' first|intro hb hp|(refine LW.is ?_;first|refine ag U (cd U U g0 g1 U) ?_|refine ag U (iV U U g2 g3) ?_|refine s_C (Bo s key) ?_)|refine am ?_|refine ak ?_ ?_|fail)
   refine hK _ ((i+j) / 2+1,j) ⟨by unfold aW;omega,h2,h3⟩ oD (Wk.mk' kK (.cons U (Sub.of_eq (congrArg (fun z=>aI z) ?_)) F4) .nil .nil);rw[hh];rfl
  |false=>
   have:=rF (p:=fun s=>decide (s<key)) hs (by simpa using hp);(repeat' first|intro hb hp|(refine LW.is ?_;first|refine ag U (cd U U g0 g1 U) ?_|refine s_C (Bo s key) ?_)|refine am ?_|refine ak ?_ ?_|fail)
   refine hK _ (i,(i+j) / 2) ⟨h1,by unfold aW;omega,by dsimp only;omega⟩ oD (Wk.mk' kK (wF (.cons U (Sub.of_eq (congrArg (fun z=>aI z) ?_)) F3)) .nil .nil);rw[hh]
 |false=>
  have hij: ¬i<j:=by simpa using hlt
  obtain rfl:i=aW ks key:=C;cases hs:ks[aW ks key]? with
  |none=>
   have hlt2:=fa (l:=ks.map Str.c) (bf hs);refine wz ?_;all_goals refine bn ?_
   simp[bN,hs]
  |some s=>
   have hlt2:=eZ (l:=ks.map Str.c) (cq hs);have g1:(ks.map Str.c)[((aW ks key:Nat):Int).toNat]?=some [S s]:=by simp[hs,Str.c]
   cases hq:s==key with
   |true=>
    refine wz ?_;all_goals refine bn ?_
    simp at hq;simp[bN,hs,hq]
   |false=>
    (repeat' first|intro hb hp|refine LW.is (s_C (FO s) ?_)|refine am ?_|refine ak ?_ ?_|fail)
    all_goals refine bn ?_
    simp at hq;simp[bN,hs,hq]
def la(key:Str)(p:Pg):Bool:=decide (p.ks.headD [] ≤key)
def be(ps:List Pg)(key:Str):Nat:=pre (la key) ps - 1
def dm(ps:List Pg)(key:Str):Nat×Nat×Bool:=
 match ps[be ps key]? with
 |some p=>(be ps key,aW p.ks key,bN p.ks key)
 |none=>(0,0,false)
structure Sorted (ps:List Pg) (key:Str):Prop where
 ne: ∀p∈ps,p.ks≠ []
 len: ∀p∈ps,p.ks.length≤4
 vs: ∀p∈ps,p.vs.length=p.ks.length
 pages:Falls (la key) ps
 keys: ∀p∈ps,Falls (fun s=>decide (s<key)) p.ks
def Nd(i j:Nat):((i:Int)+(j:Int)).tdiv 2=(((i+j) / 2:Nat):Int):=by
 rw[Int.tdiv_eq_ediv_of_nonneg C];omega
def pt(ps:List Pg)(key:Str)(hl:ps.length≤140737488355328)(hs:Sorted ps key):
 CallA prog 66 [.agg [.iv (.sl (ps.map Pg.c))],aS key] [] [] [] (.tup [.iv (I ((dm ps key).1:Int)),.iv (I ((dm ps key).2.1:Int)),.iv (B (dm ps key).2.2)]):=by
 refine iA func66 ntmps66 (fun w0 E0=> ?_);have hle:=jd (la key) ps;generalize hq:pre (la key) ps=q at hle;refine wz ?_;refine ae (ι:=Nat×Nat) (fun i=>⟨[(7,aI ((i.1 - 1:Nat):Int)),(8,aI (i.1:Int)),(9,aI (i.2:Int)),(2,.ptr 2 0),(1,aS key)],[(2,⟨51,.l [.iv (.sl (ps.map Pg.c))]⟩)],[]⟩) (fun i=>i.2 - i.1) (fun i=>i.1≤q∧q≤i.2∧i.2≤ps.length) (i0:=(0,ps.length)) ?_ ⟨Nat.zero_le _,hle,Nat.le_refl _⟩ ?_
 · refine Wk.mk' kK (wF (wF (.cons U (Sub.of_eq ?_) F2))) B1 .nil;simp
 rintro ⟨i,j⟩ ⟨h1,h2,h3⟩ K hK;dsimp only at h1 h2 h3⊢;cases hlt:decide ((i:Int)<(j:Int)) with
 |true=>
  have hij:i<j:=by simpa using hlt
  have hh:=Nd i j;have hm:(i+j) / 2<ps.length:=C;obtain⟨p,hp⟩: ∃p,ps[(i+j) / 2]?=some p:=⟨_,gG hm⟩
  have hmem:=gE hp;have hne:=hs.ne p hmem;obtain⟨ks,vs⟩:=p;cases ks with
  |nil=>exact absurd U hne
  |cons s ks=>
  have g0:0≤((i:Int)+(j:Int)).tdiv 2:=by rw[hh];omega
  have g1:(ps.map Pg.c)[(((i:Int)+(j:Int)).tdiv 2).toNat]?=some [.sl ((s::ks).map Str.c),.sl (vs.map Str.c)]:=by rw[hh,iN,gP,hp];rfl
  have g2: -9223372036854775808≤((i:Int)+(j:Int)).tdiv 2+1:=C;have g3:((i:Int)+(j:Int)).tdiv 2+1≤9223372036854775807:=by rw[hh];omega
  have hleS:(Op.bytesLess s key||s==key)=decide (s≤key):=leS;cases hp':decide (s≤key) with
  |true=>
   rw[hp'] at hleS;have hlt':(i+j) / 2<q:=by
    rw[←hq];exact hs.pages.le hp (by simpa[la] using hp')
   (repeat' first|intro hb hp|(refine LW.is ?_;first|refine ag U (cd U U g0 g1 U) ?_|refine ag U (cd U U dD U U) ?_|refine ag U (iV U U g2 g3) ?_)|refine am ?_|refine ak ?_ ?_|fail)
   refine hK _ ((i+j) / 2+1,j) ⟨by omega,h2,h3⟩ oD (Wk.mk' kK (.cons U (Sub.of_eq (congrArg (fun z=>aI z) ?_)) (.cons U (Sub.of_eq (congrArg (fun z=>aI z) ?_)) F3)) B1 .nil)
   · rw[hh];simp
   · rw[hh];rfl
  |false=>
   rw[hp'] at hleS;have hlt':q≤(i+j) / 2:=by
    rw[←hq];exact rF hp (by simpa[la] using hp')
   (repeat' first|intro hb hp|(refine LW.is ?_;first|refine ag U (cd U U g0 g1 U) ?_|refine ag U (cd U U dD U U) ?_)|refine am ?_|refine ak ?_ ?_|fail)
   refine hK _ (i,(i+j) / 2) ⟨h1,by omega,by dsimp only;omega⟩ oD (Wk.mk' kK (wF (wF (.cons U (Sub.of_eq (congrArg (fun z=>aI z) ?_)) F2))) B1 .nil);rw[hh]
 |false=>
  have hij: ¬i<j:=by simpa using hlt
  obtain rfl:i=q:=C;have hpg:be ps key=i - 1:=by rw[be,hq]
  cases hp:ps[i - 1]? with
  |none=>
   have hps:ps= []:=by
    cases ps with
    |nil=>rfl
    |cons p ps=>
     have:=gO hp;simp at this hle;omega
   subst hps;refine wz ?_;all_goals refine bn ?_
   all_goals simp[dm]
  |some p=>
   have hmem:=gE hp;have hlen:=hs.len p hmem;have kb:=Cq p.ks key C (hs.keys p hmem);have hm:dm ps key=(i - 1,aW p.ks key,bN p.ks key):=by rw[dm,hpg,hp]
   rw[hm];have hne:(((ps.map Pg.c).length:Int)==0)=false:=by
    cases ps with
    |nil=>simp at hp
    |cons p ps=>simp;omega
   obtain⟨ks,vs⟩:=p;have g1:(ps.map Pg.c)[((i - 1:Nat):Int).toNat]?=some [.sl (ks.map Str.c),.sl (vs.map Str.c)]:=by rw[iN,gP,hp];rfl
   clear hij h1 h2 h3 hle hK;refine wz ?_;all_goals refine bn ?_
   all_goals rfl
end Go.Proofs.Y
namespace Go.Proofs.Y
open Go.Abs
def dp{a b c:Str}(h:a<b)(k:b<c):a<c:=List.lt_trans h k
def uY: ∀(l:List Str) (a:Str),dP (some a) l=true↔(a::l).Pairwise (· < ·)
 | [],a=>by simp[dP]
 |s::l,a=>by
  rw[dP,aE,uY l s,decide_eq_true_eq];constructor
  · rintro ⟨h1,h2⟩;refine List.pairwise_cons.2 ⟨fun x hx=> ?_,h2⟩;rcases List.mem_cons.1 hx with rfl|hx
    · exact h1
    · exact dp h1 ((List.pairwise_cons.1 h2).1 x hx)
  · intro h;have:=List.pairwise_cons.1 h;exact⟨this.1 s sP,this.2⟩
def Db: ∀(l:List Str),dP none l=true↔l.Pairwise (· < ·)
 | [] =>by simp[dP]
 |s::l=>by rw[dP,uY]
def Dm(p:Pg):Prop:=1≤p.ks.length∧p.ks.length≤4∧p.vs.length=p.ks.length
def fQ(ps:List Pg):List Str:=ps.flatMap Pg.ks
def md: ∀(l m:List Str) (o:Option Str),dP o (l++m)=(dP o l && dP (pQ o l) m)
 | [],m,o=>by simp[dP,pQ]
 |s::l,m,none=>by simp[dP,pQ,md l m]
 |s::l,m,some a=>by simp[dP,pQ,md l m,Bool.and_assoc]
def ym: ∀(ps:List Pg) (o:Option Str),pS o ps=true↔(∀p∈ps,Dm p)∧dP o (fQ ps)=true
 | [],o=>by cases o<;>simp[pS,fQ,dP]
 |p::ps,o=>by
  rw[pS];simp only[aE,decide_eq_true_eq,ym ps,fQ,List.flatMap_cons,md,List.mem_cons,forall_eq_or_imp,Dm];constructor
  · rintro ⟨a,b,c,d,e,f⟩;exact⟨⟨⟨a,b,c⟩,e⟩,d,f⟩
  · rintro ⟨⟨⟨a,b,c⟩,e⟩,d,f⟩;exact⟨a,b,c,d,e,f⟩
def eQ(ps:List Pg):aG ps=true↔(∀p∈ps,Dm p)∧(fQ ps).Pairwise (· < ·):=by
 rw[aG,ym,Db]
def nC{ks:List Str}(key:Str)(h:ks.Pairwise (· < ·)):Falls (fun s=>decide (s<key)) ks:=by
 intro i j x y hij hx hy hp;simp only[decide_eq_true_eq] at hp⊢;rcases Nat.lt_or_eq_of_le hij with h1|rfl
 · obtain⟨hi',ex⟩:=gS hx;obtain⟨hj',ey⟩:=gS hy;have:=List.pairwise_iff_getElem.1 h i j hi' hj' h1;rw[ex,ey] at this;exact dp this hp
 · rw[hx] at hy;cases hy;exact hp
def sq{ps:List Pg}(h:(fQ ps).Pairwise (· < ·)){p:Pg}(hp:p∈ps):p.ks.Pairwise (· < ·):=by
 obtain⟨a,b,rfl⟩:=List.append_of_mem hp;simp only[fQ,List.flatMap_append,List.flatMap_cons] at h;exact(List.pairwise_append.1 (List.pairwise_append.1 h).2.1).1
def dG{ps:List Pg}(key:Str)(h:aG ps=true):Sorted ps key:=by
 obtain⟨h1,h2⟩:=(eQ ps).1 h;refine⟨fun p hp e=> ?_,fun p hp=>(h1 p hp).2.1,fun p hp=>(h1 p hp).2.2,?_,fun p hp=>nC key (sq h2 hp)⟩
 · have:=(h1 p hp).1;rw[e] at this;simp at this
 · intro i j x y hij hx hy hpy;simp only[la,decide_eq_true_eq] at hpy⊢;rcases Nat.lt_or_eq_of_le hij with hlt|rfl
   · obtain⟨hi',ex⟩:=gS hx;obtain⟨hj',ey⟩:=gS hy;have hx1:=(h1 x (gE hx)).1;have hy1:=(h1 y (gE hy)).1;obtain⟨kx,vx⟩:=x;obtain⟨ky,vy⟩:=y;cases kx with
     |nil=>simp at hx1
     |cons a kx=>
      cases ky with
      |nil=>simp at hy1
      |cons b ky=>
       have hab:a<b:=by
        have hsp:ps=ps.take j++ps.drop j:=(List.take_append_drop j ps).symm;rw[hsp,fQ,List.flatMap_append] at h2;have h3:=(List.pairwise_append.1 h2).2.2;refine h3 a (List.mem_flatMap.2 ⟨⟨a::kx,vx⟩,?_,by simp⟩) b (List.mem_flatMap.2 ⟨⟨b::ky,vy⟩,?_,by simp⟩)
        · rw[←ex];exact List.mem_take_iff_getElem.2 ⟨i,by omega,rfl⟩
        · rw[←ey];exact gE (i:=0) (by rw[List.getElem?_drop,Nat.add_zero];exact gG hj')
       simp only[List.headD_cons] at hpy⊢;exact List.not_lt.1 (fun hc=>(List.not_lt.2 hpy) (dp hc hab))
   · rw[hx] at hy;cases hy;exact hpy
end Go.Proofs.Y
namespace Go.Proofs.Y
open Go.Abs Go.Proofs.Tryz
attribute [local irreducible] L Code.wp bodyPost Exit.then Exit.inBlock
def getM(ps:List Pg)(key:Str):Str×Bool:=
 if aG ps then
  match ps[be ps key]? with
  |some p=>if bN p.ks key then((p.vs[aW p.ks key]?).getD [],true) else([],false)
  |none=>([],false)
 else([],false)
def zL(ps:List Pg)(key:Str)(hl:ps.length≤140737488355328):
 CallA prog 39 [.agg [.iv (.sl (ps.map Pg.c))],aS key] [] [] [] (.tup [.iv (S (getM ps key).1),.iv (B (getM ps key).2)]):=by
 have kg:=iC ps hl;refine iA func39 ntmps39 (fun w0 E0=> ?_);cases hg:aG ps with
 |false=>
  rw[hg] at kg;have e:getM ps key=([],false):=by simp[getM,hg]
  rw[e];refine wz ?_;all_goals refine bn ?_
  all_goals rfl
 |true=>
  rw[hg] at kg;have hs:=dG key hg;have kp:=pt ps key hl hs;cases hp:ps[be ps key]? with
  |none=>
   have e:getM ps key=([],false):=by simp[getM,hp]
   have em:dm ps key=(0,0,false):=by rw[dm,hp]
   rw[e];rw[em] at kp;refine wz ?_;all_goals refine bn ?_
   all_goals rfl
  |some p=>
   have em:dm ps key=(be ps key,aW p.ks key,bN p.ks key):=by rw[dm,hp]
   rw[em] at kp;have hv:=hs.vs p (gE hp);cases hf:bN p.ks key with
   |false=>
    rw[hf] at kp;have e:getM ps key=([],false):=by simp[getM,hp,hf]
    rw[e];refine wz ?_;all_goals refine bn ?_
    all_goals rfl
   |true=>
    rw[hf] at kp;have hlt:aW p.ks key<p.vs.length:=by
     rw[hv];unfold bN at hf;have:p.ks[aW p.ks key]?=some key:=by simpa using hf
     exact(gS this).1
    obtain⟨x,hx⟩: ∃x,p.vs[aW p.ks key]?=some x:=⟨_,gG hlt⟩
    have e:getM ps key=(x,true):=by simp[getM,hg,hp,hf,hx]
    rw[e];have g1:(ps.map Pg.c)[((be ps key:Nat):Int).toNat]?=some [.sl (p.ks.map Str.c),.sl (p.vs.map Str.c)]:=by rw[iN,gP,hp];rfl
    have g2:(p.vs.map Str.c)[((aW p.ks key:Nat):Int).toNat]?=some [S x]:=by rw[iN,gP,hx];rfl
    refine wz ?_;all_goals refine bn ?_
    all_goals rfl
abbrev Pr:=Str×Str
def Pg.prs(p:Pg):List Pr:=p.ks.zip p.vs
def ax(ps:List Pg):List Pr:=ps.flatMap Pg.prs
def fw(ps:List Pg)(i k:Nat):List Pr:=match ps[i]? with
 |some p=>p.prs.drop k++ax (ps.drop (i+1))
 |none=> []
def dH(ps:List Pg)(lo hi:Str):List Pr:=
 if aG ps then(fw ps (dm ps lo).1 (dm ps lo).2.1).takeWhile (fun x=>decide (x.1<hi)) else []
def DC{ps:List Pg}{i:Nat}{p:Pg}(hp:ps[i]?=some p){k:Nat}(hk:p.prs.length≤k):fw ps i k=fw ps (i+1) 0:=by
 rw[fw,hp];simp only[dL hk,List.nil_append];rw[fw];cases hq:ps[i+1]? with
 |none=>rw[oN hq];rfl
 |some q=>rw[eS hq];simp[ax]
def DA{ps:List Pg}{i k:Nat}{p:Pg}(hp:ps[i]?=some p){s x:Str}(hs:p.ks[k]?=some s)(hx:p.vs[k]?=some x):fw ps i k=(s,x)::fw ps i (k+1):=by
 have h:p.prs[k]?=some (s,x):=by simp[Pg.prs,List.getElem?_zip_eq_some,hs,hx]
 rw[fw,fw,hp];simp only[eS h,List.cons_append]
def yt{ps:List Pg}(h: ∀p∈ps,p.ks.length≤4):(ax ps).length≤4*ps.length:=by
 induction ps with
 |nil=>simp[ax]
 |cons p ps ih=>
  have h1:=ih (fun q hq=>h q (by simp[hq]));have h2:=h p sP;have h3:p.prs.length≤4:=by simp only[Pg.prs,List.length_zip];omega
  have e:ax (p::ps)=p.prs++ax ps:=rfl;rw[e,gV,lC];omega
def yo{ps:List Pg}(h: ∀p∈ps,p.ks.length≤4)(i k:Nat):(fw ps i k).length≤4*ps.length:=by
 unfold fw;cases hp:ps[i]? with
 |none=>simp
 |some p=>
  have hi:=(gS hp).1;have h1:=yt (ps:=ps.drop (i+1)) (fun q hq=>h q (mD hq));have h2:=h p (gE hp);simp only[gV,lD,Pg.prs,List.length_zip] at h1⊢;omega
def xK(ps:List Pg)(lo hi:Str)(hl:64*ps.length≤225000000000000):
 CallA prog 54 [.agg [.iv (.sl (ps.map Pg.c))],aS lo,aS hi] [] [] [] (.tup [.iv (.sl ((dH ps lo hi).map fun x=>Str.c x.1)),.iv (.sl ((dH ps lo hi).map fun x=>Str.c x.2))]):=by
 have kg:=iC ps C;refine iA func54 ntmps54 (fun w0 E0=> ?_);cases hg:aG ps with
 |false=>
  rw[hg] at kg;have e:dH ps lo hi= []:=by simp[dH,hg]
  rw[e];refine wz ?_;all_goals refine bn ?_
  all_goals rfl
 |true=>
  rw[hg] at kg;have hs:=dG lo hg;have kp:=pt ps lo C hs;have e:dH ps lo hi=(fw ps (dm ps lo).1 (dm ps lo).2.1).takeWhile (fun x=>decide (x.1<hi)):=by simp[dH,hg]
  rw[e];clear e;generalize dm ps lo=pl at kp;obtain⟨i0,k0,ok⟩:=pl;dsimp only at kp⊢;refine wz ?_;refine L.adopt 8 (s:=8) (t:=9) (k:=1) U U U ?_;refine L.adopt 9 (s:=9) (t:=9) (k:=1) U U U ?_;have hb0:=yo hs.len i0 k0;refine ae (ι:=Nat×Nat×List Pr) (fun i=>⟨[(10,aI (i.1:Int)),(11,aI (i.2.1:Int)),(8,.row 8 (i.2.2.map fun x=>Str.c x.1)),(9,.row 9 (i.2.2.map fun x=>Str.c x.2)),(2,aS hi),(3,.ptr 3 0)],[(3,⟨51,.l [.iv (.sl (ps.map Pg.c))]⟩)],[(9,⟨9,1⟩),(8,⟨9,1⟩)]⟩) (fun i=>ps.length - i.1)
   (fun i=>(fw ps i0 k0).takeWhile (fun x=>decide (x.1<hi))=i.2.2++(fw ps i.1 i.2.1).takeWhile (fun x=>decide (x.1<hi))∧i.2.2.length+(fw ps i.1 i.2.1).length≤4*ps.length) (i0:=(i0,k0,[])) ?_ ⟨by simp,by simpa using hb0⟩ ?_
  · exact df
  rintro ⟨i,k,acc⟩ ⟨hi',hb⟩ K hK;dsimp only at hi' hb⊢;cases hp:ps[i]? with
  |none=>
   have hlt:=fa (l:=ps.map Pg.c) (bf hp);have ef:fw ps i k= []:=by rw[fw,hp]
   rw[ef] at hi';refine wz ?_;all_goals refine bn ?_
   rw[hi'];simp
  |some p=>
   have hlt:=eZ (l:=ps.map Pg.c) (cq hp);have hlt':=eP hp;have hv:=hs.vs p (gE hp);have hk4:=hs.len p (gE hp);obtain⟨ks,vs⟩:=p;dsimp only at hv hk4;have g1:(ps.map Pg.c)[((i:Nat):Int).toNat]?=some [.sl (ks.map Str.c),.sl (vs.map Str.c)]:=by rw[iN,gP,hp];rfl
   refine wz ?_;refine ae (ι:=Nat×List Pr) (fun j=>⟨[(10,aI (i:Int)),(11,aI (j.1:Int)),(8,.row 8 (j.2.map fun x=>Str.c x.1)),(9,.row 9 (j.2.map fun x=>Str.c x.2)),(2,aS hi),(3,.ptr 3 0)],[(3,⟨51,.l [.iv (.sl (ps.map Pg.c))]⟩)],[(9,⟨9,1⟩),(8,⟨9,1⟩)]⟩) (fun j=>ks.length - j.1)
    (fun j=>(fw ps i0 k0).takeWhile (fun x=>decide (x.1<hi))=j.2++(fw ps i j.1).takeWhile (fun x=>decide (x.1<hi))∧j.2.length+(fw ps i j.1).length≤4*ps.length) (i0:=(k,acc)) ?_ ⟨hi',hb⟩ ?_
   · exact df
   clear hi' hb;rintro ⟨k,acc⟩ ⟨hi',hb⟩ K2 hK2;dsimp only at hi' hb⊢;cases hw:ks[k]? with
   |none=>
    have hlt2:=fa (l:=ks.map Str.c) (bf hw);have hk:(Pg.prs ⟨ks,vs⟩).length≤k:=by
     have:=gO hw;simp[Pg.prs];omega
    rw[DC hp hk] at hi' hb;refine wz ?_;refine hK _ (i+1,0,acc) ⟨hi',hb⟩ oD ?_;exact df
   |some s=>
    have hlt2:=eZ (l:=ks.map Str.c) (cq hw);have hlt2':=eP hw;obtain⟨x,hx⟩: ∃x,vs[k]?=some x:=⟨_,gG C⟩
    have g2:(ks.map Str.c)[((k:Nat):Int).toNat]?=some [S s]:=by rw[iN,gP,hw];rfl
    have g3:(vs.map Str.c)[((k:Nat):Int).toNat]?=some [S x]:=by rw[iN,gP,hx];rfl
    rw[DA hp hw hx] at hi' hb;simp only[lC] at hb;have hge:(!(Op.bytesLess s hi))=(!decide (s<hi)):=by rw[Mk]
    cases hq:decide (s<hi) with
    |false=>
     rw[hq] at hge;refine wz ?_;all_goals refine bn ?_
     rw[hi',List.takeWhile_cons,hq];simp
    |true=>
     rw[hq] at hge;rw[List.takeWhile_cons,hq] at hi';refine wz ?_;refine L.only [10,11,8,9,2,3] ?_;refine L.retok 8 65 8 U U U U ?_;refine L.retok 9 77 9 U U U U ?_;refine hK2 _ (k+1,acc++ [(s,x)]) ⟨by rw[hi'];simp,by simp;omega⟩ oD (Wk.mk' kK (wF (wF (.cons U (Sub.of_eq (congrArg (AV.row 8) ?_)) (.cons U (Sub.of_eq (congrArg (AV.row 9) ?_)) F2)))) B1 (.cons U (.cons U .nil)))
     · simp[cY,Str.c]
     · simp[cY,Str.c]
end Go.Proofs.Y
namespace Go.Proofs.Y
open Go.Abs
def Kb{p:Pg}{x:Pr}(h:x∈p.prs):x.1∈p.ks:=(List.of_mem_zip h).1
def Fd{p:Pg}(h:p.vs.length=p.ks.length):p.prs.map Prod.fst=p.ks:=by
 unfold Pg.prs;rw[List.map_fst_zip C]
def yf{ps:List Pg}(h: ∀p∈ps,Dm p):(ax ps).map Prod.fst=fQ ps:=by
 induction ps with
 |nil=>rfl
 |cons p ps ih=>
  have e:ax (p::ps)=p.prs++ax ps:=rfl;rw[e,pA,Fd (h p sP).2.2,ih (fun q hq=>h q (by simp[hq]))];rfl
def iD(a b:List Pg):ax (a++b)=ax a++ax b:=by simp[ax]
def rg(a b:List Pg):fQ (a++b)=fQ a++fQ b:=by simp[fQ]
def jP{ps:List Pg}{x:Pr}(h:x∈ax ps):x.1∈fQ ps:=by
 obtain⟨p,hp,hx⟩:=List.mem_flatMap.1 h;exact List.mem_flatMap.2 ⟨p,hp,Kb hx⟩
def Bc{key:Str}: ∀(p:Pg),p.ks.Pairwise (· < ·)→p.prs.drop (aW p.ks key)=p.prs.filter (fun x=> !decide (x.1<key)):=by
 rintro ⟨ks,vs⟩ h;induction ks generalizing vs with
 |nil=>simp[Pg.prs]
 |cons s ks ih=>
  cases vs with
  |nil=>simp[Pg.prs]
  |cons v vs=>
   have hp:=List.pairwise_cons.1 h;have ih:=ih vs hp.2;simp only[Pg.prs,aW,pre] at ih⊢;by_cases hs:s<key
   · simp only[hs,decide_true,if_true,List.zip_cons_cons,List.drop_succ_cons,List.filter_cons,Bool.not_true,Bool.false_eq_true,if_false];exact ih
   · have all: ∀x∈(ks.zip vs),(!decide (x.1<key))=true:=by
      intro x hx;have hx1:x.1∈ks:=(List.of_mem_zip (a:=x.1) (b:=x.2) hx).1;have h1:=hp.1 _ hx1;simp only[Bool.not_eq_true',decide_eq_false_iff_not];exact fun hc=>hs (dp h1 hc)
     simp only[hs,decide_false,Bool.false_eq_true,if_false,List.zip_cons_cons,List.drop_zero,List.filter_cons,Bool.not_false,if_true];rw[List.filter_eq_self.2 all]
def Dz{ps:List Pg}(lo:Str)(h:aG ps=true):fw ps (dm ps lo).1 (dm ps lo).2.1=(ax ps).filter (fun x=> !decide (x.1<lo)):=by
 obtain⟨h1,h2⟩:=(eQ ps).1 h;have hs:=dG lo h;cases hp:ps[be ps lo]? with
 |none=>
  have:ps= []:=by
   cases ps with
   |nil=>rfl
   |cons p t=>
    have hle:=jd (la lo) (p::t);have:=gO hp;simp only[be,lC] at this hle;omega
  subst this;rfl
 |some p=>
  have em:dm ps lo=(be ps lo,aW p.ks lo,bN p.ks lo):=by rw[dm,hp]
  rw[em];dsimp only;rw[fw,hp];dsimp only;have hmem:=gE hp;have hi:=(gS hp).1;have hsplit:ps=ps.take (be ps lo)++p::ps.drop (be ps lo+1):=by
   rw[←eS hp,List.take_append_drop]
  have hk:=sq h2 hmem;have hkeys:=h2;rw[hsplit,rg] at hkeys;have hcons:fQ (p::ps.drop (be ps lo+1))=p.ks++fQ (ps.drop (be ps lo+1)):=rfl;rw[hcons] at hkeys;obtain⟨_,hr,hcross⟩:=List.pairwise_append.1 hkeys;obtain⟨_,_,hcross2⟩:=List.pairwise_append.1 hr;have hne:=(h1 p hmem).1;have before:(ax (ps.take (be ps lo))).filter (fun x=> !decide (x.1<lo))= []:=by
   rw[List.filter_eq_nil_iff];intro x hx;have hx1:=jP hx;have hpos:0<be ps lo:=by
    refine Nat.pos_of_ne_zero (fun e=> ?_);rw[e] at hx;simp[ax] at hx
   have hq:be ps lo<pre (la lo) ps:=by unfold be at hpos⊢;omega
   have hf:=ve hp hq;obtain⟨ks,vs⟩:=p;cases ks with
   |nil=>simp at hne
   |cons s ks=>
    have hlt:=hcross x.1 hx1 s sP;have hf:s≤lo:=of_decide_eq_true hf;have:x.1<lo:=by
     refine List.not_le.1 (fun hc=> ?_);exact absurd hlt (List.not_lt.2 (List.le_trans hf hc))
    simp[this]
  have after:(ax (ps.drop (be ps lo+1))).filter (fun x=> !decide (x.1<lo))=ax (ps.drop (be ps lo+1)):=by
   rw[List.filter_eq_self];intro x hx;cases hq:ps.drop (be ps lo+1) with
   |nil=>rw[hq] at hx;simp[ax] at hx
   |cons q t=>
    have hq1:ps[be ps lo+1]?=some q:=by
     have:=congrArg (fun l=>l[0]?) hq;simpa using this
    have hnot:la lo q=false:=by
     cases hfl:la lo q with
     |false=>rfl
     |true=>
      have:=hs.pages.le hq1 hfl;unfold be at this;omega
    have hqmem:=gE hq1;have hqne:=(h1 q hqmem).1;have hx1:=jP hx;rw[hq] at hx1;have hsub:(fQ (q::t)).Pairwise (· < ·):=by
     have:=(List.pairwise_append.1 hr).2.1
     rwa [hq] at this
    obtain⟨ks,vs⟩:=q;cases ks with
    |nil=>simp at hqne
    |cons s ks=>
     have hnot: ¬s≤lo:=of_decide_eq_false hnot;have hlo:lo<s:=List.not_le.1 hnot;have hge:x.1=s∨s<x.1:=by
      have e:fQ (⟨s::ks,vs⟩::t)=s::(ks++fQ t):=rfl;rw[e] at hx1 hsub;rcases List.mem_cons.1 hx1 with h|h
      · exact .inl h
      · exact .inr ((List.pairwise_cons.1 hsub).1 _ h)
     have: ¬x.1<lo:=by
      rcases hge with h|h
      · rw[h];exact List.lt_asymm hlo
      · exact List.lt_asymm (dp hlo h)
     simp[this]
  have hflat:ax ps=ax (ps.take (be ps lo))++(p.prs++ax (ps.drop (be ps lo+1))):=by
   conv=>lhs;rw[hsplit]
   rw[iD];rfl
  rw[hflat,List.filter_append,List.filter_append,before,after,←Bc p hk];rfl
def td{hi:Str}: ∀{l:List Pr},(l.map Prod.fst).Pairwise (· < ·)→l.takeWhile (fun x=>decide (x.1<hi))=l.filter (fun x=>decide (x.1<hi))
 | [],_=>rfl
 |x::l,h=>by
  simp only[List.map_cons] at h;have hp:=List.pairwise_cons.1 h;rw[List.takeWhile_cons,List.filter_cons];by_cases hx:x.1<hi
  · simp only[hx,decide_true,if_true];rw[td hp.2]
  · simp only[hx,decide_false,Bool.false_eq_true,if_false];rw[eq_comm,List.filter_eq_nil_iff];intro y hy;have:=hp.1 y.1 (List.mem_map.2 ⟨y,hy,rfl⟩);simp only[decide_eq_true_eq];exact fun hc=>hx (dp this hc)
def xI{ps:List Pg}(lo hi:Str)(h:aG ps=true):dH ps lo hi=(ax ps).filter (fun x=> !decide (x.1<lo) && decide (x.1<hi)):=by
 obtain⟨h1,h2⟩:=(eQ ps).1 h;have hk:((ax ps).map Prod.fst).Pairwise (· < ·):=by rw[yf h1];exact h2
 rw[dH,if_pos h,Dz lo h,td,List.filter_filter]
 · congr 1;funext x;rw[Bool.and_comm]
 · exact hk.sublist (List.Sublist.map _ List.filter_sublist)
end Go.Proofs.Y
namespace Go.Proofs.Y
open Go.Abs
attribute [local irreducible] L Code.wp bodyPost Exit.then Exit.inBlock
def xH(ps:List Pg)(lo hi:Str):(dH ps lo hi).length≤4*ps.length:=by
 unfold dH;split
 · rename_i hg;exact Nat.le_trans (List.takeWhile_sublist _).length_le (yo (dG lo hg).len _ _)
 · simp
end Go.Proofs.Y
namespace Go.Proofs.Y
open Go.Abs Go.Proofs.Tryz
attribute [local irreducible] L Code.wp bodyPost Exit.then Exit.inBlock
def DT(es:List (List IV))(hk: ∀e∈es,e.length=1)(hne:es≠ [])(hm:es.length≤maxLen)(hl:es.length*16≤140737488355328):
 CallA prog 51 [.iv (.sl es)] [] [(1000,⟨9,.r es.flatten 0⟩)] [] (.bsh 1000 0 es.length 1):=by
 refine iA func51 ntmps51 (fun w0 E0=> ?_);(repeat' first|intro hb hp|(refine LW.is ?_;first|apply ag;rfl;apply ju;rfl;rfl;exact hne|apply dA;rfl;rfl;rfl;rfl;rfl|apply jv 1000;rfl;rfl;rfl;exact hk;exact hne;exact hm;exact hl;rfl)|refine am ?_|refine ak ?_ ?_|fail)
 all_goals(apply L.ends;rfl;rfl;exact fR;exact Wk.mk' kK .nil B1 .nil)
def DV(es:List (List IV))(hk: ∀e∈es,e.length=2)(hne:es≠ [])(hm:es.length≤maxLen)(hl:es.length*48≤140737488355328):
 CallA prog 160 [.iv (.sl es)] [] [(1000,⟨93,.r es.flatten 0⟩)] [] (.bsh 1000 0 es.length 2):=by
 refine iA func160 ntmps160 (fun w0 E0=> ?_);(repeat' first|intro hb hp|(refine LW.is ?_;first|apply ag;rfl;apply ju;rfl;rfl;exact hne|apply dA;rfl;rfl;rfl;rfl;rfl|apply jv 1000;rfl;rfl;rfl;exact hk;exact hne;exact hm;exact hl;rfl)|refine am ?_|refine ak ?_ ?_|fail)
 all_goals(apply L.ends;rfl;rfl;exact fR;exact Wk.mk' kK .nil B1 .nil)
def DU:
 CallA prog 160 [.iv (.sl [])] [] [] [] (.iv (.sl [])):=by
 refine iA func160 ntmps160 (fun w0 E0=> ?_);(repeat' first|intro hb hp|apply jW;rfl;rfl;rfl;rintro (_|_)|(refine LW.is ?_;first|apply ag;rfl;apply LN;rfl;rfl)|refine am ?_|refine ak ?_ ?_|fail)
 all_goals refine bn ?_
 all_goals rfl
end Go.Proofs.Y
