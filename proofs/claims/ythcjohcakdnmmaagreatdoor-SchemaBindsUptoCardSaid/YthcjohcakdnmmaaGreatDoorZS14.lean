/- Several texts in one, each with its own sentence ahead of it. Conditions: each one says its own. -/
import Derived.KernelRfl
import Derived.Test.YthcjohcakdnmmaaGreatDoorChecked
import Derived.Test.YthcjohcakdnmmaaGreatDoorZS13
set_option linter.all false
namespace Go.Abs
variable [Dr]
set_option linter.unusedSectionVars false
set_option linter.unusedVariables false
theorem n_some{α:Type}{X:Option α}{l l':α}(h:X=some l)(hl:l=l'):X=some l':=h.trans (congrArg some hl)
theorem nl_nil{α:Type}{X:List α}(h:X= []):X= []:=h
theorem nl_cons{α:Type}{X:List α}{x x':α}{t t':List α}(h:X=x::t)(hx:x=x')(ht:t=t'):X=x'::t':=by rw[h,hx,ht]
theorem nIm{x:AV}{v:Value}(h:x= .iv (.im v)):x= .iv (.im v):=h
theorem nSl{x:AV}{es:List (List IV)}(h:x= .iv (.sl es)):x= .iv (.sl es):=h
theorem nIv{x:AV}{y:IV}(h:x= .iv y):x= .iv y:=h
theorem nRow{x:AV}{id:Nat}{es:List (List IV)}(h:x= .row id es):x= .row id es:=h
theorem nEmp{x:AV}(h:x= .emp):x= .emp:=h
theorem nNil{x:AV}(h:x= .nils):x= .nils:=h
theorem nPtr{x:AV}{id off:Nat}(h:x= .ptr id off):x= .ptr id off:=h
theorem nBsh{x:AV}{id off n k:Nat}(h:x= .bsh id off n k):x= .bsh id off n k:=h
theorem nBsl{x:AV}{id off n cap:Nat}(h:x= .bsl id off n cap):x= .bsl id off n cap:=h
theorem nAny{x:AV}(h:x= .any):x= .any:=h
theorem nAgg{x:AV}{cs:List AV}(h:x= .agg cs):x= .agg cs:=h
theorem nEl{x:AV}{cs:List IV}(h:x= .el cs):x= .el cs:=h
theorem nTup{x:AV}{cs:List AV}(h:x= .tup cs):x= .tup cs:=h
theorem nFn{x:AV}{f:FuncId}{cs:List AV}(h:x= .fn f cs):x= .fn f cs:=h
theorem nIIm{x:IV}{v:Value}(h:x= .im v):x= .im v:=h
theorem nISl{x:IV}{es:List (List IV)}(h:x= .sl es):x= .sl es:=h
theorem getS{α:Type}{m:List α}{i:Nat}{b:α}(h:m[i]?=some b):m[((i:Nat):Int).toNat]?=some b:=by simpa using h
theorem ltT{α:Type}{l:List α}{i:Nat}{v:α}(h:l[i]?=some v):decide ((i:Int)<(l.length:Int))=true:=by
 have:=(List.getElem?_eq_some_iff.1 h).1
 simpa using this
theorem ltF{α:Type}{l:List α}{i:Nat}(h:l[i]?=none):decide ((i:Int)<(l.length:Int))=false:=by
 have:=List.getElem?_eq_none_iff.1 h
 simpa using this
theorem getF{α β:Type}{f:α→β}{l:List α}{i:Nat}{v:α}(h:l[i]?=some v):(l.map f)[i]?=some (f v):=by simp[h]
theorem getFN{α β:Type}{f:α→β}{l:List α}{i:Nat}(h:l[i]?=none):(l.map f)[i]?=none:=by simpa using h
theorem len_nil{k:Nat}: ∀e∈([]:List (List IV)),e.length=k:=fun e h=>by cases h
theorem len_app{k:Nat}{a b:List (List IV)}(h1: ∀e∈a,e.length=k)(h2: ∀e∈b,e.length=k): ∀e∈a++b,e.length=k:=fun e h=>(List.mem_append.1 h).elim (h1 e) (h2 e)
theorem len_map{α:Type}{k:Nat}{f:α→List IV}{l:List α}(h: ∀x,(f x).length=k): ∀e∈l.map f,e.length=k:=fun e he=>by
 obtain⟨x,_,rfl⟩:=List.mem_map.1 he;exact h x
theorem len_cons{k:Nat}{a:List IV}{l:List (List IV)}(h:a.length=k)(t: ∀e∈l,e.length=k): ∀e∈a::l,e.length=k:=fun e he=>by
 rcases List.mem_cons.1 he with rfl|he
 · exact h
 · exact t e he
theorem len_chunks{k:Nat}: ∀{n:Nat} {xs:List IV},xs.length=n*k→ ∀e∈chunks k n xs,e.length=k
 |0,_,_,e,he=>by cases he
 |n+1,xs,h,e,he=>by
  rw[Nat.add_mul,Nat.one_mul] at h
  simp only[chunks,List.mem_cons] at he
  rcases he with rfl|he
  · simp;omega
  · exact len_chunks (n:=n) (xs:=xs.drop k) (by simp;omega) e he
theorem ltN{α:Type}{l:List α}{i:Nat}{v:α}(h:l[i]?=some v):i<l.length:=(List.getElem?_eq_some_iff.1 h).1
theorem dropC{α:Type}{l:List α}{i:Nat}{v:α}(h:l[i]?=some v):l.drop i=v::l.drop (i+1):=by
 obtain⟨hl,hv⟩:=List.getElem?_eq_some_iff.1 h
 rw[List.drop_eq_getElem_cons hl,hv]
theorem dropN{α:Type}{l:List α}{i:Nat}(h:l[i]?=none):l.drop i= []:=List.drop_eq_nil_of_le (List.getElem?_eq_none_iff.1 h)
theorem takeC{α:Type}{l:List α}{i:Nat}{v:α}(h:l[i]?=some v):l.take (i+1)=l.take i++ [v]:=by
 rw[List.take_add_one,h];rfl
theorem takeN{α:Type}{l:List α}{i:Nat}(h:l[i]?=none):l.take i=l:=List.take_of_length_le (List.getElem?_eq_none_iff.1 h)
section
variable {P:Program}{c:Ctx}{st:St}
def St.only(l:List Nat)(st:St):St:=⟨l.filterMap fun s=>(st.fr.lookup s).map fun v=>(s,v),st.bx,st.tk⟩
theorem only_get(fr:List (Nat×AV)): ∀(l:List Nat) (s:Nat) (v:AV),(l.filterMap fun s=>(fr.lookup s).map fun v=>(s,v)).lookup s=some v→fr.lookup s=some v
 | [],s,v,h=>by simp at h
 |a::l,s,v,h=>by
  cases hq:fr.lookup a with
  |none=>simp only[List.filterMap_cons,hq,Option.map_none] at h;exact only_get fr l s v h
  |some u=>
   simp only[List.filterMap_cons,hq,Option.map_some] at h
   by_cases e:s=a
   · subst e;rw[lookup_cons_eq] at h;cases h;exact hq
   · rw[lookup_cons_ne e] at h;exact only_get fr l s v h
theorem L.only(l:List Nat){X:Act→World→Prop}(h:L c (st.only l) X):L c st X:=fun a w hr=>by
 obtain⟨E,hi⟩:=hr
 exact h a w ⟨E,hi.defers,hi.size,fun s v hv=>hi.slot s v (only_get st.fr l s v hv),hi.heap⟩
def St.onlyS(l b:List Nat)(st:St):St:=⟨l.filterMap fun s=>(st.fr.lookup s).map fun v=>(s,v),b.filterMap fun s=>(st.bx.lookup s).map fun v=>(s,v),st.tk⟩
theorem only_getB(fr:List (Nat×Box)): ∀(l:List Nat) (s:Nat) (v:Box),(l.filterMap fun s=>(fr.lookup s).map fun v=>(s,v)).lookup s=some v→fr.lookup s=some v
 | [],s,v,h=>by simp at h
 |a::l,s,v,h=>by
  cases hq:fr.lookup a with
  |none=>simp only[List.filterMap_cons,hq,Option.map_none] at h;exact only_getB fr l s v h
  |some u=>
   simp only[List.filterMap_cons,hq,Option.map_some] at h
   by_cases e:s=a
   · subst e;rw[lookup_cons_eq] at h;cases h;exact hq
   · rw[lookup_cons_ne e] at h;exact only_getB fr l s v h
theorem L.onlyS(l b:List Nat){X:Act→World→Prop}(hin:c.ins.all (fun i=>((st.onlyS l b).bx.lookup i).isSome)=true)(h:L c (st.onlyS l b) X):L c st X:=
 .wk ⟨fun id hid=>List.all_eq_true.1 hin id hid,fun s v hv=>⟨v,only_get st.fr l s v hv,Sub.refl _⟩,fun id bb hb=>⟨bb,only_getB st.bx b id bb hb,rfl,Subs.refl _⟩,fun id t ht=>ht⟩ h
theorem L.loopP{ι:Type}{Q:Exit→Act→World→Prop}(inv:ι→St)(n:ι→Nat)(I:ι→Prop){i0:ι}(h0:Wk c st (inv i0))(p0:I i0){x:Code}
 (h: ∀i,I i→ ∀K:Act→World→Prop,(∀st' i',I i'→n i'<n i→Wk c st' (inv i')→L c st' K)→L c (inv i) (x.wp P (Exit.then K Q))):L c st ((Code.loop x).wp P Q):=
 L.loop (ι:={i:ι // I i}) (fun i=>inv i.1) (fun i=>n i.1) (i0:=⟨i0,p0⟩) h0 fun i K hK=>h i.1 i.2 K fun st' i' hi' hn hw=>hK st' ⟨i',hi'⟩ hn hw
theorem pubs_length: ∀l:List AV,(AV.pub.pubs l).length=l.length
 | [] =>rfl
 |_::l=>by simp[AV.pub.pubs,pubs_length l]
theorem Sub.resOf{vs:List AV}:Sub (Go.Abs.resOf vs) (Go.Abs.resOf (AV.pub.pubs vs)):=by
 match vs with
 | [] =>exact Sub.refl _
 | [v] =>exact Sub.pub v
 |v::w::r=>exact Sub.tup (Subs.pubs (v::w::r))
theorem L.endsP{fn:Func}{bx':List (Nat×Box)}{res:AV}{rs:List ResultVar}{vs:List AV}(hfn:fn.results=rs.toArray)(hv:(st.ress P rs).map AV.pub.pubs=some vs)(hi:c.ins= [])(he:resOf vs=res):
 L c st (bodyPost P fn (Post c [] [] res) .ret):=by
 cases h:st.ress P rs with
 |none=>rw[h] at hv;cases hv
 |some us=>rw[h] at hv;cases hv;exact L.ends hfn h (he▸Sub.resOf) (Wk.none hi)
theorem L.endsPN{fn:Func}{bx':List (Nat×Box)}{res:AV}{rs:List ResultVar}{vs:List AV}(hfn:fn.results=rs.toArray)(hv:(st.ress P rs).map AV.pub.pubs=some vs)(hi:c.ins= [])(he:resOf vs=res):
 L c st (bodyPost P fn (Post c [] [] res) .normal):=by
 cases h:st.ress P rs with
 |none=>rw[h] at hv;cases hv
 |some us=>rw[h] at hv;cases hv;exact L.endsN hfn h (he▸Sub.resOf) (Wk.none hi)
section
variable {fn:Func}{res:AV}{rs:List ResultVar}{y z u:IV}{cs:List AV}
theorem L.ends1(hfn:fn.results=rs.toArray)(hv:(st.ress P rs).map AV.pub.pubs=some [.iv y])(hi:c.ins= [])(he:AV.iv y=res):L c st (bodyPost P fn (Post c [] [] res) .ret):=L.endsP (bx':= []) hfn hv hi he
theorem L.ends1A(hfn:fn.results=rs.toArray)(hv:(st.ress P rs).map AV.pub.pubs=some [.agg cs])(hi:c.ins= [])(he:AV.agg cs=res):L c st (bodyPost P fn (Post c [] [] res) .ret):=L.endsP (bx':= []) hfn hv hi he
theorem L.ends2(hfn:fn.results=rs.toArray)(hv:(st.ress P rs).map AV.pub.pubs=some [.iv y,.iv z])(hi:c.ins= [])(he:AV.tup [.iv y,.iv z] =res):L c st (bodyPost P fn (Post c [] [] res) .ret):=L.endsP (bx':= []) hfn hv hi he
theorem L.ends2A(hfn:fn.results=rs.toArray)(hv:(st.ress P rs).map AV.pub.pubs=some [.agg cs,.iv z])(hi:c.ins= [])(he:AV.tup [.agg cs,.iv z] =res):L c st (bodyPost P fn (Post c [] [] res) .ret):=L.endsP (bx':= []) hfn hv hi he
theorem L.ends3A(hfn:fn.results=rs.toArray)(hv:(st.ress P rs).map AV.pub.pubs=some [.agg cs,.iv z,.iv u])(hi:c.ins= [])(he:AV.tup [.agg cs,.iv z,.iv u] =res):L c st (bodyPost P fn (Post c [] [] res) .ret):=L.endsP (bx':= []) hfn hv hi he
theorem L.ends3(hfn:fn.results=rs.toArray)(hv:(st.ress P rs).map AV.pub.pubs=some [.iv y,.iv z,.iv u])(hi:c.ins= [])(he:AV.tup [.iv y,.iv z,.iv u] =res):L c st (bodyPost P fn (Post c [] [] res) .ret):=L.endsP (bx':= []) hfn hv hi he
end
end
end Go.Abs
namespace Go.Abs
variable [Dr]
set_option linter.unusedSectionVars false
open Go.RowKit (Below)
set_option linter.unusedVariables false
def lawEnv(φ:Nat→Nat):Env:=⟨φ,fun _=>0,fun _=> .slice none 0 0⟩
theorem law_calls{P:Program}{f:FuncId}{avs:List AV}(hc:CallA P f avs [] [] [] (aB true)){W:World}{us:List Value}(φ:Nat→Nat)(hφ: ∀b,W.heap.size≤b→φ b=0)(hr:RelL (lawEnv φ) W avs us):
 Calls P f us.toArray W fun e w'=>e= .returned (.bool true)∧Below W.heap.size W w':=by
 refine(hc (lawEnv φ) W us hr ?_).mono ?_
 · exact⟨fun id b h=>by simp at h,fun id t h=>by simp at h,fun i j b b' h=>by simp at h,fun i j t t' g h=>by simp at h,fun i j b t h=>by simp at h,fun i b h=>by simp at h,fun i t g h=>by simp at h,
    hφ,fun b _=>rfl,fun id h=>by simp[keys] at h,KeptBut.refl _ _⟩
 · rintro e w' ⟨u,E',he,hu,hh⟩
   have hv:=hu.iv_im
   subst hv
   refine⟨he,?_⟩
   have hk:=hh.kept
   exact⟨hk.os,hk.tape,hk.output,hk.size,fun k hlt=>hk.block k hlt (fun⟨id,hid,_⟩=>by simp[keys] at hid)⟩
theorem RelL.cons{E:Env}{w:World}{v:AV}{u:Value}{vs:List AV}{us:List Value}(h:RepA E w v u)(t:RelL E w vs us):RelL E w (v::vs) (u::us):=
 ⟨by simp[t.1],fun i c x hc hx=>by
   cases i with
   |zero=>simp at hc hx;subst hc;subst hx;exact h
   |succ i=>exact t.2 i c x (by simpa using hc) (by simpa using hx)⟩
end Go.Abs
namespace Go.Abs
variable [Dr]
set_option linter.unusedSectionVars false
set_option linter.unusedVariables false
section
variable {P:Program}{c:Ctx}{fr:List (Nat×AV)}{bx:List (Nat×Box)}{tk:List (Nat×Tok)}{ops:Array Oper}{Q:Exit→Act→World→Prop}{rest:List Oper}{d:Nat}{ty:TypeId}{pos:String}{aft:Array Edge}{st0:St}{done:List Eff}
theorem fct{p q X:Prop}(hb:p)(k:q→X)(hq:p→q:=by(intro hp;(try simp only[decide_eq_true_eq,decide_eq_false_iff_not,beq_iff_eq,beq_eq_false_iff_ne,bne_iff_ne,bne_eq_false_iff_eq,ne_eq,Bool.not_eq_true,Bool.not_eq_false,Bool.not_eq_eq_eq_not,Bool.not_true,Bool.not_false,Bool.or_eq_true,Bool.or_eq_false_iff,Bool.and_eq_true,Bool.and_eq_false_iff,Int.not_lt,Int.not_le] at hp);exact hp)):X:=k (hq hb)
theorem nvq{x y:AV}(h:x=y:=by(first|exact nIm rfl|exact nSl rfl|exact nIv rfl|exact nPtr rfl|exact nRow rfl|exact nNil rfl|exact nEmp rfl|exact nBsh rfl|exact nBsl rfl|exact nAny rfl|exact nAgg rfl|exact nEl rfl|exact nTup rfl|exact nFn rfl|exact rfl)):x=y:=h
theorem nlq{α:Type}{X Y:List α}(h:X=Y:=by(focus repeat' (first|exact nl_nil rfl|(apply nl_cons;exact rfl)|exact nIm rfl|exact nSl rfl|exact nIv rfl|exact nRow rfl|exact nNil rfl|exact nPtr rfl|exact nBsh rfl|exact nBsl rfl|exact nAny rfl|exact nIIm rfl|exact nISl rfl|exact rfl))):X=Y:=h
theorem lnq{es:List (List IV)}{k:Nat}(h: ∀e∈es,e.length=k:=by(focus repeat' (first|exact len_nil|apply len_app|(refine len_map (fun x=>rfl))|(refine len_cons rfl ?_)|exact len_chunks rfl|assumption))): ∀e∈es,e.length=k:=h
theorem v_bin{st:St}{b:BinOp}{x y:Operand}{t t':TypeId}{v:AV}{tb:List Nat}(h:VV P c st ⟨some d,.binOp b t x y t',ty,pos,aft,none⟩ v tb):VV P c st ⟨some d,.binOp b t x y t',ty,pos,aft,none⟩ v tb:=h
theorem vlq{st:St}{v:AV}{tb:List Nat}{op:Op}(h:VV P c st ⟨some d,op,ty,pos,aft,none⟩ v tb:=by(first|(apply v_load1P;exact rfl;exact rfl;(apply n_some;exact rfl;exact nvq))|(apply v_fieldP;exact rfl;exact rfl)|(apply v_mv;exact nvq)|(apply v_as;exact nvq)|(apply v_loadAP;exact rfl;exact rfl;exact nlq;exact rfl)|(apply v_fieldE;exact rfl;exact rfl)|(apply v_load1E;exact rfl;exact rfl)|(apply v_loadAE;exact rfl;exact nlq;exact rfl)|(apply v_extract;exact rfl;(apply n_some;exact rfl;exact nvq))|(apply v_nilP;exact rfl)|(apply v_nilE;exact rfl)|(apply v_fieldV;exact rfl;(apply n_some;exact rfl;exact nvq))|(apply v_bin;first|(apply v_eqlI;exact rfl;exact rfl)|(apply v_neqI;exact rfl;exact rfl)|(apply v_lssI;exact rfl;exact rfl)|(apply v_leqI;exact rfl;exact rfl)|(apply v_gtrI;exact rfl;exact rfl)|(apply v_geqI;exact rfl;exact rfl)|(apply v_eqlS;exact rfl;exact rfl)|(apply v_neqS;exact rfl;exact rfl)|(apply v_lssS;exact rfl;exact rfl)|(apply v_leqS;exact rfl;exact rfl)|(apply v_gtrS;exact rfl;exact rfl)|(apply v_geqS;exact rfl;exact rfl)|(apply v_eqlB;exact rfl;exact rfl)|(apply v_neqB;exact rfl;exact rfl)|(apply v_eqlPN;exact rfl;exact rfl)|(apply v_neqPN;exact rfl;exact rfl)|(apply v_eqlPP;exact rfl;exact rfl)|(apply v_neqPP;exact rfl;exact rfl)|(apply v_eqlAgg;exact rfl;exact rfl;exact rfl;exact rfl)|(apply v_neqAgg;exact rfl;exact rfl;exact rfl;exact rfl)|(apply v_addI;exact rfl;exact rfl;(first|omega|decide|(dsimp only;omega));(first|omega|decide|(dsimp only;omega)))|(apply v_subI;exact rfl;exact rfl;(first|omega|decide|(dsimp only;omega));(first|omega|decide|(dsimp only;omega)))|(apply v_mulI;exact rfl;exact rfl;(first|omega|decide|(dsimp only;omega));(first|omega|decide|(dsimp only;omega)))|(apply v_addS;exact rfl;exact rfl;(first|omega|(dsimp only;omega)|(simp;done)|(simp;omega)))|(apply v_shrI;exact rfl;exact rfl;(first|decide|omega|(dsimp only;omega)))|(apply v_shlI;exact rfl;exact rfl;(first|decide|omega|(dsimp only;omega)))|(apply v_orI;exact rfl;exact rfl)|(apply v_and1;exact rfl;exact rfl)|(apply v_quoI;exact rfl;exact rfl;(first|decide|omega|(dsimp only;omega));(first|omega|decide|(dsimp only;omega));(first|omega|decide|(dsimp only;omega)))|(apply v_remI;exact rfl;exact rfl;(first|decide|omega|(dsimp only;omega))))|(apply v_lenS;exact rfl)|(apply v_lenSl;exact rfl)|(apply v_not;exact rfl)|(apply v_build;exact rfl;(apply n_some;exact rfl;exact nlq))|(apply v_convU8;exact rfl)|(apply v_conv;exact rfl)|(apply v_bytesS;exact rfl)|(apply v_indexS;exact rfl;exact rfl;(first|omega|decide|(dsimp only;omega));(exact getS (by assumption)))|(apply v_indexD;exact rfl;exact rfl;(first|omega|decide|(dsimp only;omega));(first|omega|decide|(dsimp only;omega)))|(apply v_indexA;exact rfl;exact rfl;(first|omega|decide|(dsimp only;omega));(exact Go.Abs.getM (by assumption));exact rfl)|(apply v_indexA;exact rfl;exact rfl;(first|omega|decide|(dsimp only;omega));assumption;exact rfl)|(apply v_idxB;exact rfl;exact rfl)|(apply v_min2;exact rfl;exact rfl)|(apply v_max2;exact rfl;exact rfl)|(apply v_lenBsl;exact rfl)|(apply v_lenBsh;exact rfl)|(apply v_capBsl;exact rfl)|(apply v_pickT;exact rfl;(first|exact rfl|assumption);exact nvq)|(apply v_pickF;exact rfl;(first|exact rfl|assumption);exact nvq)|(apply v_negI;exact rfl;(first|omega|decide|(dsimp only;omega));(first|omega|decide|(dsimp only;omega)))|(apply v_makeFunc;exact nlq))):VV P c st ⟨some d,op,ty,pos,aft,none⟩ v tb:=h
theorem s_v{v:AV}{tb:List Nat}{op:Op}(h:LW P c ⟨(d,v)::fr,bx,tk⟩ ops Q rest)(hlt:Nat.ble (d+1) c.nt=true:=by exact rfl)(hv:VV P c ⟨fr,bx,tk⟩ ⟨some d,op,ty,pos,aft,none⟩ v tb:=by exact vlq):LW P c ⟨fr,bx,tk⟩ ops Q (⟨some d,op,ty,pos,aft,none⟩::rest):=s_vr hlt hv h
theorem d_v{v:AV}{tb:List Nat}{op:Op}(h:DR P c ops Q st0 (⟨some (d,v),[],[],[],tb,[],[]⟩::done) ⟨(d,v)::fr,bx,tk⟩ rest)(hlt:Nat.ble (d+1) c.nt=true:=by exact rfl)(hv:VV P c ⟨fr,bx,tk⟩ ⟨some d,op,ty,pos,aft,none⟩ v tb:=by exact vlq):DR P c ops Q st0 done ⟨fr,bx,tk⟩ (⟨some d,op,ty,pos,aft,none⟩::rest):=d_vr hlt hv h
theorem s_m{st st':St}{o:Oper}(h:LW P c st' ops Q rest)(hs:LW P c st' ops Q rest→LW P c st ops Q (o::rest):=by(intro hq;(first|(apply s_box;exact rfl;exact rfl;exact rfl;exact nlq;exact rfl;exact rfl;exact hq)|(apply s_alloc;exact rfl;exact rfl;exact nlq;exact rfl;exact rfl;exact hq)|(apply s_store;exact rfl;exact rfl;exact rfl;exact rfl;exact rfl;exact rfl;exact nlq;exact hq)|(apply s_bslice;exact rfl;exact rfl;exact rfl;exact rfl;exact rfl;(apply n_some;exact rfl;exact nlq);(apply n_some;exact rfl;exact nlq);exact rfl;exact nlq;exact rfl;exact hq)|(apply s_append;exact rfl;exact rfl;exact rfl;exact rfl;exact lnq;exact lnq;(first|(simp[maxLen,chunks_length];done)|(simp[maxLen,chunks_length];omega));(first|(simp[maxLen,chunks_length];done)|(simp[maxLen,chunks_length];omega));exact rfl;exact rfl;exact hq)|(apply s_appendNil;exact rfl;exact rfl;exact rfl;exact lnq;(first|(simp[maxLen,chunks_length];done)|(simp[maxLen,chunks_length];omega));(first|(simp[maxLen,chunks_length];done)|(simp[maxLen,chunks_length];omega));exact rfl;exact hq)|(apply s_appendS;exact rfl;exact rfl;exact rfl;exact rfl;exact lnq;(first|(simp[maxLen,chunks_length];done)|(simp[maxLen,chunks_length];omega));(first|(simp[maxLen,chunks_length];done)|(simp[maxLen,chunks_length];omega));exact rfl;exact rfl;exact hq)|(apply s_strBytes;exact rfl;exact rfl;exact rfl;(first|omega|(dsimp only;omega)|(simp;done)|(simp;omega));exact hq)|(apply s_gskipT;exact rfl;exact rfl;exact rfl;(first|exact rfl|assumption);exact hq)|(apply s_gskipF;exact rfl;exact rfl;exact rfl;(first|exact rfl|assumption);exact hq)|(apply s_gskipU;exact rfl;exact rfl;exact rfl;exact hq)))):LW P c st ops Q (o::rest):=hs h
theorem d_m{st st':St}{done':List Eff}{o:Oper}(h:DR P c ops Q st0 done' st' rest)(hs:DR P c ops Q st0 done' st' rest→DR P c ops Q st0 done st (o::rest):=by(intro hq;(first|(apply d_box;exact rfl;exact rfl;exact rfl;exact nlq;exact rfl;exact rfl;exact hq)|(apply d_alloc;exact rfl;exact rfl;exact nlq;exact rfl;exact rfl;exact hq)|(apply d_store;exact rfl;exact rfl;exact rfl;exact rfl;exact rfl;exact rfl;exact nlq;exact hq)|(apply d_bslice;exact rfl;exact rfl;exact rfl;exact rfl;exact rfl;(apply n_some;exact rfl;exact nlq);(apply n_some;exact rfl;exact nlq);exact rfl;exact nlq;exact rfl;exact hq)|(apply d_append;exact rfl;exact rfl;exact rfl;exact rfl;exact lnq;exact lnq;(first|(simp[maxLen,chunks_length];done)|(simp[maxLen,chunks_length];omega));(first|(simp[maxLen,chunks_length];done)|(simp[maxLen,chunks_length];omega));exact rfl;exact rfl;exact hq)|(apply d_appendNil;exact rfl;exact rfl;exact rfl;exact lnq;(first|(simp[maxLen,chunks_length];done)|(simp[maxLen,chunks_length];omega));(first|(simp[maxLen,chunks_length];done)|(simp[maxLen,chunks_length];omega));exact rfl;exact hq)|(apply d_appendS;exact rfl;exact rfl;exact rfl;exact rfl;exact lnq;(first|(simp[maxLen,chunks_length];done)|(simp[maxLen,chunks_length];omega));(first|(simp[maxLen,chunks_length];done)|(simp[maxLen,chunks_length];omega));exact rfl;exact rfl;exact hq)|(apply d_strBytes;exact rfl;exact rfl;exact rfl;(first|omega|(dsimp only;omega)|(simp;done)|(simp;omega));exact hq)|(apply d_gskipT;exact rfl;exact rfl;exact rfl;(first|exact rfl|assumption);exact hq)|(apply d_gskipF;exact rfl;exact rfl;exact rfl;(first|exact rfl|assumption);exact hq)|(apply d_gskipU;exact rfl;exact rfl;exact rfl;exact hq)))):DR P c ops Q st0 done st (o::rest):=hs h
theorem s_gd{dst:Option Tmp}{op:Op}{st:St}{j s:Nat}{b b':Bool}(h:LW P c st ops Q (⟨dst,op,ty,pos,aft,none⟩::rest))(hj:(ops[j]?).bind (·.dst)=some s:=by exact rfl)(hb:st.ev (.tmp s)=aB b':=by exact rfl)(he:b'=b:=by(first|exact rfl|assumption)):LW P c st ops Q (⟨dst,op,ty,pos,aft,some (j,b)⟩::rest):=s_gdo hj hb he h
theorem d_gd{dst:Option Tmp}{op:Op}{st:St}{j s:Nat}{b b':Bool}(h:DR P c ops Q st0 done st (⟨dst,op,ty,pos,aft,none⟩::rest))(hj:(ops[j]?).bind (·.dst)=some s:=by exact rfl)(hb:st.ev (.tmp s)=aB b':=by exact rfl)(he:b'=b:=by(first|exact rfl|assumption)):DR P c ops Q st0 done st (⟨dst,op,ty,pos,aft,some (j,b)⟩::rest):=d_gdo hj hb he h
theorem c_go{st:St}{K X:Act→World→Prop}(h:L c st K)(hs:L c st K→L c st X:=by(intro hq;(first|exact c_seq hq|exact L.block hq|exact L.thenN hq|exact L.thenE hq|exact L.thenR hq|exact L.inN hq|exact L.inR hq|exact L.inE hq|(apply L.inO;exact rfl;exact hq)|exact L.ret hq|exact L.exit hq|exact L.skip hq|(apply c_condT;exact rfl;(first|exact rfl|assumption);exact hq)|(apply c_condF;exact rfl;(first|exact rfl|assumption);exact hq)))):L c st X:=hs h
theorem wk1{X Y:Prop}(h:X)(hs:X→Y:=by(intro hq;first|(refine LW.is ?_;first|exact s_v hq|exact s_m hq|exact s_nil hq|exact s_gd hq|(apply s_call0 (h:=hq) (ha:=rfl);exact rfl;assumption;exact rfl)|(apply s_callG (h:=hq) (ha:=rfl);exact rfl;assumption;assumption;exact rfl)|(apply s_callRow (h:=hq) (ha:=rfl);exact rfl;assumption;exact rfl)|(apply s_call01 (h:=hq) (ha:=rfl);exact rfl;assumption;exact rfl;exact rfl))|(refine DR.is ?_;first|exact d_v hq|exact d_m hq|(apply d_nil;kernel_rfl;exact hq)|exact d_gd hq|(apply d_call0 (h:=hq) (ha:=rfl);exact rfl;assumption;exact rfl)|(apply d_callG (h:=hq) (ha:=rfl);exact rfl;assumption;assumption;exact rfl)|(apply d_callRow (h:=hq) (ha:=rfl);exact rfl;assumption;exact rfl)|(apply d_call01 (h:=hq) (ha:=rfl);exact rfl;assumption;exact rfl;exact rfl))|exact c_go hq|exact s_region hq|exact d_region hq|fail)):Y:=hs h
theorem wk2{p p1 q q1 X1 X2 Y:Prop}(h1:p→p1→X1)(h2:q→q1→X2)(hs:(p→p1→X1)→(q→q1→X2)→Y:=by(intro h1 h2;first|(refine LW.is ?_;exact s_gsplit rfl rfl rfl (fun hb=>fct hb (h1 hb)) (fun hb=>fct hb (h2 hb)))|(refine DR.is ?_;exact d_gsplit rfl rfl rfl (fun hb=>fct hb (h1 hb)) (fun hb=>fct hb (h2 hb)))|exact L.cond rfl (fun hb=>fct hb (h1 hb)) (fun hb=>fct hb (h2 hb))|fail)):Y:=hs h1 h2
theorem wkf{X Y:Prop}(h:X)(hs:X→Y:=by(intro hq;first|(apply L.ends1;exact rfl;exact rfl;exact rfl;exact hq)|(apply L.ends2;exact rfl;exact rfl;exact rfl;exact hq)|(apply L.ends3;exact rfl;exact rfl;exact rfl;exact hq)|(apply L.ends1A;exact rfl;exact rfl;exact rfl;exact hq)|(apply L.ends2A;exact rfl;exact rfl;exact rfl;exact hq)|(apply L.ends3A;exact rfl;exact rfl;exact rfl;exact hq)|fail)):Y:=hs h
theorem wkk{st:St}{st1:St}(h:Wk c st st1:=by(refine Wk.mk' (by intro id h;cases h) ?_ ?_ ?_<;>repeat' (first|exact WkF.nil|exact WkB.nil|exact WkT.nil|(refine WkF.cons rfl (Sub.refl _) ?_)|(refine WkB.cons rfl rfl (Subs.refl _) ?_)|(refine WkT.cons rfl ?_)))):Wk c st st1:=h
end
end Go.Abs
namespace Go.Proofs.YthcjohcakdnmmaaGreatDoor
open Go Go.Abs
set_option maxRecDepth 100000
instance:VarTy Tryz.prog 3 false 1:=⟨by kernel_rfl⟩
instance:ZeroTy Tryz.prog 3 [.int .i64 0]:=⟨by kernel_rfl⟩
instance:IntTy Tryz.prog 3 .i64:=⟨by kernel_rfl⟩
instance:VarTy Tryz.prog 4 false 1:=⟨by kernel_rfl⟩
instance:BoolTy Tryz.prog 4:=⟨by kernel_rfl⟩
instance:VarTy Tryz.prog 5 false 1:=⟨by kernel_rfl⟩
instance:IntTy Tryz.prog 5 .u8:=⟨by kernel_rfl⟩
instance:VarTy Tryz.prog 9 false 1:=⟨by kernel_rfl⟩
instance:ZeroTy Tryz.prog 9 [.string ⟨#[]⟩]:=⟨by kernel_rfl⟩
instance:StrTy Tryz.prog 9:=⟨by kernel_rfl⟩
instance:VarTy Tryz.prog 22 false 1:=⟨by kernel_rfl⟩
instance:SliceTy Tryz.prog 22 47 2:=⟨by kernel_rfl⟩
instance:AppTy Tryz.prog 22 47 2 40:=⟨by kernel_rfl⟩
instance:RowTy Tryz.prog 22 47 2 40:=⟨by kernel_rfl⟩
instance:VarTy Tryz.prog 23 false 1:=⟨by kernel_rfl⟩
instance:SliceTy Tryz.prog 23 64 3:=⟨by kernel_rfl⟩
instance:AppTy Tryz.prog 23 64 3 48:=⟨by kernel_rfl⟩
instance:RowTy Tryz.prog 23 64 3 48:=⟨by kernel_rfl⟩
instance:VarTy Tryz.prog 25 true 2:=⟨by kernel_rfl⟩
instance:ZeroTy Tryz.prog 25 [.slice none 0 0,.slice none 0 0]:=⟨by kernel_rfl⟩
instance:FieldTy Tryz.prog 25 0 0:=⟨by kernel_rfl⟩
instance:FieldTy Tryz.prog 25 1 1:=⟨by kernel_rfl⟩
instance:PlacesTy Tryz.prog 25 [(0,1),(1,1)]:=⟨by kernel_rfl⟩
instance:VarTy Tryz.prog 26 false 1:=⟨by kernel_rfl⟩
instance:SliceTy Tryz.prog 26 71 3:=⟨by kernel_rfl⟩
instance:AppTy Tryz.prog 26 71 3 32:=⟨by kernel_rfl⟩
instance:VarTy Tryz.prog 27 false 1:=⟨by kernel_rfl⟩
instance:SliceTy Tryz.prog 27 30 1:=⟨by kernel_rfl⟩
instance:AppTy Tryz.prog 27 30 1 24:=⟨by kernel_rfl⟩
instance:RowTy Tryz.prog 27 30 1 24:=⟨by kernel_rfl⟩
instance:VarTy Tryz.prog 28 false 1:=⟨by kernel_rfl⟩
instance:SliceTy Tryz.prog 28 56 9:=⟨by kernel_rfl⟩
instance:AppTy Tryz.prog 28 56 9 120:=⟨by kernel_rfl⟩
instance:RowTy Tryz.prog 28 56 9 120:=⟨by kernel_rfl⟩
instance:VarTy Tryz.prog 29 false 1:=⟨by kernel_rfl⟩
instance:SliceTy Tryz.prog 29 9 1:=⟨by kernel_rfl⟩
instance:AppTy Tryz.prog 29 9 1 16:=⟨by kernel_rfl⟩
instance:VarTy Tryz.prog 30 false 1:=⟨by kernel_rfl⟩
instance:ZeroTy Tryz.prog 30 [.slice none 0 0]:=⟨by kernel_rfl⟩
instance:SliceTy Tryz.prog 30 34 8:=⟨by kernel_rfl⟩
instance:AppTy Tryz.prog 30 34 8 104:=⟨by kernel_rfl⟩
instance:RowTy Tryz.prog 30 34 8 104:=⟨by kernel_rfl⟩
instance:VarTy Tryz.prog 32 true 3:=⟨by kernel_rfl⟩
instance:ZeroTy Tryz.prog 32 [.int .i64 0,.int .i64 0,.string ⟨#[]⟩]:=⟨by kernel_rfl⟩
instance:FieldTy Tryz.prog 32 0 0:=⟨by kernel_rfl⟩
instance:FieldTy Tryz.prog 32 1 1:=⟨by kernel_rfl⟩
instance:FieldTy Tryz.prog 32 2 2:=⟨by kernel_rfl⟩
instance:PlacesTy Tryz.prog 32 [(0,1),(1,1),(2,1)]:=⟨by kernel_rfl⟩
instance:EqTy Tryz.prog 32 [1,1,3]:=⟨by kernel_rfl⟩
instance:VarTy Tryz.prog 34 true 8:=⟨by kernel_rfl⟩
instance:ZeroTy Tryz.prog 34 [.int .i64 0,.int .i64 0,.int .i64 0,.string ⟨#[]⟩,.string ⟨#[]⟩,.string ⟨#[]⟩,.int .i64 0,.slice none 0 0]:=⟨by kernel_rfl⟩
instance:FieldTy Tryz.prog 34 0 0:=⟨by kernel_rfl⟩
instance:FieldTy Tryz.prog 34 1 1:=⟨by kernel_rfl⟩
instance:FieldTy Tryz.prog 34 2 4:=⟨by kernel_rfl⟩
instance:FieldTy Tryz.prog 34 3 5:=⟨by kernel_rfl⟩
instance:FieldTy Tryz.prog 34 4 6:=⟨by kernel_rfl⟩
instance:FieldTy Tryz.prog 34 5 7:=⟨by kernel_rfl⟩
instance:PlacesTy Tryz.prog 34 [(0,1),(1,3),(4,1),(5,1),(6,1),(7,1)]:=⟨by kernel_rfl⟩
instance:VarTy Tryz.prog 36 true 20:=⟨by kernel_rfl⟩
instance:ZeroTy Tryz.prog 36 [.int .i64 0,.string ⟨#[]⟩,.string ⟨#[]⟩,.string ⟨#[]⟩,.slice none 0 0,.slice none 0 0,.slice none 0 0,.slice none 0 0,.slice none 0 0,.int .i64 0,.int .i64 0,.int .i64 0,.string ⟨#[]⟩,.string ⟨#[]⟩,.string ⟨#[]⟩,.int .i64 0,.slice none 0 0,.slice none 0 0,.bool false,.int .i64 0]:=⟨by kernel_rfl⟩
instance:FieldTy Tryz.prog 36 0 0:=⟨by kernel_rfl⟩
instance:FieldTy Tryz.prog 36 1 1:=⟨by kernel_rfl⟩
instance:FieldTy Tryz.prog 36 2 2:=⟨by kernel_rfl⟩
instance:FieldTy Tryz.prog 36 3 3:=⟨by kernel_rfl⟩
instance:FieldTy Tryz.prog 36 4 4:=⟨by kernel_rfl⟩
instance:FieldTy Tryz.prog 36 5 5:=⟨by kernel_rfl⟩
instance:FieldTy Tryz.prog 36 6 6:=⟨by kernel_rfl⟩
instance:FieldTy Tryz.prog 36 7 7:=⟨by kernel_rfl⟩
instance:FieldTy Tryz.prog 36 8 8:=⟨by kernel_rfl⟩
instance:FieldTy Tryz.prog 36 9 9:=⟨by kernel_rfl⟩
instance:FieldTy Tryz.prog 36 10 17:=⟨by kernel_rfl⟩
instance:FieldTy Tryz.prog 36 11 18:=⟨by kernel_rfl⟩
instance:FieldTy Tryz.prog 36 12 19:=⟨by kernel_rfl⟩
instance:PlacesTy Tryz.prog 36 [(0,1),(1,1),(2,1),(3,1),(4,1),(5,1),(6,1),(7,1),(8,1),(9,8),(17,1),(18,1),(19,1)]:=⟨by kernel_rfl⟩
instance:VarTy Tryz.prog 47 true 2:=⟨by kernel_rfl⟩
instance:ZeroTy Tryz.prog 47 [.string ⟨#[]⟩,.slice none 0 0]:=⟨by kernel_rfl⟩
instance:FieldTy Tryz.prog 47 0 0:=⟨by kernel_rfl⟩
instance:FieldTy Tryz.prog 47 1 1:=⟨by kernel_rfl⟩
instance:PlacesTy Tryz.prog 47 [(0,1),(1,1)]:=⟨by kernel_rfl⟩
instance:VarTy Tryz.prog 56 true 9:=⟨by kernel_rfl⟩
instance:ZeroTy Tryz.prog 56 [.string ⟨#[]⟩,.int .i64 0,.int .i64 0,.int .i64 0,.string ⟨#[]⟩,.string ⟨#[]⟩,.string ⟨#[]⟩,.int .i64 0,.slice none 0 0]:=⟨by kernel_rfl⟩
instance:FieldTy Tryz.prog 56 0 0:=⟨by kernel_rfl⟩
instance:FieldTy Tryz.prog 56 1 1:=⟨by kernel_rfl⟩
instance:PlacesTy Tryz.prog 56 [(0,1),(1,8)]:=⟨by kernel_rfl⟩
instance:VarTy Tryz.prog 64 true 3:=⟨by kernel_rfl⟩
instance:ZeroTy Tryz.prog 64 [.string ⟨#[]⟩,.string ⟨#[]⟩,.string ⟨#[]⟩]:=⟨by kernel_rfl⟩
instance:FieldTy Tryz.prog 64 0 0:=⟨by kernel_rfl⟩
instance:FieldTy Tryz.prog 64 1 1:=⟨by kernel_rfl⟩
instance:FieldTy Tryz.prog 64 2 2:=⟨by kernel_rfl⟩
instance:PlacesTy Tryz.prog 64 [(0,1),(1,1),(2,1)]:=⟨by kernel_rfl⟩
instance:EqTy Tryz.prog 64 [3,3,3]:=⟨by kernel_rfl⟩
instance:SliceTy Tryz.prog 68 73 4:=⟨by kernel_rfl⟩
instance:AppTy Tryz.prog 68 73 4 48:=⟨by kernel_rfl⟩
instance:VarTy Tryz.prog 71 true 3:=⟨by kernel_rfl⟩
instance:ZeroTy Tryz.prog 71 [.string ⟨#[]⟩,.int .i64 0,.bool false]:=⟨by kernel_rfl⟩
instance:FieldTy Tryz.prog 71 0 0:=⟨by kernel_rfl⟩
instance:FieldTy Tryz.prog 71 1 1:=⟨by kernel_rfl⟩
instance:FieldTy Tryz.prog 71 2 2:=⟨by kernel_rfl⟩
instance:PlacesTy Tryz.prog 71 [(0,1),(1,1),(2,1)]:=⟨by kernel_rfl⟩
instance:EqTy Tryz.prog 71 [3,1,2]:=⟨by kernel_rfl⟩
instance:VarTy Tryz.prog 73 true 4:=⟨by kernel_rfl⟩
instance:ZeroTy Tryz.prog 73 [.string ⟨#[]⟩,.string ⟨#[]⟩,.int .i64 0,.bool false]:=⟨by kernel_rfl⟩
instance:FieldTy Tryz.prog 73 0 0:=⟨by kernel_rfl⟩
instance:FieldTy Tryz.prog 73 1 1:=⟨by kernel_rfl⟩
instance:PlacesTy Tryz.prog 73 [(0,1),(1,3)]:=⟨by kernel_rfl⟩
instance:SliceTy Tryz.prog 99 47 2:=⟨by kernel_rfl⟩
instance:AppTy Tryz.prog 99 47 2 40:=⟨by kernel_rfl⟩
instance:IntTy Tryz.prog 110 .u64:=⟨by kernel_rfl⟩
instance:VarTy Tryz.prog 119 false 1:=⟨by kernel_rfl⟩
instance:ZeroTy Tryz.prog 119 [.slice none 0 0]:=⟨by kernel_rfl⟩
instance:SliceTy Tryz.prog 119 3 1:=⟨by kernel_rfl⟩
instance:AppTy Tryz.prog 119 3 1 8:=⟨by kernel_rfl⟩
instance:SliceTy Tryz.prog 123 5 1:=⟨by kernel_rfl⟩
instance:ArrTy Tryz.prog 105 3 11:=⟨by kernel_rfl⟩
instance:ArrTy Tryz.prog 108 4 4:=⟨by kernel_rfl⟩
instance:MixTy Tryz.prog:=⟨by kernel_rfl⟩
instance:CallTy Tryz.prog 4:=⟨by kernel_rfl⟩
instance:CallTy Tryz.prog 5:=⟨by kernel_rfl⟩
instance:CallTy Tryz.prog 6:=⟨by kernel_rfl⟩
instance:CallTy Tryz.prog 7:=⟨by kernel_rfl⟩
instance:CallTy Tryz.prog 8:=⟨by kernel_rfl⟩
instance:CallTy Tryz.prog 9:=⟨by kernel_rfl⟩
instance:CallTy Tryz.prog 10:=⟨by kernel_rfl⟩
instance:CallTy Tryz.prog 11:=⟨by kernel_rfl⟩
instance:CallTy Tryz.prog 12:=⟨by kernel_rfl⟩
instance:CallTy Tryz.prog 13:=⟨by kernel_rfl⟩
instance:CallTy Tryz.prog 14:=⟨by kernel_rfl⟩
instance:CallTy Tryz.prog 15:=⟨by kernel_rfl⟩
instance:CallTy Tryz.prog 16:=⟨by kernel_rfl⟩
instance:CallTy Tryz.prog 17:=⟨by kernel_rfl⟩
instance:CallTy Tryz.prog 18:=⟨by kernel_rfl⟩
instance:CallTy Tryz.prog 19:=⟨by kernel_rfl⟩
instance:CallTy Tryz.prog 20:=⟨by kernel_rfl⟩
instance:CallTy Tryz.prog 21:=⟨by kernel_rfl⟩
instance:CallTy Tryz.prog 22:=⟨by kernel_rfl⟩
instance:CallTy Tryz.prog 23:=⟨by kernel_rfl⟩
instance:CallTy Tryz.prog 24:=⟨by kernel_rfl⟩
instance:CallTy Tryz.prog 25:=⟨by kernel_rfl⟩
instance:CallTy Tryz.prog 26:=⟨by kernel_rfl⟩
instance:CallTy Tryz.prog 27:=⟨by kernel_rfl⟩
instance:CallTy Tryz.prog 28:=⟨by kernel_rfl⟩
instance:CallTy Tryz.prog 29:=⟨by kernel_rfl⟩
instance:CallTy Tryz.prog 30:=⟨by kernel_rfl⟩
instance:CallTy Tryz.prog 31:=⟨by kernel_rfl⟩
instance:CallTy Tryz.prog 32:=⟨by kernel_rfl⟩
instance:CallTy Tryz.prog 33:=⟨by kernel_rfl⟩
instance:CallTy Tryz.prog 34:=⟨by kernel_rfl⟩
instance:CallTy Tryz.prog 35:=⟨by kernel_rfl⟩
instance:CallTy Tryz.prog 36:=⟨by kernel_rfl⟩
instance:CallTy Tryz.prog 37:=⟨by kernel_rfl⟩
instance:CallTy Tryz.prog 38:=⟨by kernel_rfl⟩
instance:CallTy Tryz.prog 39:=⟨by kernel_rfl⟩
instance:CallTy Tryz.prog 40:=⟨by kernel_rfl⟩
instance:CallTy Tryz.prog 41:=⟨by kernel_rfl⟩
instance:CallTy Tryz.prog 42:=⟨by kernel_rfl⟩
instance:CallTy Tryz.prog 43:=⟨by kernel_rfl⟩
instance:CallTy Tryz.prog 44:=⟨by kernel_rfl⟩
instance:CallTy Tryz.prog 45:=⟨by kernel_rfl⟩
instance:CallTy Tryz.prog 46:=⟨by kernel_rfl⟩
instance:CallTy Tryz.prog 47:=⟨by kernel_rfl⟩
instance:CallTy Tryz.prog 48:=⟨by kernel_rfl⟩
instance:CallTy Tryz.prog 49:=⟨by kernel_rfl⟩
instance:CallTy Tryz.prog 50:=⟨by kernel_rfl⟩
instance:CallTy Tryz.prog 51:=⟨by kernel_rfl⟩
instance:CallTy Tryz.prog 52:=⟨by kernel_rfl⟩
instance:CallTy Tryz.prog 53:=⟨by kernel_rfl⟩
instance:CallTy Tryz.prog 54:=⟨by kernel_rfl⟩
instance:CallTy Tryz.prog 55:=⟨by kernel_rfl⟩
instance:CallTy Tryz.prog 56:=⟨by kernel_rfl⟩
instance:CallTy Tryz.prog 57:=⟨by kernel_rfl⟩
instance:CallTy Tryz.prog 58:=⟨by kernel_rfl⟩
instance:CallTy Tryz.prog 59:=⟨by kernel_rfl⟩
instance:CallTy Tryz.prog 60:=⟨by kernel_rfl⟩
instance:CallTy Tryz.prog 61:=⟨by kernel_rfl⟩
instance:CallTy Tryz.prog 62:=⟨by kernel_rfl⟩
instance:CallTy Tryz.prog 63:=⟨by kernel_rfl⟩
instance:CallTy Tryz.prog 64:=⟨by kernel_rfl⟩
instance:CallTy Tryz.prog 65:=⟨by kernel_rfl⟩
instance:CallTy Tryz.prog 66:=⟨by kernel_rfl⟩
instance:CallTy Tryz.prog 67:=⟨by kernel_rfl⟩
instance:CallTy Tryz.prog 68:=⟨by kernel_rfl⟩
instance:CallTy Tryz.prog 69:=⟨by kernel_rfl⟩
instance:CallTy Tryz.prog 74:=⟨by kernel_rfl⟩
instance:CallTy Tryz.prog 75:=⟨by kernel_rfl⟩
instance:CallTy Tryz.prog 76:=⟨by kernel_rfl⟩
instance:CallTy Tryz.prog 77:=⟨by kernel_rfl⟩
instance:CallTy Tryz.prog 78:=⟨by kernel_rfl⟩
instance:CallTy Tryz.prog 79:=⟨by kernel_rfl⟩
instance:CallTy Tryz.prog 80:=⟨by kernel_rfl⟩
instance:CallTy Tryz.prog 81:=⟨by kernel_rfl⟩
instance:CallTy Tryz.prog 93:=⟨by kernel_rfl⟩
instance:OvlTy Tryz.prog 70 22 4:=⟨⟨Tryz.f70,Tryz.func70,by kernel_rfl,by kernel_rfl,by kernel_rfl,by kernel_rfl⟩⟩
instance:OvlTy Tryz.prog 72 23 4:=⟨⟨Tryz.f72,Tryz.func72,by kernel_rfl,by kernel_rfl,by kernel_rfl,by kernel_rfl⟩⟩
end Go.Proofs.YthcjohcakdnmmaaGreatDoor
