/- Several texts in one, each with its own sentence ahead of it. Conditions: each one says its own. -/
import Derived.Laws.Externs
import Derived.Lib.Bytealg
import Derived.Laws.Small
import Derived.Laws.Slices
import Derived.Laws.Cover3
import Derived.Test.YthcjohcakdnmmaaGreatDoorZS6
set_option linter.all false
namespace Go.Abs
variable [Dr]
set_option linter.unusedSectionVars false
open Go.RowKit (Below)
set_option linter.unusedVariables false
section
variable {P:Program}{c:Ctx}{st:St}{ops:Array Oper}{Q:Exit→Act→World→Prop}{rest:List Oper}{o:Oper}
theorem Inv.newPub{E:Env}{a:Act}{w:World}(hi:Inv c E st a w){id:Nat}(hf:st.fresh id=true)(ob:Obj)(p:Nat):
 ∃E',Inv c E' st a (w.alloc ob)∧Keeps E.φ w (w.alloc ob)∧(∀b,E.φ b≤E'.φ b)∧E'.φ w.heap.size=p:=by
 obtain⟨hh,mono⟩:=hi.heap.alloc hf ob p undef
 refine⟨_,⟨hi.defers,hi.size,fun s v hv=>mono v _ (St.fresh_fr hf hv) (hi.slot s v hv),hh⟩,Keeps.alloc hi.heap.new _,fun b=> ?_,by simp[Env.upd]⟩
 simp only[Env.upd];split
 · rename_i e;rw[hi.heap.new b (by omega)];exact Nat.zero_le _
 · exact Nat.le_refl _
theorem Makes.strBytes{x:Operand}{s t e:TypeId}{id:Nat}{bs:List UInt8}(ho:o.op= .convert s t x)(hx:st.ev x=aS bs)(hs:P.underlying s=some .string)(ht:P.underlying t=some (.slice e))(he:P.underlying e=some (.int .u8))
 (hf:st.fresh id=true) (hl:bs.length≤9223372036854775807):Makes P c st o (.iv (.sl (bs.map cB))) st.bx st.tk:=fun E a w hi=>by
 have hq:=hi.im hx
 have hsz:(⟨bs.toArray⟩:ByteArray).size=bs.length:=by show bs.toArray.size=_;simp
 have hrun:=run_bytes_of_string w s t e ⟨bs.toArray⟩ hs ht he
 rw[hsz] at hrun
 obtain⟨E',hi',hk,hle,hp⟩:=hi.drew.newPub hf (.cells (bytesRow ⟨bs.toArray⟩ (grownCap w bs.length 0 e)) e ((bytesRow ⟨bs.toArray⟩ (grownCap w bs.length 0 e)).size,(bytesRow ⟨bs.toArray⟩ (grownCap w bs.length 0 e)).size+1)) bs.length
 refine⟨.slice (some ⟨w.heap.size,0,none⟩) bs.length (grownCap w bs.length 0 e),E',_,by simp[execOp,ho,hq,hrun],hi',?_⟩
 have hlm:(bs.map cB).length=bs.length:=by simp
 have hcap:=grownCap_ge w bs.length 0 e
 have hcm:=grownCap_le_maxLen w bs.length 0 e (by simpa[maxLen] using hl)
 refine .iv ?_
 have hget: ∀(i:Nat) (e':List IV),(bs.map cB)[i]?=some e'→ ∃b,bs[i]?=some b∧e'=cB b:=fun i e' h=>by
  simp only[List.getElem?_map,Option.map_eq_some_iff] at h
  obtain⟨b,hb,rfl⟩:=h
  exact⟨b,hb,rfl⟩
 have main:RepI E'.φ (w.drew.alloc (.cells (bytesRow ⟨bs.toArray⟩ (grownCap w bs.length 0 e)) e ((bytesRow ⟨bs.toArray⟩ (grownCap w bs.length 0 e)).size,(bytesRow ⟨bs.toArray⟩ (grownCap w bs.length 0 e)).size+1))) (.sl (bs.map cB)) (.slice (some ⟨w.heap.size,0,none⟩) (bs.map cB).length (grownCap w bs.length 0 e)):=by
  refine .sl (k:=1) (fun i _=> .int .u8 ((bs.getD i 0).toNat:Int)) (by rw[hlm];exact hcap) hcm ?_ ?_ ?_ ?_
  · intro i e' h;obtain⟨b,_,rfl⟩:=hget i e' h;rfl
  · intro i e' j x' h h2
    obtain⟨b,hb,rfl⟩:=hget i e' h
    have hj:j<1:=(List.getElem?_eq_some_iff.1 h2).1
    have hi1:i<bs.length:=(List.getElem?_eq_some_iff.1 hb).1
    have:E'.φ w.heap.size=bs.length:=hp
    rw[this];omega
  · intro i e' j x' h h2
    obtain⟨b,hb,rfl⟩:=hget i e' h
    have hj:j<1:=(List.getElem?_eq_some_iff.1 h2).1
    have hi1:i<bs.length:=(List.getElem?_eq_some_iff.1 hb).1
    obtain rfl:j=0:=by omega
    have hat:=bytesRow_at ⟨bs.toArray⟩ (grownCap w bs.length 0 e) i (by simpa using hi1)
    have hnew:(w.drew.alloc (.cells (bytesRow ⟨bs.toArray⟩ (grownCap w bs.length 0 e)) e ((bytesRow ⟨bs.toArray⟩ (grownCap w bs.length 0 e)).size,(bytesRow ⟨bs.toArray⟩ (grownCap w bs.length 0 e)).size+1))).heap[w.heap.size]?=some (.cells (bytesRow ⟨bs.toArray⟩ (grownCap w bs.length 0 e)) e ((bytesRow ⟨bs.toArray⟩ (grownCap w bs.length 0 e)).size,(bytesRow ⟨bs.toArray⟩ (grownCap w bs.length 0 e)).size+1)):=heapNew w.drew _
    unfold World.cell?
    simp only[hnew]
    simp only[Option.isSome_none,Bool.false_eq_true,if_false,Nat.zero_add,Nat.mul_one,Nat.add_zero]
    rw[hat]
    have:bs.getD i 0=bs[i]:=by simp[List.getD,List.getElem?_eq_getElem hi1]
    rw[this];simp
  · intro i e' j x' h h2
    obtain⟨b,hb,rfl⟩:=hget i e' h
    have hj:j<1:=(List.getElem?_eq_some_iff.1 h2).1
    obtain rfl:j=0:=by omega
    have:bs.getD i 0=b:=by simp[List.getD,hb]
    simp only[this]
    simp at h2;subst h2
    exact .im rfl
 rw[hlm] at main
 exact main
def extOk(P:Program)(f:FuncId)(e:Array Value→Sem Value):Prop:=
 ∃fn,P.funcs[f]?=some fn∧(fn.name== "runtime.NumGoroutine")=false∧fn.body.isNone=true∧Extern.findNext fn=none∧Extern.find fn=some e
theorem Yields.idxB{f:FuncId}{x y:Operand}{ats:Array TypeId}{m:List UInt8}{n:Int}(ho:o.op= .call {callee:= .value (.func f),args:= #[x,y],argTypes:=ats})
 (hok:extOk P f Extern.BytealgIndexByte.indexByte) (hx:st.ev x=aS m) (hy:st.ev y= .iv (.im (.int .u8 n))):Yields P c st o (aI (Lib.indexByte m n.toNat.toUInt8)):=
 .im rfl fun E a w hi=>by
   obtain⟨fn,hf,h1,h2,h3,h4⟩:=hok
   have e1:=hi.im hx
   have e2:=hi.im hy
   have hrun:=run_callFunc_extern hf h1 h2 h3 h4 #[.string ⟨m.toArray⟩,.int .u8 n] w
   rw[Lib.run_indexByteString] at hrun
   have:(execOp a.eval o).run P w=(callFunc f #[a.eval x,a.eval y]).run P w:=by
    simp[execOp,ho,resolve,Deferred.ofValue,Act.eval,invoke]
   rw[this,e1,e2,hrun]
   simp[Result.andThen]
theorem and_one(n:Int):bits .and .i64 n 1=n % 2:=by
 have h1:(BitVec.ofInt 64 1).toNat=2 ^ 1 - 1:=by decide
 have key:(BitVec.ofInt 64 n &&& BitVec.ofInt 64 1).toNat=(n % ((2 ^ 64:Nat):Int)).toNat % 2 ^ 1:=by
  rw[BitVec.toNat_and,BitVec.toNat_ofInt,h1,Nat.and_two_pow_sub_one_eq_mod]
 show IntKind.i64.wrap ((BitVec.ofInt 64 n &&& BitVec.ofInt 64 1).toNat:Nat)=n % 2
 rw[key,IntKind.wrap_i64]
 omega
theorem Yields.and1{x y:Operand}{t t':TypeId}{m:Int}(ho:o.op= .binOp .and t x y t')(hx:st.ev x=aI m)(hy:st.ev y=aI 1):Yields P c st o (aI (m % 2)):=
 .arith ho hx hy (fun w=>by rw[←and_one m];rfl) (fun w=>rfl)
theorem Yields.min2{x y:Operand}{t t':TypeId}{m n:Int}(ho:o.op= .call {callee:= .builtin .min,args:= #[x,y],argTypes:= #[t,t']})(hx:st.ev x=aI m)(hy:st.ev y=aI n):Yields P c st o (aI (if n<m then n else m)):=
 .im rfl fun E a w hi=>by
   have e1:=hi.im hx
   have e2:=hi.im hy
   simp[execOp,ho,resolve,invoke,builtin,e1,e2,run_min_int2,Result.andThen]
abbrev Globs:=List (Nat×List IV)
def Glob(gs:Globs)(E:Env)(w:World):Prop:=
 ((∀b,w.heap.size≤b→E.φ b=0)∧ ∀(g:Nat) (xs:List IV),(g,xs)∈gs→xs≠ [] → ∃cs ty sp,w.heap[g]?=some (.cells cs ty sp)∧cs.size=xs.length)∧ ∀(g:Nat) (xs:List IV),(g,xs)∈gs→ ∀(i:Nat) (x:IV),xs[i]?=some x→i<E.φ g∧ ∃v,w.cell? ⟨g,i,none⟩=some v∧RepI E.φ w x v
theorem Glob.nil{E:Env}{w:World}(h: ∀b,w.heap.size≤b→E.φ b=0):Glob [] E w:=⟨⟨h,fun g xs h=>by simp at h⟩,fun g xs h=>by simp at h⟩
theorem Glob.keep{gs:Globs}{E:Env}{a:Act}{w:World}(h:Glob gs c.E0 c.w0)(hi:Inv c E st a w):Glob gs E w:=by
 obtain⟨⟨h0,hs⟩,h1⟩:=h
 have lt: ∀b o,o<c.E0.φ b→b<c.w0.heap.size:=fun b o ho=>Nat.lt_of_not_le (fun hle=>by rw[h0 b hle] at ho;omega)
 have hk:Keeps c.E0.φ c.w0 w:=fun b o ho=>by
  have hb:=lt b o ho
  exact World.cell?_of_block (w:=c.w0) (hi.heap.kept.block b hb (fun⟨id,hid,hg,h0⟩=>by omega))
 have hφ: ∀b,c.E0.φ b≤E.φ b:=fun b=>by
  by_cases hb:b<c.w0.heap.size
  · rw[hi.heap.old b hb];exact Nat.le_refl _
  · rw[h0 b (by omega)];exact Nat.zero_le _
 refine⟨⟨hi.heap.new,fun g xs hg hne=> ?_⟩,fun g xs hg i x hx=> ?_⟩
 · obtain⟨k1,_⟩:=h1 g xs hg 0 _ (List.getElem?_eq_getElem (List.length_pos_iff.2 hne))
   obtain⟨cs,ty,sp,e1,e2⟩:=hs g xs hg hne
   exact⟨cs,ty,sp,(hi.heap.kept.block g (lt g 0 k1) (fun⟨id,hid,hg,h0⟩=>by omega)).trans e1,e2⟩
 obtain⟨k1,v,k2,k3⟩:=h1 g xs hg i x hx
 exact⟨Nat.lt_of_lt_of_le k1 (hφ g),v,by rw[hk g i k1];exact k2,k3.mono hk hφ⟩
def CallG(gs:Globs)(P:Program)(f:FuncId)(args:List AV)(bx bx':List (Nat×Box))(tk':List (Nat×Tok))(res:AV):Prop:=
 ∀(E:Env) (w:World) (us:List Value),RelL E w args us→HInv ⟨0,w,E,keys bx⟩ E bx [] w→Glob gs E w→
  Calls P f us.toArray w fun e w'=> ∃(u:Value) (E':Env),e= .returned u∧RepA E' w' res u∧HInv ⟨0,w,E,keys bx⟩ E' bx' tk' w'
theorem CallA.toG{gs:Globs}{f:FuncId}{args:List AV}{bx bx':List (Nat×Box)}{tk':List (Nat×Tok)}{res:AV}(h:CallA P f args bx bx' tk' res):CallG gs P f args bx bx' tk' res:=
 fun E w us hr hh _=>h E w us hr hh
theorem CallG.toA{f:FuncId}{args:List AV}{bx bx':List (Nat×Box)}{tk':List (Nat×Tok)}{res:AV}(h:CallG [] P f args bx bx' tk' res):CallA P f args bx bx' tk' res:=
 fun E w us hr hh=>h E w us hr hh (Glob.nil hh.new)
theorem CallG.intro{gs:Globs}{f:FuncId}{fn:Func}{code:Code}{args:List AV}{bx bx':List (Nat×Box)}{tk':List (Nat×Tok)}{res:AV}(nt:Nat)(hf:P.funcs[f]?=some fn)(hb:fn.body=some code)(hnt:fn.ntmps=nt)(hn:Nat.ble args.length nt=true)
 (h: ∀(w0:World) (E0:Env),Glob gs E0 w0→L ⟨nt,w0,E0,keys bx⟩ ⟨enter 0 args,bx,[]⟩ (code.wp P (bodyPost P fn (Post ⟨nt,w0,E0,keys bx⟩ bx' tk' res)))):CallG gs P f args bx bx' tk' res:=by
 subst hnt
 have hn:=Nat.le_of_ble_eq_true hn
 intro E w us hrel hh hg
 have hl:=hrel.1
 refine calls_of_wp (R:=Post ⟨fn.ntmps,w,E,keys bx⟩ bx' tk' res) hf hb (h w E hg _ _ ⟨E,rfl,?_,fun s v hv=> ?_,?_⟩)|>.mono ?_
 · simp;omega
 · obtain⟨_,hv'⟩:=enter_get args 0 s v hv
   rw[Nat.sub_zero] at hv'
   have hlt:s<us.length:=by rw[hl];exact(List.getElem?_eq_some_iff.1 hv').1
   have:(us.toArray++Array.replicate (fn.ntmps - us.toArray.size) undef).getD s undef=us[s]:=by
    simp[Array.getElem?_append,hlt]
   rw[this]
   exact hrel.2 s v _ hv' (List.getElem?_eq_getElem hlt)
 · exact⟨hh.box,hh.tok,hh.bb,hh.tt,hh.bt,hh.own,hh.ownt,hh.new,hh.old,hh.ins,hh.kept⟩
 · rintro e w' ⟨u,E',he,hu,hh'⟩
   exact⟨u,E',he,hu,⟨hh'.box,hh'.tok,hh'.bb,hh'.tt,hh'.bt,hh'.own,hh'.ownt,hh'.new,hh'.old,hh'.ins,hh'.kept⟩⟩
theorem L.enterG{gs:Globs}(N:List Nat){f:FuncId}{zas:List AV}{bxi bxo:List (Nat×Box)}{tko:List (Nat×Tok)}{res:AV}{d:Nat}(hg:o.guard=none)(hd:o.dst=some d)(hlt:Nat.ble (d+1) c.nt=true)(hG:Glob gs c.E0 c.w0)
 (ho: ∀(E:Env) (a:Act) (w:World),Inv c E st a w→ ∃us:List Value,(execOp a.eval o).run P w= .ok (.enter f us.toArray) w∧RelL E w zas us) (hc:CallG gs P f zas bxi bxo tko res) (hbi:WkB st.bx bxi)
 (hN:N.all (fun id=>st.fresh id)=true) (hbo:boOk N bxi bxo=true) (hto:(keys tko).all (fun id=>N.contains id)=true)
 (hmb:bxo.all (fun p=>AV.mentsIn (N++keys bxi) p.2.cs)=true) (hmr:AV.mentIn (N++keys bxi) res=true)
 (h:L c ⟨(d,res)::st.fr,bxo++st.bx,tko++st.tk⟩ (wpList P ops Q rest)):L c st (wpList P ops Q (o::rest)):=by
 rintro a w ⟨E,hi⟩
 refine wpList_plain hg (fun K hK=> ?_)
 obtain⟨us,hrun,hrel⟩:=ho E a w hi
 unfold Oper.wp
 rw[hrun,Oper.upon_enter]
 have hcall:=hc E w us hrel (hi.heap.hand hbi) (hG.keep hi)
 refine hcall.mono fun e w' ⟨u,E',he,hu,hh⟩=> ?_
 subst he
 obtain⟨hj,monoN,monoC⟩:=hi.heap.join hh (N:=N) (fun id hid=>List.all_eq_true.1 hN id hid) (fun id hid=>by
  obtain⟨b,hb⟩:=mem_keys hid
  obtain⟨b0,h0,_,hs⟩:=hbi.get id b hb
  exact⟨b0,h0,hs.ne (boOk_live hbo hb)⟩)
  (fun id hid=>boOk_keys hbo hid) (fun id hid=>by have:=List.all_eq_true.1 hto id hid;simpa using this)
  (fun id b hb=>List.all_eq_true.1 hmb _ (lookup_mem hb))
 refine hK _ _ ?_
 rw[hd]
 refine h _ _ ⟨_,Inv.put (st:=⟨st.fr,bxo++st.bx,tko++st.tk⟩) ⟨hi.defers,hi.size,fun s v hv=>monoC v _ (fun id hid=>St.fresh_fr (List.all_eq_true.1 hN id hid) hv) (hi.slot s v hv),hj⟩ (Nat.le_of_ble_eq_true hlt) (monoN res u hmr hu)⟩
theorem L.callG0{gs:Globs}{f:FuncId}{args:Array Operand}{ats:Array TypeId}{zas:List AV}{res:AV}{d:Nat}(hg:o.guard=none)(hd:o.dst=some d)(hlt:Nat.ble (d+1) c.nt=true)(hG:Glob gs c.E0 c.w0)
 (ho:o.op= .call {callee:= .value (.func f),args:=args,argTypes:=ats}) (hok:callOk P f=true) (hc:CallG gs P f zas [] [] [] res) (ha:Subs (args.toList.map st.ev) zas)
 (hmr:AV.mentIn [] res=true) (h:L c ⟨(d,res)::st.fr,st.bx,st.tk⟩ (wpList P ops Q rest)):L c st (wpList P ops Q (o::rest)):=
 L.enterG [] hg hd hlt hG (fun E a w hi=>⟨args.toList.map a.eval,by
   have hargs:(args.toList.map a.eval).toArray=args.map a.eval:=by apply Array.ext';simp
   rw[hargs]
   simp[execOp,ho,resolve,Deferred.ofValue,Act.eval,invoke,run_callOk hok],(hi.evs args).sub ha⟩) hc .nil rfl rfl rfl rfl hmr h
def arrOk(P:Program)(t e:TypeId)(n:Nat):Bool:=
 (match P.underlying t with|some (.array m e')=>m==n && e'==e|_=>false) && (match P.info? e with|some i=>i.size==1|none=>false)
theorem Yields.indexG{gs:Globs}{g:Nat}{xs:List IV}{t e:TypeId}{i:Operand}{kd:IntKind}{n:Int}{v:IV}(ho:o.op= .indexAddr t (.global g) i)(hs:arrOk P t e xs.length=true)(hG:Glob gs c.E0 c.w0)(hm:(g,xs)∈gs)
 (hi':st.ev i= .iv (.im (.int kd n))) (h0:0≤n) (hv:xs[n.toNat]?=some v):Yields P c st o (.el [v]):=fun E a w hi=>by
 have e1:=hi.im hi'
 obtain⟨g1,u,g2,g3⟩:=(hG.keep hi).2 g xs hm _ v hv
 unfold arrOk at hs
 simp only[Bool.and_eq_true] at hs
 obtain⟨hs1,hs2⟩:=hs
 have hu:P.underlying t=some (.array xs.length e):=by
  split at hs1
  · rename_i m e' hm
    simp only[Bool.and_eq_true,beq_iff_eq] at hs1
    rw[hm,hs1.1,hs1.2]
  · cases hs1
 have hlt:n<(xs.length:Int):=by
  have:=(List.getElem?_eq_some_iff.1 hv).1
  omega
 cases hinf:P.info? e with
 |none=>rw[hinf] at hs2;simp at hs2
 |some inf=>
  rw[hinf] at hs2
  have hsz:inf.size=1:=by simpa using hs2
  refine⟨.pointer (some ⟨g,n.toNat,none⟩),?_,.el (fun _=>u) (fun j x hx=> ?_) (fun j x hx=> ?_)⟩
  · have eg:a.eval (.global g)= .pointer (some ⟨g,0,none⟩):=rfl
    have ea:(⟨g,0,none⟩:Addr).add n.toNat=⟨g,n.toNat,none⟩:=by rw[Addr.add_none,Nat.zero_add]
    simp[execOp,ho,eg,e1,Instr.indexAt,asIntOf,run_underlying hu,Instr.sureAddr,h0,hlt,sizeOf,typeInfo,hinf,hsz,ea]
  · cases j with
    |zero=>exact⟨g1,g2⟩
    |succ j=>simp at hx
  · cases j with
    |zero=>simp at hx;subst hx;exact g3
    |succ j=>simp at hx
theorem Yields.loadG{gs:Globs}{g:Nat}{t:TypeId}{x:IV}(ho:o.op= .load t (.global g))(ht:varOk P t false 1=true)(hG:Glob gs c.E0 c.w0)(hm:(g,[x])∈gs):Yields P c st o (.iv x):=fun E a w hi=>by
 obtain⟨g1,u,g2,g3⟩:=(hG.keep hi).2 g [x] hm 0 x rfl
 refine⟨u,?_,.iv g3⟩
 have eg:a.eval (.global g)= .pointer (some ⟨g,0,none⟩):=rfl
 simp[execOp,ho,eg,Instr.loadAt,Instr.sureAddr,loadVar,(varOk_agg ht w).1,g2]
theorem Yields.max2{x y:Operand}{t t':TypeId}{m n:Int}(ho:o.op= .call {callee:= .builtin .max,args:= #[x,y],argTypes:= #[t,t']})(hx:st.ev x=aI m)(hy:st.ev y=aI n):Yields P c st o (aI (if n>m then n else m)):=
 .im rfl fun E a w hi=>by
   have e1:=hi.im hx
   have e2:=hi.im hy
   simp[execOp,ho,resolve,invoke,builtin,e1,e2,run_max_int2,Result.andThen]
theorem Yields.makeFunc{f:FuncId}{caps:Array Operand}(ho:o.op= .makeFunc (.func f) #[] caps):Yields P c st o (.fn f (caps.toList.map st.ev)):=fun E a w hi=>by
 refine⟨.func (.func f) #[] (caps.toList.map a.eval).toArray,?_,?_⟩
 · have hc:(caps.toList.map a.eval).toArray=caps.map a.eval:=by apply Array.ext';simp
   rw[hc]
   simp[execOp,ho,Instr.makeFunc]
 · obtain⟨h1,h2⟩:=hi.evs caps
   exact .fn h1 h2
theorem L.callFnG{gs:Globs}{f:FuncId}{x:Operand}{args:Array Operand}{ats:Array TypeId}{zas caps:List AV}{bxi:List (Nat×Box)}{res:AV}{d:Nat}(hg:o.guard=none)(hd:o.dst=some d)(hlt:Nat.ble (d+1) c.nt=true)(hG:Glob gs c.E0 c.w0)
 (ho:o.op= .call {callee:= .value x,args:=args,argTypes:=ats}) (hx:st.ev x= .fn f caps) (hok:callOk P f=true) (hc:CallG gs P f (zas++caps) bxi bxi [] res) (ha:Subs (args.toList.map st.ev) zas)
 (hbi:WkB st.bx bxi) (hmb:bxi.all (fun p=> !p.2.cs.isEmpty && AV.mentsIn (keys bxi) p.2.cs)=true) (hmr:AV.mentIn (keys bxi) res=true)
 (h:L c ⟨(d,res)::st.fr,bxi++st.bx,st.tk⟩ (wpList P ops Q rest)):L c st (wpList P ops Q (o::rest)):=
 L.enterG [] hg hd hlt hG (fun E a w hi=>by
   have hv:=hi.ev x
   rw[hx] at hv
   generalize hu:a.eval x=u at hv
   cases hv with
   | @fn _ _ us hl hr=>
     refine⟨args.toList.map a.eval++us,?_,((hi.evs args).sub ha).append ⟨hl,hr⟩⟩
     have hargs:(args.toList.map a.eval++us).toArray=args.map a.eval++us.toArray:=by apply Array.ext';simp
     rw[hargs]
     simp[execOp,ho,resolve,hu,Deferred.ofValue,invoke,run_callOk hok]) hc hbi rfl (by
     simp only[boOk,Bool.and_eq_true,List.all_eq_true] at hmb⊢
     exact⟨fun p hp=>(hmb p hp).1,fun id hid=>by simpa using hid⟩) rfl (by
     simp only[Bool.and_eq_true,List.all_eq_true] at hmb⊢
     exact fun p hp=>(hmb p hp).2) hmr h
def fldOk(P:Program)(s:TypeId)(f fo:Nat):Bool:=
 match P.underlying s with
 |some (.struct fs)=>match fs[f]? with
  |some fd=>fd.offset==fo && (match P.underlying fd.type with|some (.int _)|some .string|some .bool|some (.slice _)=>true|_=>false)
  |none=>false
 |_=>false
theorem Yields.fieldV{s:TypeId}{x:Operand}{f fo:Nat}{cs:List AV}{v:AV}(ho:o.op= .field s x f)(hf:fldOk P s f fo=true)(hx:st.ev x= .agg cs)(hv:cs[fo]?=some v):Yields P c st o v:=fun E a w hi=>by
 have h:=hi.ev x
 rw[hx] at h
 obtain⟨us,hu,hr,_⟩:=h.agg_inv
 have hlt:fo<us.length:=by rw[hr.1];exact(List.getElem?_eq_some_iff.1 hv).1
 refine⟨us[fo],?_,hr.2 fo v _ hv (List.getElem?_eq_getElem hlt)⟩
 unfold fldOk at hf
 split at hf
 · rename_i fs hus
   split at hf
   · rename_i fd hfd
     simp only[Bool.and_eq_true,beq_iff_eq] at hf
     obtain⟨h1,h2⟩:=hf
     have hag:(isAgg fd.type).run P w= .ok false w:=by
      split at h2
      all_goals first|(rename_i hd;simp[isAgg,run_underlying hd];done)|cases h2
     have hget:us[fo]?=some us[fo]:=List.getElem?_eq_getElem hlt
     simp[execOp,ho,hu,Instr.field,run_underlying hus,hfd,asAgg,part,hag,h1,hget]
   · cases hf
 · cases hf
end
end Go.Abs
namespace Go.Abs
variable [Dr]
set_option linter.unusedSectionVars false
open Go.RowKit (Below)
set_option linter.unusedVariables false
section
variable {P:Program}{c:Ctx}{st:St}{ops:Array Oper}{Q:Exit→Act→World→Prop}{rest:List Oper}{o:Oper}
theorem Yields.lenBsl{t:TypeId}{x:Operand}{id off n cap:Nat}(ho:o.op= .call {callee:= .builtin .len,args:= #[x],argTypes:= #[t]}){e:TypeId}{k:Nat}(hs:sliceOk P t e k=true)(hx:st.ev x= .bsl id off n cap):Yields P c st o (aI n):=
 .im rfl fun E a w hi=>by
   obtain⟨hu,_⟩:=sliceOk_run hs
   have h:=hi.ev x;rw[hx] at h
   obtain⟨o',hq,_⟩:=h.bsl_inv
   simp[execOp,ho,resolve,invoke,builtin,hq,Builtin.len_,run_underlying hu,goInt]
theorem Yields.lenBsh{t:TypeId}{x:Operand}{id off n k':Nat}(ho:o.op= .call {callee:= .builtin .len,args:= #[x],argTypes:= #[t]}){e:TypeId}{k:Nat}(hs:sliceOk P t e k=true)(hx:st.ev x= .bsh id off n k'):Yields P c st o (aI n):=
 .im rfl fun E a w hi=>by
   obtain⟨hu,_⟩:=sliceOk_run hs
   have h:=hi.ev x;rw[hx] at h
   obtain⟨cap,o',hq,_⟩:=h.bsh_inv
   simp[execOp,ho,resolve,invoke,builtin,hq,Builtin.len_,run_underlying hu,goInt]
theorem Yields.capBsl{t:TypeId}{x:Operand}{id off n cap:Nat}(ho:o.op= .call {callee:= .builtin .cap,args:= #[x],argTypes:= #[t]}){e:TypeId}{k:Nat}(hs:sliceOk P t e k=true)(hx:st.ev x= .bsl id off n cap):Yields P c st o (aI cap):=
 .im rfl fun E a w hi=>by
   obtain⟨hu,_⟩:=sliceOk_run hs
   have h:=hi.ev x;rw[hx] at h
   obtain⟨o',hq,_⟩:=h.bsl_inv
   simp[execOp,ho,resolve,invoke,builtin,hq,Builtin.cap_,run_underlying hu,goInt]
theorem Yields.indexBsl{t e:TypeId}{x i:Operand}{k:Nat}{kd:IntKind}{j:Int}{id off n cap:Nat}(ho:o.op= .indexAddr t x i)(hs:sliceOk P t e k=true)(hx:st.ev x= .bsl id off n cap)
 (hj:st.ev i= .iv (.im (.int kd j))) (h0:0≤j) (h1:j<n):Yields P c st o (.ptr id (off+j.toNat*k)):=
 fun E a w hi=>by
  obtain⟨hu,inf,hinf,hsz⟩:=sliceOk_run hs
  have h:=hi.ev x;rw[hx] at h
  obtain⟨o',hq,hn,_,hoo⟩:=h.bsl_inv
  have:=hoo (by omega);subst this
  refine⟨.pointer (some ⟨E.ρ id,o'+j.toNat*k,none⟩),?_,.ptr rfl⟩
  simp[execOp,ho,hq,hi.im hj,Instr.indexAt,asIntOf,run_underlying hu,h0,h1,sizeOf,typeInfo,hinf,hsz,Addr.add_none]
theorem Yields.indexBsh{t e:TypeId}{x i:Operand}{k:Nat}{kd:IntKind}{j:Int}{id off n:Nat}(ho:o.op= .indexAddr t x i)(hs:sliceOk P t e k=true)(hx:st.ev x= .bsh id off n k)
 (hj:st.ev i= .iv (.im (.int kd j))) (h0:0≤j) (h1:j<n):Yields P c st o (.ptr id ((off+j.toNat)*k)):=
 fun E a w hi=>by
  obtain⟨hu,inf,hinf,hsz⟩:=sliceOk_run hs
  have h:=hi.ev x;rw[hx] at h
  obtain⟨cap,o',hq,hn,_,_,hoo⟩:=h.bsh_inv
  have:=hoo (by omega);subst this
  refine⟨.pointer (some ⟨E.ρ id,off*k+j.toNat*k,none⟩),?_,.ptr (by rw[Nat.add_mul])⟩
  simp[execOp,ho,hq,hi.im hj,Instr.indexAt,asIntOf,run_underlying hu,h0,h1,sizeOf,typeInfo,hinf,hsz,Addr.add_none]
theorem sliced_bsl{E:Env}{w:World}{id off cap o' l h m s:Nat}(hl:l≤h)(hh:h≤m)(hm:m≤cap)(hx:cap≤maxLen)(ho:cap≠0→o'=off):
 RepA E w (.bsl id (off+l*s) (h - l) (m - l)) (sliced (some ⟨E.ρ id,o',none⟩) l h m s):=by
 unfold sliced
 by_cases e:m=l
 · rw[if_pos e]
   exact .bsl (by omega) (by omega) (fun h=>by omega) rfl
 · rw[if_neg e]
   exact .bsl (by omega) (by omega) (fun _=>rfl) (by rw[ho (by omega)];simp[Addr.add_none])
theorem sl_facts{t e:TypeId}{k:Nat}(hs:sliceOk P t e k=true)(w:World):P.underlying t=some (.slice (P.elem t))∧(sizeOf (P.elem t)).run P w= .ok k w:=by
 obtain⟨hu,inf,hinf,hsz⟩:=sliceOk_run hs
 have he:P.elem t=e:=by simp[Program.elem,hu]
 exact⟨by rw[he];exact hu,by rw[he];simp[sizeOf,typeInfo,hinf,hsz]⟩
theorem Yields.slBl{x y:Operand}{t e:TypeId}{k id off n cap:Nat}{kd:IntKind}{j:Int}(ho:o.op= .slice t x (some y) none none)(hx:st.ev x= .bsl id off n cap)(hy:st.ev y= .iv (.im (.int kd j)))(hs:sliceOk P t e k=true)
 (h0:0≤j) (h1:j≤n):Yields P c st o (.bsl id (off+j.toNat*k) (n - j.toNat) (cap - j.toNat)):=fun E a w hi=>by
 obtain⟨hu,hz⟩:=sl_facts hs w
 have h:=hi.ev x;rw[hx] at h
 obtain⟨o',hq,hn,hm,hoo⟩:=h.bsl_inv
 refine⟨_,?_,sliced_bsl (s:=k) (by omega) hn (Nat.le_refl _) hm hoo⟩
 have:=run_slice_l (P:=P) w t (some ⟨E.ρ id,o',none⟩) n cap hu kd j h0 h1
 simp[execOp,ho,hq,hi.im hy,run_sliceAt_slice w t _ _ _ _ hu,this,hz,Result.andThen]
theorem Yields.slBh{x y:Operand}{t e:TypeId}{k id off n cap:Nat}{kd:IntKind}{j:Int}(ho:o.op= .slice t x none (some y) none)(hx:st.ev x= .bsl id off n cap)(hy:st.ev y= .iv (.im (.int kd j)))(hs:sliceOk P t e k=true)
 (h0:0≤j) (h1:j≤cap):Yields P c st o (.bsl id off j.toNat cap):=fun E a w hi=>by
 obtain⟨hu,hz⟩:=sl_facts hs w
 have h:=hi.ev x;rw[hx] at h
 obtain⟨o',hq,hn,hm,hoo⟩:=h.bsl_inv
 have h2:=sliced_bsl (E:=E) (w:=w) (id:=id) (s:=k) (Nat.zero_le j.toNat) (by omega:j.toNat≤cap) (Nat.le_refl _) hm hoo
 simp only[Nat.zero_mul,Nat.add_zero,Nat.sub_zero] at h2
 refine⟨_,?_,h2⟩
 have:=run_slice_h (P:=P) w t (some ⟨E.ρ id,o',none⟩) n cap hu kd j h0 h1
 simp[execOp,ho,hq,hi.im hy,run_sliceAt_slice w t _ _ _ _ hu,this,hz,Result.andThen]
theorem Yields.slBlh{x y z:Operand}{t e:TypeId}{k id off n cap:Nat}{kd kd':IntKind}{i j:Int}(ho:o.op= .slice t x (some y) (some z) none)(hx:st.ev x= .bsl id off n cap)(hy:st.ev y= .iv (.im (.int kd i)))(hz':st.ev z= .iv (.im (.int kd' j)))
 (hs:sliceOk P t e k=true) (h0:0≤i) (h1:i≤j) (h2:j≤cap):Yields P c st o (.bsl id (off+i.toNat*k) (j.toNat - i.toNat) (cap - i.toNat)):=fun E a w hi=>by
 obtain⟨hu,hz⟩:=sl_facts hs w
 have h:=hi.ev x;rw[hx] at h
 obtain⟨o',hq,hn,hm,hoo⟩:=h.bsl_inv
 refine⟨_,?_,sliced_bsl (E:=E) (w:=w) (id:=id) (s:=k) (by omega:i.toNat≤j.toNat) (by omega:j.toNat≤cap) (Nat.le_refl _) hm hoo⟩
 have:=run_slice_lh (P:=P) w t (some ⟨E.ρ id,o',none⟩) n cap hu kd kd' i j h0 h1 h2
 simp[execOp,ho,hq,hi.im hy,hi.im hz',run_sliceAt_slice w t _ _ _ _ hu,this,hz,Result.andThen]
end
end Go.Abs
namespace Go.Abs
variable [Dr]
set_option linter.unusedSectionVars false
open Go.RowKit (Below)
set_option linter.unusedVariables false
theorem HInv.reBox{c:Ctx}{E:Env}{bx:List (Nat×Box)}{tk:List (Nat×Tok)}{w:World}(h:HInv c E bx tk w){id:Nat}{b b':Box}(hb:bx.lookup id=some b)(hbn:b.cs≠ [])(hb':b'.cs≠ [] →BoxOk E w id b'):
 HInv c E ((id,b')::bx) tk w:=by
 have f: ∀(i:Nat) (b1:Box),List.lookup i ((id,b')::bx)=some b1→b1.cs≠ [] → ∃b2,bx.lookup i=some b2∧b2.cs≠ []:=fun i b1 h hn=>by
  by_cases e:i=id
  · subst e;exact⟨b,hb,hbn⟩
  · rw[lookup_cons_ne e] at h;exact⟨b1,h,hn⟩
 refine⟨fun i b1 hi hn=> ?_,h.tok,fun i j b1 b2 hi hj hn hn' he=> ?_,h.tt,fun i j b1 t hi hn hj=> ?_,fun i b1 hi hn=> ?_,h.ownt,h.new,h.old,fun i hin=> ?_,h.kept⟩
 · by_cases e:i=id
   · subst e;rw[lookup_cons_eq] at hi;cases hi;exact hb' hn
   · rw[lookup_cons_ne e] at hi;exact h.box i b1 hi hn
 · obtain⟨b3,h3,n3⟩:=f i b1 hi hn
   obtain⟨b4,h4,n4⟩:=f j b2 hj hn'
   exact h.bb i j b3 b4 h3 h4 n3 n4 he
 · obtain⟨b3,h3,n3⟩:=f i b1 hi hn
   exact h.bt i j b3 t h3 n3 hj
 · obtain⟨b3,h3,n3⟩:=f i b1 hi hn
   exact h.own i b3 h3 n3
 · obtain⟨e1,e2,e3⟩:=h.ins i hin
   refine⟨e1,e2,?_⟩
   by_cases e:i=id
   · subst e;rw[lookup_cons_eq];rfl
   · rw[lookup_cons_ne e];exact e3
theorem HInv.turn{c:Ctx}{E:Env}{st:St}{w:World}(h:HInv c E st.bx st.tk w){id:Nat}(hf:st.fresh id=true)(g:Nat)(v:Value):
 HInv c ⟨E.φ,fun i=>if i=id then g else E.ρ i,fun i=>if i=id then v else E.η i⟩ st.bx st.tk w∧
  (∀(x:AV) (u:Value),AV.ment id x=false→RepA E w x u→RepA ⟨E.φ,fun i=>if i=id then g else E.ρ i,fun i=>if i=id then v else E.η i⟩ w x u):=by
 have hρ: ∀i,i≠id→(if i=id then g else E.ρ i)=E.ρ i:=fun i hi=>by simp[hi]
 have hη: ∀i,i≠id→(if i=id then v else E.η i)=E.η i:=fun i hi=>by simp[hi]
 have mono: ∀(x:AV) (u:Value),AV.ment id x=false→RepA E w x u→RepA ⟨E.φ,fun i=>if i=id then g else E.ρ i,fun i=>if i=id then v else E.η i⟩ w x u:=fun x u hm hr=>
  RepA.mono (E:=E) (w:=w) (h:=hr) (E':=⟨E.φ,fun i=>if i=id then g else E.ρ i,fun i=>if i=id then v else E.η i⟩) (fun _ _ _=>rfl) (fun _=>Nat.le_refl _) (fun i hi=>by
   have:i≠id:=fun e=>by subst e;rw[hm] at hi;cases hi
   exact⟨hρ i this,hη i this⟩)
 refine⟨⟨fun i b hb hn=> ?_,fun i t ht=> ?_,fun i j b b' hi hj hn hn' he=> ?_,fun i j t t' g' hi hj h1 h2=> ?_,fun i j b t hi hn hj=> ?_,fun i b hi hn=> ?_,fun j t g' hj hg=> ?_,h.new,h.old,fun i hin=> ?_,h.kept⟩,mono⟩
 · obtain⟨hne,hm⟩:=St.fresh_bx hf hb
   obtain⟨h0,arr,ha,hl,h1,hr,hq⟩:=h.box i b hb hn
   refine⟨by simp only[hρ i hne];exact h0,arr,by simp only[hρ i hne];exact ha,hl,h1,fun k x u hx hu=>mono x u (AV.ments_false hm k x hx) (hr k x u hx hu),fun k cap he=>hq k cap (by simpa only[hη i hne] using he)⟩
 · have:=h.tok i t ht
   simp only[TokOk,hη i (St.fresh_tk hf ht)] at this⊢
   exact this
 · simp only[hρ i (St.fresh_bx hf hi).1,hρ j (St.fresh_bx hf hj).1] at he
   exact h.bb i j b b' hi hj hn hn' he
 · simp only[hη i (St.fresh_tk hf hi)] at h1
   simp only[hη j (St.fresh_tk hf hj)] at h2
   exact h.tt i j t t' g' hi hj h1 h2
 · simp only[hρ i (St.fresh_bx hf hi).1,hη j (St.fresh_tk hf hj)]
   exact h.bt i j b t hi hn hj
 · simp only[hρ i (St.fresh_bx hf hi).1];exact h.own i b hi hn
 · simp only[hη j (St.fresh_tk hf hj)] at hg;exact h.ownt j t g' hj hg
 · obtain⟨e1,e2,e3⟩:=h.ins i hin
   obtain⟨b,hb⟩:=Option.isSome_iff_exists.1 e3
   have hne:=(St.fresh_bx hf hb).1
   exact⟨(hρ i hne).trans e1,(hη i hne).trans e2,e3⟩
section
variable {c:Ctx}{st:St}{X:Act→World→Prop}
theorem L.openRow(s:Nat){id n k m:Nat}{ty:TypeId}{xs:List IV}(hs:st.fr.lookup s=some (.bsh id 0 n k))(hb:st.bx.lookup id=some ⟨ty,.r xs m⟩)(hbn:xs≠ [] ∨0<m)(hl:n*k≤xs.length+m)
 (h: ∀cap,n≤cap→cap≤maxLen→L c ⟨(s,.bsl id 0 n cap)::st.fr,(id,⟨ty,.r xs (cap*k - xs.length)⟩)::st.bx,st.tk⟩ X):L c st X:=by
 rintro a w ⟨E,hi⟩
 have hbn':(⟨ty,.r xs m⟩:Box).cs≠ []:=fun e=>by
  simp only[Box.cs_r,List.append_eq_nil_iff,List.map_eq_nil_iff,List.replicate_eq_nil_iff] at e
  rcases hbn with h|h
  · exact h e.1
  · omega
 obtain⟨cap,o,hq,hn,hm,he,hoo⟩:=(hi.slot s _ hs).bsh_inv
 obtain⟨h0,arr,ha,hla,h1,hr,hη⟩:=hi.heap.box id _ hb hbn'
 simp only[Box.cs_r,List.length_append,List.length_map,List.length_replicate] at hla
 refine h cap (by omega) hm a w ⟨E,hi.defers,hi.size,fun s' v hv=> ?_,hi.heap.reBox hb hbn' (fun _=>⟨h0,arr,ha,?_,h1,fun i x u hx hu=> ?_,hη⟩)⟩
 · by_cases e:s'=s
   · subst e;rw[lookup_cons_eq] at hv;cases hv
     exact .bsl (o:=o) (by omega) hm (fun h=>by rw[hoo (by omega)];simp) (by rw[hq];simp)
   · rw[lookup_cons_ne e] at hv;exact hi.slot s' v hv
 · have:=hη k cap he
   simp only[Box.cs_r,List.length_append,List.length_map,List.length_replicate];omega
 · simp only[Box.cs_r] at hx
   rw[List.getElem?_append] at hx
   split at hx
   · rename_i hlt
     exact hr i x u (by simp only[Box.cs_r];rw[List.getElem?_append_left hlt];exact hx) hu
   · simp only[List.getElem?_replicate] at hx
     split at hx
     · cases hx;exact .any
     · cases hx
theorem L.kill(id:Nat){b:Box}(hb:st.bx.lookup id=some b)(hbn:b.cs≠ [])(h:L c ⟨st.fr,(id,⟨b.ty,.l []⟩)::st.bx,st.tk⟩ X):L c st X:=by
 rintro a w ⟨E,hi⟩
 exact h a w ⟨E,hi.defers,hi.size,hi.slot,hi.heap.reBox hb hbn (fun h=>(h rfl).elim)⟩
theorem L.recell(id:Nat){b b':Box}(hb:st.bx.lookup id=some b)(ht:b.ty=b'.ty)(hc:Subs b.cs b'.cs)(h:L c ⟨st.fr,(id,b')::st.bx,st.tk⟩ X):L c st X:=by
 rintro a w ⟨E,hi⟩
 exact h a w ⟨E,hi.defers,hi.size,hi.slot,hi.heap.recell hb ht hc⟩
theorem L.rename(s N:Nat){id n cap m:Nat}(k:Nat){ty:TypeId}{xs:List IV}(hs:st.fr.lookup s=some (.bsl id 0 n cap))(hb:st.bx.lookup id=some ⟨ty,.r xs m⟩)(hf:st.fresh N=true)(hbn:xs≠ [] ∨0<m)(hcap:cap*k≤xs.length+m)
 (h:L c ⟨(s,.bsh N 0 n k)::st.fr,(N,⟨ty,.r (xs.take (n*k)) 0⟩)::(id,⟨ty,.l []⟩)::st.bx,st.tk⟩ X):L c st X:=by
 rintro a w ⟨E,hi⟩
 have hbn':(⟨ty,.r xs m⟩:Box).cs≠ []:=fun e=>by
  simp only[Box.cs_r,List.append_eq_nil_iff,List.map_eq_nil_iff,List.replicate_eq_nil_iff] at e
  rcases hbn with h|h
  · exact h e.1
  · omega
 have hne:id≠N:=(St.fresh_bx hf hb).1
 obtain⟨o,hq,hn,hmx,hoo⟩:=(hi.slot s _ hs).bsl_inv
 obtain⟨h0,arr,ha,hl,h1,hr,hη⟩:=hi.heap.box id _ hb hbn'
 simp only[Box.cs_r,List.length_append,List.length_map,List.length_replicate] at hl
 obtain⟨hh,mono⟩:=hi.heap.turn hf (E.ρ id) (capV k cap)
 have hid:(if id=N then E.ρ id else E.ρ id)=E.ρ id:=by simp
 have hk:=hh.reBox (b':=⟨ty,.l []⟩) hb hbn' (fun h=>(h rfl).elim)
 refine h a w ⟨⟨E.φ,fun i=>if i=N then E.ρ id else E.ρ i,fun i=>if i=N then capV k cap else E.η i⟩,hi.defers,hi.size,fun s' v hv=> ?_,hk.addBox ?_ ?_ ?_ ?_ ?_⟩
 · by_cases e:s'=s
   · subst e;rw[lookup_cons_eq] at hv;cases hv
     exact .bsh (cap:=cap) (o:=o) (by omega) hmx (by simp) (fun h=>by rw[hoo (by omega)];simp) (by rw[hq];simp)
   · rw[lookup_cons_ne e] at hv;exact mono v _ (St.fresh_fr hf hv) (hi.slot s' v hv)
 · rw[lookup_cons_ne (Ne.symm hne)]
   cases hq':st.bx.lookup N with
   |none=>rfl
   |some b1=>exact((St.fresh_bx hf hq').1 rfl).elim
 · refine⟨by simp only[if_true];exact h0,arr,by simp only[if_true];exact ha,?_,h1,fun i x u hx hu=> ?_,fun k' cap' he=> ?_⟩
   · simp only[Box.cs_r,List.length_append,List.length_map,List.length_replicate,List.length_take];omega
   · simp only[Box.cs_r,List.replicate_zero,List.append_nil,List.map_take] at hx
     rw[List.getElem?_take] at hx
     split at hx
     · refine mono x u ?_ (hr i x u ?_ hu)
       · rw[List.getElem?_map,Option.map_eq_some_iff] at hx
         obtain⟨y,_,rfl⟩:=hx
         rfl
       · simp only[Box.cs_r]
         have:=(List.getElem?_eq_some_iff.1 hx).1
         rw[List.getElem?_append_left this];exact hx
     · cases hx
   · simp only[if_true] at he
     obtain⟨rfl,rfl⟩:=capV_inj he
     omega
 · intro j b1 hj hjn
   by_cases e:j=id
   · subst e;rw[lookup_cons_eq] at hj;cases hj;exact(hjn rfl).elim
   · rw[lookup_cons_ne e] at hj
     simp only[if_true,if_neg (St.fresh_bx hf hj).1]
     exact fun he=>e (hi.heap.bb j id b1 _ hj hb hjn hbn' he)
 · intro j t hj
   simp only[if_true,if_neg (St.fresh_tk hf hj)]
   exact hi.heap.bt id j _ t hb hbn' hj
 · simp only[if_true];exact hi.heap.own id _ hb hbn'
end
end Go.Abs
namespace Go.Abs
variable [Dr]
set_option linter.unusedSectionVars false
open Go.RowKit (Below)
set_option linter.unusedVariables false
section
variable {P:Program}{c:Ctx}{st:St}{ops:Array Oper}{Q:Exit→Act→World→Prop}{rest:List Oper}{o:Oper}
theorem Yields.eqlNil{x y:Operand}{t t' e:TypeId}{k:Nat}{es:List (List IV)}(ho:o.op= .binOp .eql t x y t')(hx:(st.ev x).sl?=some es)(hy:st.ev y= .nils)(hs:sliceOk P t e k=true)(hne:es≠ []):Yields P c st o (aB false):=
 .im rfl fun E a w hi=>by
   obtain⟨hu,_⟩:=sliceOk_run hs
   have h2:=hi.ev y;rw[hy] at h2
   generalize hqy:a.eval y=uy at h2
   cases h2
   rcases((hi.ev x).sl hx).sl_inv with⟨_,rfl⟩|⟨_,_,_,_,_,rfl⟩|⟨b,o',cap,k',f,hq,_⟩
   · exact(hne rfl).elim
   · exact(hne rfl).elim
   · simp[execOp,ho,hq,hqy,eqGuard,binOp,run_equal_slice_nil w t e _ _ _ hu]
theorem L.eqlNil0{x y:Operand}{t t' e:TypeId}{k d:Nat}(hg:o.guard=none)(hd:o.dst=some d)(hlt:Nat.ble (d+1) c.nt=true)(ho:o.op= .binOp .eql t x y t')(hx:(st.ev x).sl?=some [])(hy:st.ev y= .nils)(hs:sliceOk P t e k=true)
 (h: ∀b,L c ⟨(d,aB b)::st.fr,st.bx,st.tk⟩ (wpList P ops Q rest)):L c st (wpList P ops Q (o::rest)):=by
 rintro a w ⟨E,hi⟩
 obtain⟨hu,_⟩:=sliceOk_run hs
 have h2:=hi.ev y;rw[hy] at h2
 generalize hqy:a.eval y=uy at h2
 cases h2
 have hr: ∃b,(execOp a.eval o).run P w= .ok (.value (.bool b)) w:=by
  rcases((hi.ev x).sl hx).sl_inv with⟨hq,_⟩|⟨ad,cap,hq,_,_,_⟩|⟨b,o',cap,k',f,hq,_⟩
  · exact⟨true,by simp[execOp,ho,hq,hqy,eqGuard,binOp,run_equal_slice_nil w t e _ _ _ hu]⟩
  · exact⟨false,by simp[execOp,ho,hq,hqy,eqGuard,binOp,run_equal_slice_nil w t e _ _ _ hu]⟩
  · exact⟨false,by simp[execOp,ho,hq,hqy,eqGuard,binOp,run_equal_slice_nil w t e _ _ _ hu]⟩
 obtain⟨b,hr⟩:=hr
 refine wpList_plain hg (fun K hK=>Oper.wp_value hr (hK _ _ ?_))
 rw[hd]
 exact h b _ _ ⟨E,hi.put (Nat.le_of_ble_eq_true hlt) (.iv (.im rfl))⟩
theorem Makes.buildBox{t e:TypeId}{n k id:Nat}{parts:Array (Nat×Operand)}{zs:List Value}{cs:List AV}(ho:o.op= .buildSlice t n parts)(hs:sliceOk P t e k=true)
 (hz:zeroCellsOf P e=some zs) (h1:zs.all (·.oneCell')=true) (hzl:zs.length=k) (hn:n*k≤16777216) (hnk:0<k)
 (hf:fillA (fun i=>some (i*k,k)) ((List.range (n*k)).map fun i=>constCell (zs.getD (i % k) undef)) (parts.toList.map fun x=>(x.1,st.ev x.2))=some cs)
 (hcl:cs.length=n*k) (hm:AV.ments id cs=false) (hfr:st.fresh id=true):Makes P c st o (.bsl id 0 n n) ((id,⟨e,cs⟩)::st.bx) st.tk:=fun E a w hi=>by
 obtain⟨hu,inf,hinf,hsz⟩:=sliceOk_run hs
 have hz0: ∃z,inf.zero=some z∧z.cells=zs.toArray:=by
  unfold zeroCellsOf at hz
  simp only[hinf,Option.bind_some,Option.map_eq_some_iff] at hz
  obtain⟨z,hz1,hz2⟩:=hz
  exact⟨z,hz1,by rw[←hz2]⟩
 obtain⟨z,hz1,hz2⟩:=hz0
 have hget: ∀i,i<n*k→zs.toArray[i % zs.toArray.size]! =zs.getD (i % k) undef:=fun i hi=>by
  have:i % k<zs.length:=by rw[hzl];exact Nat.mod_lt _ hnk
  simp[hzl]
  rw[List.getElem?_eq_getElem this];rfl
 have hinit:((Array.range (n*k)).map (zs.toArray[· % zs.toArray.size]!))=((List.range (n*k)).map fun i=>zs.getD (i % k) undef).toArray:=by
  apply Array.ext'
  simp only[Array.toList_map,Array.toList_range]
  exact List.map_congr_left (fun i hi=>hget i (List.mem_range.1 hi))
 have hone: ∀i,i<n*k→(zs.getD (i % k) undef).oneCell'=true:=fun i hi=>by
  have hlt:i % k<zs.length:=by rw[hzl];exact Nat.mod_lt _ hnk
  have:zs.getD (i % k) undef=zs[i % k]:=by simp[hlt]
  rw[this];exact List.all_eq_true.1 h1 _ (List.getElem_mem hlt)
 have hrel:RelL E w ((List.range (n*k)).map fun i=>constCell (zs.getD (i % k) undef)) ((List.range (n*k)).map fun i=>zs.getD (i % k) undef):=by
  refine⟨by simp,fun i c u hc hu=> ?_⟩
  simp only[List.getElem?_map] at hc hu
  cases hr:(List.range (n*k))[i]? with
  |none=>rw[hr] at hc;simp at hc
  |some j=>
   rw[hr] at hc hu
   simp only[Option.map_some,Option.some.injEq] at hc hu
   subst hc;subst hu
   exact constCell_rep E w _ (hone j (List.mem_range.1 (List.mem_of_getElem? hr)))
 obtain⟨arr,ha,hr,h1'⟩:=fill_rel (E:=E) (w:=w) _ (parts.map fun(i,x)=>(i,a.eval x)).toList _ _ ((List.range (n*k)).map fun i=>zs.getD (i % k) undef).toArray (by simpa using hrel)
  (fun u hu=>by
    simp only[List.mem_map,List.mem_range] at hu
    obtain⟨i,hi',rfl⟩:=hu
    exact hone i hi')
  (by simp) (fun n p q=>parts_rep hi parts n p q) hf
 refine⟨.slice (some ⟨w.heap.size,0,none⟩) n n,_,_,?_,hi.newBox hfr (ty:=e) (us:=arr.toList) hr h1' hm,.bsl (o:=0) (Nat.le_refl _) (by have:n≤n*k:=Nat.le_mul_of_pos_right n hnk;simp only[maxLen];omega) (fun _=>rfl) (by simp[Env.upd])⟩
 have hbig: ¬(n*k>2 ^ 24):=by omega
 have hfill:Instr.fill (fun i=>some (i*k,k)) ((Array.range (n*k)).map (zs.toArray[· % zs.toArray.size]!)) (parts.map fun(i,x)=>(i,a.eval x)).toList=some arr:=by rw[hinit];exact ha
 have hat:arr.toList.toArray=arr:=by simp
 rw[hat]
 by_cases h0:n*k=0
 · have:n=0:=by
    rcases Nat.mul_eq_zero.1 h0 with h|h
    · exact h
    · omega
   subst this
   have e0:Array.range 0= #[]:=rfl
   have hfill':Instr.fill (fun i=>some (i*k,k)) #[] (parts.map fun(i,x)=>(i,a.eval x)).toList=some arr:=by simpa[e0] using hfill
   simp only[Array.toList_map] at hfill'
   simp[execOp,ho,Instr.buildSlice,run_underlying hu,sizeOf,typeInfo,hinf,hsz,newRow,e0,hfill']
 · simp only[execOp,ho,Instr.buildSlice,Sem.run_bind,run_underlying hu,sizeOf,typeInfo,zeroValue,run_program,hinf,hsz,hz1,hz2,Result.andThen_ok,Sem.run_pure,hbig,h0,if_false,hfill,newRow,run_newObj,Sem.run_ite]
   rfl
theorem Inv.newRoom{E:Env}{a:Act}{w:World}(hi:Inv c E st a w){id:Nat}(hf:st.fresh id=true){ty:TypeId}{cs:List AV}{us:List Value}(v:Value)
 (hl:cs.length≤us.length) (hr: ∀(i:Nat) (x:AV) (u:Value),cs[i]?=some x→us[i]?=some u→RepA E w x u) (h1: ∀u∈us,u.oneCell'=true) (hm:AV.ments id cs=false) (hv: ∀k cap,v=capV k cap→cap*k≤us.length):
 Inv c (E.upd id w.heap.size 0 v) ⟨st.fr,(id,⟨ty,cs⟩)::st.bx,st.tk⟩ a (w.alloc (.cells us.toArray ty (0,0))):=by
 obtain⟨hh,mono⟩:=hi.heap.alloc hf (.cells us.toArray ty (0,0)) 0 v
 have hid:(E.upd id w.heap.size 0 v).ρ id=w.heap.size:=by simp[Env.upd]
 refine⟨hi.defers,hi.size,fun s v hv=>mono v _ (St.fresh_fr hf hv) (hi.slot s v hv),hh.addBox ?_ ?_ ?_ ?_ ?_⟩
 · cases hq:st.bx.lookup id with
   |none=>rfl
   |some b=>exact((St.fresh_bx hf hq).1 rfl).elim
 · refine⟨by rw[hid];simp[Env.upd],us,by rw[hid];exact heapNew w _,hl,h1,fun i x u hx hu=>mono x u (AV.ments_false hm i x hx) (hr i x u hx hu),fun k cap he=>hv k cap (by simpa[Env.upd] using he)⟩
 · intro j b' hj hn
   rw[hid]
   have:(E.upd id w.heap.size 0 v).ρ j=E.ρ j:=by simp[Env.upd,(St.fresh_bx hf hj).1]
   rw[this]
   have:=box_lt (hi.heap.box j b' hj hn)
   omega
 · intro j t hj
   rw[hid]
   have e:(E.upd id w.heap.size 0 v).η j=E.η j:=by simp[Env.upd,St.fresh_tk hf hj]
   rw[e]
   intro hg
   have:=ownBlock_lt (hi.heap.tok j t hj) hg
   omega
 · rw[hid];exact .inl hi.heap.kept.size
theorem flatten_get{α:Type}{k:Nat}(hk0:0<k): ∀(news:List (List α)) (p:Nat) (x:α),(∀e∈news,e.length=k)→news.flatten[p]?=some x→ ∃e,news[p / k]?=some e∧e[p % k]?=some x
 | [],p,x,_,h=>by simp at h
 |e::r,p,x,hn,h=>by
  have he:e.length=k:=hn e List.mem_cons_self
  rw[List.flatten_cons,List.getElem?_append] at h
  split at h
  · rename_i hlt
    rw[he] at hlt
    exact⟨e,by rw[Nat.div_eq_of_lt hlt];rfl,by rw[Nat.mod_eq_of_lt hlt];exact h⟩
  · rename_i hge
    rw[he] at hge h
    obtain⟨e',h1,h2⟩:=flatten_get hk0 r (p - k) x (fun e' h'=>hn e' (List.mem_cons_of_mem _ h')) h
    have hp:p=(p - k)+k:=by omega
    refine⟨e',?_,?_⟩
    · rw[hp,Nat.add_div_right _ hk0];simpa using h1
    · rw[hp,Nat.add_mod_right];simpa using h2
theorem flatten_len{α:Type}{k:Nat}: ∀(news:List (List α)),(∀e∈news,e.length=k)→news.flatten.length=news.length*k
 | [],_=>by simp
 |e::r,hn=>by
  rw[List.flatten_cons,List.length_append,hn e List.mem_cons_self,flatten_len r (fun e' h'=>hn e' (List.mem_cons_of_mem _ h')),List.length_cons,Nat.add_mul,Nat.one_mul,Nat.add_comm]
theorem Makes.cloneB0{t t' e:TypeId}{d:TypeDesc}{x y:Operand}{id' k bytes:Nat}{i:TypeInfo}{z:Value}{news:List (List IV)}{cs:List AV}
 (ho:o.op= .call {callee:= .builtin .append,args:= #[x,y],argTypes:= #[t,t']}) (ht:P.underlying t=some (.slice e)) (hi0:P.info? e=some i) (hik:i.size=k) (hib:i.bytes=bytes) (hiz:i.zero=some z) (hzk:z.cells.size=k) (hz1: ∀u∈z.cells.toList,u.oneCell'=true)
 (hd:P.underlying t'=some d) (hn:notInt d) (hk0:0<k) (hx: ∀(E:Env) (a:Act) (w:World),Inv c E st a w→ ∃base,a.eval x= .slice base 0 0) (hnk: ∀e∈news,e.length=k) (hy:Adds P c st y k news) (hne:news≠ [])
 (hm:news.length≤maxLen) (hby:news.length*bytes≤140737488355328) (hf:st.fresh id'=true) (hcs:news.flatten.map .iv=cs) (hmo:AV.ments id' cs=false):
 Makes P c st o (.bsh id' 0 news.length k) ((id',⟨e,cs⟩)::st.bx) st.tk:=fun E a w hi=>by
 subst hik;subst hib
 obtain⟨us,hsrc,hul,hu1,hur⟩:=hy E a w hi
 obtain⟨base,hq⟩:=hx E a w hi
 have hpos:0<news.length:=List.length_pos_iff.2 hne
 have hsmall:news.length≤9223372036854775807:=by simp only[maxLen] at hm;omega
 have hexec:(execOp a.eval o).run P w=((Builtin.append_ #[t,t'] o.type #[a.eval x,a.eval y]).run P w).andThen fun v w'=> .ok (.value v) w':=by
  simp[execOp,ho,resolve,invoke,builtin]
 have hrun:=app_grow (ty:=o.type) ht hd hn hi0 hiz hsrc (base:=base) (n:=0) (cap:=0) (olds:= []) (by cases base<;>simp[Builtin.firstCells,loadCells,loadCellsFrom]) (by omega) (by omega) (growslice_fits (by omega) (by simpa using hby))
 simp only[Nat.zero_add,List.nil_append] at hrun
 have hge:news.length≤grownCap w news.length 0 e:=grownCap_ge _ _ _ _
 have hcm:=grownCap_le_maxLen w news.length 0 e hm
 have hlen:(us++(Builtin.zeroCells z.cells (grownCap w news.length 0 e - news.length)).toList).length=grownCap w news.length 0 e*i.size:=by
  simp only[List.length_append,hul,Array.length_toList,size_zeroCells,hzk]
  rw[←Nat.add_mul];congr 1;omega
 have hcl:cs.length=news.length*i.size:=by rw[←hcs,List.length_map,flatten_len news hnk]
 have hi':=hi.drew.newRoom hf (ty:=e) (cs:=cs) (us:=us++(Builtin.zeroCells z.cells (grownCap w news.length 0 e - news.length)).toList) (capV i.size (grownCap w news.length 0 e))
  (by rw[hlen,hcl];exact Nat.mul_le_mul_right _ hge)
  (fun p x u hx hu=>by
    have hlt:=(List.getElem?_eq_some_iff.1 hx).1
    rw[List.getElem?_append_left (by rw[hul,←hcl];exact hlt)] at hu
    rw[←hcs,List.getElem?_map,Option.map_eq_some_iff] at hx
    obtain⟨x',hx',rfl⟩:=hx
    obtain⟨e',h1,h2⟩:=flatten_get hk0 news p x' hnk hx'
    have hp:p / i.size*i.size+p % i.size=p:=by rw[Nat.mul_comm];exact Nat.div_add_mod p i.size
    exact .iv (RepI.mono (φ:=E.φ) (w:=w) (w':=w.drew) (fun _ _ _=>rfl) (fun _=>Nat.le_refl _) (hur _ e' _ x' u h1 h2 (by rw[hp];exact hu))))
  (fun u hu=>by
    rcases List.mem_append.1 hu with hu|hu
    · exact hu1 u hu
    · simp only[Builtin.zeroCells,Array.toList_map,Array.toList_range,List.mem_map,List.mem_range] at hu
      obtain⟨p,_,rfl⟩:=hu
      have hlt:p % z.cells.size<z.cells.size:=Nat.mod_lt _ (by rw[hzk];exact hk0)
      rw[getElem!_pos z.cells _ hlt]
      exact hz1 _ (by simp))
  hmo (fun k' cap' he=>by
   obtain⟨rfl,rfl⟩:=capV_inj he
   exact Nat.le_of_eq hlen.symm)
 refine⟨_,_,_,?_,hi',.bsh (cap:=grownCap w news.length 0 e) (o:=0) (by omega) hcm (by simp[Env.upd]) (fun _=>by simp) rfl⟩
 rw[hexec,hq,hrun]
 simp[Env.upd]
theorem Makes.cloneB{t t' e:TypeId}{d:TypeDesc}{x y:Operand}{id id' k off bytes:Nat}{i:TypeInfo}{z:Value}{news:List (List IV)}{cs:List AV}
 (ho:o.op= .call {callee:= .builtin .append,args:= #[x,y],argTypes:= #[t,t']}) (ht:P.underlying t=some (.slice e)) (hi0:P.info? e=some i) (hik:i.size=k) (hib:i.bytes=bytes) (hiz:i.zero=some z) (hzk:z.cells.size=k) (hz1: ∀u∈z.cells.toList,u.oneCell'=true)
 (hd:P.underlying t'=some d) (hn:notInt d) (hk0:0<k) (hx:st.ev x= .bsl id off 0 0) (hnk: ∀e∈news,e.length=k) (hy:Adds P c st y k news) (hne:news≠ [])
 (hm:news.length≤maxLen) (hby:news.length*bytes≤140737488355328) (hf:st.fresh id'=true) (hcs:news.flatten.map .iv=cs) (hmo:AV.ments id' cs=false):
 Makes P c st o (.bsh id' 0 news.length k) ((id',⟨e,cs⟩)::st.bx) st.tk:=
 Makes.cloneB0 ho ht hi0 hik hib hiz hzk hz1 hd hn hk0 (fun E a w hi=>by
  have h:=hi.ev x;rw[hx] at h
  obtain⟨o',hq,_⟩:=h.bsl_inv
  exact⟨_,hq⟩) hnk hy hne hm hby hf hcs hmo
end
end Go.Abs
