/- Several texts in one, each with its own sentence ahead of it. Conditions: each one says its own. -/
import Derived.Laws.Externs
import Derived.Lib.Bytealg
import Derived.Laws.Small
import Derived.Test.YtadjbegnlimepaaGreatDoorZS6
set_option linter.all false
namespace Go.Abs
variable [Dr]
set_option linter.unusedSectionVars false
open Go.RowKit (Below)
set_option linter.unusedVariables false
section
variable {P:Program}{c:Ctx}{st:St}{ops:Array Oper}{Q:Exit→Act→World→Prop}{rest:List Oper}{o:Oper}
theorem Inv.newPub{E:Env}{a:Act}{w:World}(hi:Inv c E st a w){id:Nat}(hf:st.fresh id=true)(ob:Obj)(p:Nat):
 ∃E',Inv c E' st a (w.alloc ob)∧Keeps E.φ w (w.alloc ob)∧(∀b,E.φ b≤E'.φ b)∧E'.φ w.heap.size=p:=by
 obtain⟨hh,mono⟩:=hi.heap.alloc hf ob p undef
 refine⟨_,⟨hi.defers,hi.size,fun s v hv=>mono v _ (St.fresh_fr hf hv) (hi.slot s v hv),hh⟩,Keeps.alloc hi.heap.new _,fun b=> ?_,by simp[Env.upd]⟩
 simp only[Env.upd];split
 · rename_i e;rw[hi.heap.new b (by omega)];exact Nat.zero_le _
 · exact Nat.le_refl _
theorem Makes.strBytes{x:Operand}{s t e:TypeId}{id:Nat}{bs:List UInt8}(ho:o.op= .convert s t x)(hx:st.ev x=aS bs)(hs:P.underlying s=some .string)(ht:P.underlying t=some (.slice e))(he:P.underlying e=some (.int .u8))
 (hf:st.fresh id=true) (hl:bs.length≤9223372036854775807):Makes P c st o (.iv (.sl (bs.map cB))) st.bx st.tk:=fun E a w hi=>by
 have hq:=hi.im hx
 have hsz:(⟨bs.toArray⟩:ByteArray).size=bs.length:=by show bs.toArray.size=_;simp
 have hrun:=run_bytes_of_string w s t e ⟨bs.toArray⟩ hs ht he
 rw[hsz] at hrun
 obtain⟨E',hi',hk,hle,hp⟩:=hi.drew.newPub hf (.cells (bytesRow ⟨bs.toArray⟩ (grownCap w bs.length 0 e)) e ((bytesRow ⟨bs.toArray⟩ (grownCap w bs.length 0 e)).size,(bytesRow ⟨bs.toArray⟩ (grownCap w bs.length 0 e)).size+1)) bs.length
 refine⟨.slice (some ⟨w.heap.size,0,none⟩) bs.length (grownCap w bs.length 0 e),E',_,by simp[execOp,ho,hq,hrun],hi',?_⟩
 have hlm:(bs.map cB).length=bs.length:=by simp
 have hcap:=grownCap_ge w bs.length 0 e
 have hcm:=grownCap_le_maxLen w bs.length 0 e (by simpa[maxLen] using hl)
 refine .iv ?_
 have hget: ∀(i:Nat) (e':List IV),(bs.map cB)[i]?=some e'→ ∃b,bs[i]?=some b∧e'=cB b:=fun i e' h=>by
  simp only[List.getElem?_map,Option.map_eq_some_iff] at h
  obtain⟨b,hb,rfl⟩:=h
  exact⟨b,hb,rfl⟩
 have main:RepI E'.φ (w.drew.alloc (.cells (bytesRow ⟨bs.toArray⟩ (grownCap w bs.length 0 e)) e ((bytesRow ⟨bs.toArray⟩ (grownCap w bs.length 0 e)).size,(bytesRow ⟨bs.toArray⟩ (grownCap w bs.length 0 e)).size+1))) (.sl (bs.map cB)) (.slice (some ⟨w.heap.size,0,none⟩) (bs.map cB).length (grownCap w bs.length 0 e)):=by
  refine .sl (k:=1) (fun i _=> .int .u8 ((bs.getD i 0).toNat:Int)) (by rw[hlm];exact hcap) hcm ?_ ?_ ?_ ?_
  · intro i e' h;obtain⟨b,_,rfl⟩:=hget i e' h;rfl
  · intro i e' j x' h h2
    obtain⟨b,hb,rfl⟩:=hget i e' h
    have hj:j<1:=(List.getElem?_eq_some_iff.1 h2).1
    have hi1:i<bs.length:=(List.getElem?_eq_some_iff.1 hb).1
    have:E'.φ w.heap.size=bs.length:=hp
    rw[this];omega
  · intro i e' j x' h h2
    obtain⟨b,hb,rfl⟩:=hget i e' h
    have hj:j<1:=(List.getElem?_eq_some_iff.1 h2).1
    have hi1:i<bs.length:=(List.getElem?_eq_some_iff.1 hb).1
    obtain rfl:j=0:=by omega
    have hat:=bytesRow_at ⟨bs.toArray⟩ (grownCap w bs.length 0 e) i (by simpa using hi1)
    have hnew:(w.drew.alloc (.cells (bytesRow ⟨bs.toArray⟩ (grownCap w bs.length 0 e)) e ((bytesRow ⟨bs.toArray⟩ (grownCap w bs.length 0 e)).size,(bytesRow ⟨bs.toArray⟩ (grownCap w bs.length 0 e)).size+1))).heap[w.heap.size]?=some (.cells (bytesRow ⟨bs.toArray⟩ (grownCap w bs.length 0 e)) e ((bytesRow ⟨bs.toArray⟩ (grownCap w bs.length 0 e)).size,(bytesRow ⟨bs.toArray⟩ (grownCap w bs.length 0 e)).size+1)):=heapNew w.drew _
    unfold World.cell?
    simp only[hnew]
    simp only[Option.isSome_none,Bool.false_eq_true,if_false,Nat.zero_add,Nat.mul_one,Nat.add_zero]
    rw[hat]
    have:bs.getD i 0=bs[i]:=by simp[List.getD,List.getElem?_eq_getElem hi1]
    rw[this];simp
  · intro i e' j x' h h2
    obtain⟨b,hb,rfl⟩:=hget i e' h
    have hj:j<1:=(List.getElem?_eq_some_iff.1 h2).1
    obtain rfl:j=0:=by omega
    have:bs.getD i 0=b:=by simp[List.getD,hb]
    simp only[this]
    simp at h2;subst h2
    exact .im rfl
 rw[hlm] at main
 exact main
def extOk(P:Program)(f:FuncId)(e:Array Value→Sem Value):Prop:=
 ∃fn,P.funcs[f]?=some fn∧(fn.name== "runtime.NumGoroutine")=false∧fn.body.isNone=true∧Extern.findNext fn=none∧Extern.find fn=some e
theorem Yields.idxB{f:FuncId}{x y:Operand}{ats:Array TypeId}{m:List UInt8}{n:Int}(ho:o.op= .call {callee:= .value (.func f),args:= #[x,y],argTypes:=ats})
 (hok:extOk P f Extern.BytealgIndexByte.indexByte) (hx:st.ev x=aS m) (hy:st.ev y= .iv (.im (.int .u8 n))):Yields P c st o (aI (Lib.indexByte m n.toNat.toUInt8)):=
 .im rfl fun E a w hi=>by
   obtain⟨fn,hf,h1,h2,h3,h4⟩:=hok
   have e1:=hi.im hx
   have e2:=hi.im hy
   have hrun:=run_callFunc_extern hf h1 h2 h3 h4 #[.string ⟨m.toArray⟩,.int .u8 n] w
   rw[Lib.run_indexByteString] at hrun
   have:(execOp a.eval o).run P w=(callFunc f #[a.eval x,a.eval y]).run P w:=by
    simp[execOp,ho,resolve,Deferred.ofValue,Act.eval,invoke]
   rw[this,e1,e2,hrun]
   simp[Result.andThen]
theorem and_one(n:Int):bits .and .i64 n 1=n % 2:=by
 have h1:(BitVec.ofInt 64 1).toNat=2 ^ 1 - 1:=by decide
 have key:(BitVec.ofInt 64 n &&& BitVec.ofInt 64 1).toNat=(n % ((2 ^ 64:Nat):Int)).toNat % 2 ^ 1:=by
  rw[BitVec.toNat_and,BitVec.toNat_ofInt,h1,Nat.and_two_pow_sub_one_eq_mod]
 show IntKind.i64.wrap ((BitVec.ofInt 64 n &&& BitVec.ofInt 64 1).toNat:Nat)=n % 2
 rw[key,IntKind.wrap_i64]
 omega
theorem Yields.and1{x y:Operand}{t t':TypeId}{m:Int}(ho:o.op= .binOp .and t x y t')(hx:st.ev x=aI m)(hy:st.ev y=aI 1):Yields P c st o (aI (m % 2)):=
 .arith ho hx hy (fun w=>by rw[←and_one m];rfl) (fun w=>rfl)
theorem Yields.min2{x y:Operand}{t t':TypeId}{m n:Int}(ho:o.op= .call {callee:= .builtin .min,args:= #[x,y],argTypes:= #[t,t']})(hx:st.ev x=aI m)(hy:st.ev y=aI n):Yields P c st o (aI (if n<m then n else m)):=
 .im rfl fun E a w hi=>by
   have e1:=hi.im hx
   have e2:=hi.im hy
   simp[execOp,ho,resolve,invoke,builtin,e1,e2,run_min_int2,Result.andThen]
abbrev Globs:=List (Nat×List IV)
def Glob(gs:Globs)(E:Env)(w:World):Prop:=
 ((∀b,w.heap.size≤b→E.φ b=0)∧ ∀(g:Nat) (xs:List IV),(g,xs)∈gs→xs≠ [] → ∃cs ty sp,w.heap[g]?=some (.cells cs ty sp)∧cs.size=xs.length)∧ ∀(g:Nat) (xs:List IV),(g,xs)∈gs→ ∀(i:Nat) (x:IV),xs[i]?=some x→i<E.φ g∧ ∃v,w.cell? ⟨g,i,none⟩=some v∧RepI E.φ w x v
theorem Glob.nil{E:Env}{w:World}(h: ∀b,w.heap.size≤b→E.φ b=0):Glob [] E w:=⟨⟨h,fun g xs h=>by simp at h⟩,fun g xs h=>by simp at h⟩
theorem Glob.keep{gs:Globs}{E:Env}{a:Act}{w:World}(h:Glob gs c.E0 c.w0)(hi:Inv c E st a w):Glob gs E w:=by
 obtain⟨⟨h0,hs⟩,h1⟩:=h
 have lt: ∀b o,o<c.E0.φ b→b<c.w0.heap.size:=fun b o ho=>Nat.lt_of_not_le (fun hle=>by rw[h0 b hle] at ho;omega)
 have hk:Keeps c.E0.φ c.w0 w:=fun b o ho=>by
  have hb:=lt b o ho
  exact World.cell?_of_block (w:=c.w0) (hi.heap.kept.block b hb (fun⟨id,hid,hg,h0⟩=>by omega))
 have hφ: ∀b,c.E0.φ b≤E.φ b:=fun b=>by
  by_cases hb:b<c.w0.heap.size
  · rw[hi.heap.old b hb];exact Nat.le_refl _
  · rw[h0 b (by omega)];exact Nat.zero_le _
 refine⟨⟨hi.heap.new,fun g xs hg hne=> ?_⟩,fun g xs hg i x hx=> ?_⟩
 · obtain⟨k1,_⟩:=h1 g xs hg 0 _ (List.getElem?_eq_getElem (List.length_pos_iff.2 hne))
   obtain⟨cs,ty,sp,e1,e2⟩:=hs g xs hg hne
   exact⟨cs,ty,sp,(hi.heap.kept.block g (lt g 0 k1) (fun⟨id,hid,hg,h0⟩=>by omega)).trans e1,e2⟩
 obtain⟨k1,v,k2,k3⟩:=h1 g xs hg i x hx
 exact⟨Nat.lt_of_lt_of_le k1 (hφ g),v,by rw[hk g i k1];exact k2,k3.mono hk hφ⟩
def CallG(gs:Globs)(P:Program)(f:FuncId)(args:List AV)(bx bx':List (Nat×Box))(tk':List (Nat×Tok))(res:AV):Prop:=
 ∀(E:Env) (w:World) (us:List Value),RelL E w args us→HInv ⟨0,w,E,keys bx⟩ E bx [] w→Glob gs E w→
  Calls P f us.toArray w fun e w'=> ∃(u:Value) (E':Env),e= .returned u∧RepA E' w' res u∧HInv ⟨0,w,E,keys bx⟩ E' bx' tk' w'
theorem CallA.toG{gs:Globs}{f:FuncId}{args:List AV}{bx bx':List (Nat×Box)}{tk':List (Nat×Tok)}{res:AV}(h:CallA P f args bx bx' tk' res):CallG gs P f args bx bx' tk' res:=
 fun E w us hr hh _=>h E w us hr hh
theorem CallG.toA{f:FuncId}{args:List AV}{bx bx':List (Nat×Box)}{tk':List (Nat×Tok)}{res:AV}(h:CallG [] P f args bx bx' tk' res):CallA P f args bx bx' tk' res:=
 fun E w us hr hh=>h E w us hr hh (Glob.nil hh.new)
theorem CallG.intro{gs:Globs}{f:FuncId}{fn:Func}{code:Code}{args:List AV}{bx bx':List (Nat×Box)}{tk':List (Nat×Tok)}{res:AV}(nt:Nat)(hf:P.funcs[f]?=some fn)(hb:fn.body=some code)(hnt:fn.ntmps=nt)(hn:Nat.ble args.length nt=true)
 (h: ∀(w0:World) (E0:Env),Glob gs E0 w0→L ⟨nt,w0,E0,keys bx⟩ ⟨enter 0 args,bx,[]⟩ (code.wp P (bodyPost P fn (Post ⟨nt,w0,E0,keys bx⟩ bx' tk' res)))):CallG gs P f args bx bx' tk' res:=by
 subst hnt
 have hn:=Nat.le_of_ble_eq_true hn
 intro E w us hrel hh hg
 have hl:=hrel.1
 refine calls_of_wp (R:=Post ⟨fn.ntmps,w,E,keys bx⟩ bx' tk' res) hf hb (h w E hg _ _ ⟨E,rfl,?_,fun s v hv=> ?_,?_⟩)|>.mono ?_
 · simp;omega
 · obtain⟨_,hv'⟩:=enter_get args 0 s v hv
   rw[Nat.sub_zero] at hv'
   have hlt:s<us.length:=by rw[hl];exact(List.getElem?_eq_some_iff.1 hv').1
   have:(us.toArray++Array.replicate (fn.ntmps - us.toArray.size) undef).getD s undef=us[s]:=by
    simp[Array.getElem?_append,hlt]
   rw[this]
   exact hrel.2 s v _ hv' (List.getElem?_eq_getElem hlt)
 · exact⟨hh.box,hh.tok,hh.bb,hh.tt,hh.bt,hh.own,hh.ownt,hh.new,hh.old,hh.ins,hh.kept⟩
 · rintro e w' ⟨u,E',he,hu,hh'⟩
   exact⟨u,E',he,hu,⟨hh'.box,hh'.tok,hh'.bb,hh'.tt,hh'.bt,hh'.own,hh'.ownt,hh'.new,hh'.old,hh'.ins,hh'.kept⟩⟩
theorem L.enterG{gs:Globs}(N:List Nat){f:FuncId}{zas:List AV}{bxi bxo:List (Nat×Box)}{tko:List (Nat×Tok)}{res:AV}{d:Nat}(hg:o.guard=none)(hd:o.dst=some d)(hlt:Nat.ble (d+1) c.nt=true)(hG:Glob gs c.E0 c.w0)
 (ho: ∀(E:Env) (a:Act) (w:World),Inv c E st a w→ ∃us:List Value,(execOp a.eval o).run P w= .ok (.enter f us.toArray) w∧RelL E w zas us) (hc:CallG gs P f zas bxi bxo tko res) (hbi:WkB st.bx bxi)
 (hN:N.all (fun id=>st.fresh id)=true) (hbo:boOk N bxi bxo=true) (hto:(keys tko).all (fun id=>N.contains id)=true)
 (hmb:bxo.all (fun p=>AV.mentsIn (N++keys bxi) p.2.cs)=true) (hmr:AV.mentIn (N++keys bxi) res=true)
 (h:L c ⟨(d,res)::st.fr,bxo++st.bx,tko++st.tk⟩ (wpList P ops Q rest)):L c st (wpList P ops Q (o::rest)):=by
 rintro a w ⟨E,hi⟩
 refine wpList_plain hg (fun K hK=> ?_)
 obtain⟨us,hrun,hrel⟩:=ho E a w hi
 unfold Oper.wp
 rw[hrun,Oper.upon_enter]
 have hcall:=hc E w us hrel (hi.heap.hand hbi) (hG.keep hi)
 refine hcall.mono fun e w' ⟨u,E',he,hu,hh⟩=> ?_
 subst he
 obtain⟨hj,monoN,monoC⟩:=hi.heap.join hh (N:=N) (fun id hid=>List.all_eq_true.1 hN id hid) (fun id hid=>by
  obtain⟨b,hb⟩:=mem_keys hid
  obtain⟨b0,h0,_,hs⟩:=hbi.get id b hb
  exact⟨b0,h0,hs.ne (boOk_live hbo hb)⟩)
  (fun id hid=>boOk_keys hbo hid) (fun id hid=>by have:=List.all_eq_true.1 hto id hid;simpa using this)
  (fun id b hb=>List.all_eq_true.1 hmb _ (lookup_mem hb))
 refine hK _ _ ?_
 rw[hd]
 refine h _ _ ⟨_,Inv.put (st:=⟨st.fr,bxo++st.bx,tko++st.tk⟩) ⟨hi.defers,hi.size,fun s v hv=>monoC v _ (fun id hid=>St.fresh_fr (List.all_eq_true.1 hN id hid) hv) (hi.slot s v hv),hj⟩ (Nat.le_of_ble_eq_true hlt) (monoN res u hmr hu)⟩
theorem L.callG0{gs:Globs}{f:FuncId}{args:Array Operand}{ats:Array TypeId}{zas:List AV}{res:AV}{d:Nat}(hg:o.guard=none)(hd:o.dst=some d)(hlt:Nat.ble (d+1) c.nt=true)(hG:Glob gs c.E0 c.w0)
 (ho:o.op= .call {callee:= .value (.func f),args:=args,argTypes:=ats}) (hok:callOk P f=true) (hc:CallG gs P f zas [] [] [] res) (ha:Subs (args.toList.map st.ev) zas)
 (hmr:AV.mentIn [] res=true) (h:L c ⟨(d,res)::st.fr,st.bx,st.tk⟩ (wpList P ops Q rest)):L c st (wpList P ops Q (o::rest)):=
 L.enterG [] hg hd hlt hG (fun E a w hi=>⟨args.toList.map a.eval,by
   have hargs:(args.toList.map a.eval).toArray=args.map a.eval:=by apply Array.ext';simp
   rw[hargs]
   simp[execOp,ho,resolve,Deferred.ofValue,Act.eval,invoke,run_callOk hok],(hi.evs args).sub ha⟩) hc .nil rfl rfl rfl rfl hmr h
def arrOk(P:Program)(t e:TypeId)(n:Nat):Bool:=
 (match P.underlying t with|some (.array m e')=>m==n && e'==e|_=>false) && (match P.info? e with|some i=>i.size==1|none=>false)
theorem Yields.indexG{gs:Globs}{g:Nat}{xs:List IV}{t e:TypeId}{i:Operand}{kd:IntKind}{n:Int}{v:IV}(ho:o.op= .indexAddr t (.global g) i)(hs:arrOk P t e xs.length=true)(hG:Glob gs c.E0 c.w0)(hm:(g,xs)∈gs)
 (hi':st.ev i= .iv (.im (.int kd n))) (h0:0≤n) (hv:xs[n.toNat]?=some v):Yields P c st o (.el [v]):=fun E a w hi=>by
 have e1:=hi.im hi'
 obtain⟨g1,u,g2,g3⟩:=(hG.keep hi).2 g xs hm _ v hv
 unfold arrOk at hs
 simp only[Bool.and_eq_true] at hs
 obtain⟨hs1,hs2⟩:=hs
 have hu:P.underlying t=some (.array xs.length e):=by
  split at hs1
  · rename_i m e' hm
    simp only[Bool.and_eq_true,beq_iff_eq] at hs1
    rw[hm,hs1.1,hs1.2]
  · cases hs1
 have hlt:n<(xs.length:Int):=by
  have:=(List.getElem?_eq_some_iff.1 hv).1
  omega
 cases hinf:P.info? e with
 |none=>rw[hinf] at hs2;simp at hs2
 |some inf=>
  rw[hinf] at hs2
  have hsz:inf.size=1:=by simpa using hs2
  refine⟨.pointer (some ⟨g,n.toNat,none⟩),?_,.el (fun _=>u) (fun j x hx=> ?_) (fun j x hx=> ?_)⟩
  · have eg:a.eval (.global g)= .pointer (some ⟨g,0,none⟩):=rfl
    have ea:(⟨g,0,none⟩:Addr).add n.toNat=⟨g,n.toNat,none⟩:=by rw[Addr.add_none,Nat.zero_add]
    simp[execOp,ho,eg,e1,Instr.indexAt,asIntOf,run_underlying hu,Instr.sureAddr,h0,hlt,sizeOf,typeInfo,hinf,hsz,ea]
  · cases j with
    |zero=>exact⟨g1,g2⟩
    |succ j=>simp at hx
  · cases j with
    |zero=>simp at hx;subst hx;exact g3
    |succ j=>simp at hx
theorem Yields.loadG{gs:Globs}{g:Nat}{t:TypeId}{x:IV}(ho:o.op= .load t (.global g))(ht:varOk P t false 1=true)(hG:Glob gs c.E0 c.w0)(hm:(g,[x])∈gs):Yields P c st o (.iv x):=fun E a w hi=>by
 obtain⟨g1,u,g2,g3⟩:=(hG.keep hi).2 g [x] hm 0 x rfl
 refine⟨u,?_,.iv g3⟩
 have eg:a.eval (.global g)= .pointer (some ⟨g,0,none⟩):=rfl
 simp[execOp,ho,eg,Instr.loadAt,Instr.sureAddr,loadVar,(varOk_agg ht w).1,g2]
theorem Yields.max2{x y:Operand}{t t':TypeId}{m n:Int}(ho:o.op= .call {callee:= .builtin .max,args:= #[x,y],argTypes:= #[t,t']})(hx:st.ev x=aI m)(hy:st.ev y=aI n):Yields P c st o (aI (if n>m then n else m)):=
 .im rfl fun E a w hi=>by
   have e1:=hi.im hx
   have e2:=hi.im hy
   simp[execOp,ho,resolve,invoke,builtin,e1,e2,run_max_int2,Result.andThen]
theorem Yields.makeFunc{f:FuncId}{caps:Array Operand}(ho:o.op= .makeFunc (.func f) #[] caps):Yields P c st o (.fn f (caps.toList.map st.ev)):=fun E a w hi=>by
 refine⟨.func (.func f) #[] (caps.toList.map a.eval).toArray,?_,?_⟩
 · have hc:(caps.toList.map a.eval).toArray=caps.map a.eval:=by apply Array.ext';simp
   rw[hc]
   simp[execOp,ho,Instr.makeFunc]
 · obtain⟨h1,h2⟩:=hi.evs caps
   exact .fn h1 h2
theorem L.callFnG{gs:Globs}{f:FuncId}{x:Operand}{args:Array Operand}{ats:Array TypeId}{zas caps:List AV}{bxi:List (Nat×Box)}{res:AV}{d:Nat}(hg:o.guard=none)(hd:o.dst=some d)(hlt:Nat.ble (d+1) c.nt=true)(hG:Glob gs c.E0 c.w0)
 (ho:o.op= .call {callee:= .value x,args:=args,argTypes:=ats}) (hx:st.ev x= .fn f caps) (hok:callOk P f=true) (hc:CallG gs P f (zas++caps) bxi bxi [] res) (ha:Subs (args.toList.map st.ev) zas)
 (hbi:WkB st.bx bxi) (hmb:bxi.all (fun p=> !p.2.cs.isEmpty && AV.mentsIn (keys bxi) p.2.cs)=true) (hmr:AV.mentIn (keys bxi) res=true)
 (h:L c ⟨(d,res)::st.fr,bxi++st.bx,st.tk⟩ (wpList P ops Q rest)):L c st (wpList P ops Q (o::rest)):=
 L.enterG [] hg hd hlt hG (fun E a w hi=>by
   have hv:=hi.ev x
   rw[hx] at hv
   generalize hu:a.eval x=u at hv
   cases hv with
   | @fn _ _ us hl hr=>
     refine⟨args.toList.map a.eval++us,?_,((hi.evs args).sub ha).append ⟨hl,hr⟩⟩
     have hargs:(args.toList.map a.eval++us).toArray=args.map a.eval++us.toArray:=by apply Array.ext';simp
     rw[hargs]
     simp[execOp,ho,resolve,hu,Deferred.ofValue,invoke,run_callOk hok]) hc hbi rfl (by
     simp only[boOk,Bool.and_eq_true,List.all_eq_true] at hmb⊢
     exact⟨fun p hp=>(hmb p hp).1,fun id hid=>by simpa using hid⟩) rfl (by
     simp only[Bool.and_eq_true,List.all_eq_true] at hmb⊢
     exact fun p hp=>(hmb p hp).2) hmr h
def fldOk(P:Program)(s:TypeId)(f fo:Nat):Bool:=
 match P.underlying s with
 |some (.struct fs)=>match fs[f]? with
  |some fd=>fd.offset==fo && (match P.underlying fd.type with|some (.int _)|some .string|some .bool|some (.slice _)=>true|_=>false)
  |none=>false
 |_=>false
theorem Yields.fieldV{s:TypeId}{x:Operand}{f fo:Nat}{cs:List AV}{v:AV}(ho:o.op= .field s x f)(hf:fldOk P s f fo=true)(hx:st.ev x= .agg cs)(hv:cs[fo]?=some v):Yields P c st o v:=fun E a w hi=>by
 have h:=hi.ev x
 rw[hx] at h
 obtain⟨us,hu,hr,_⟩:=h.agg_inv
 have hlt:fo<us.length:=by rw[hr.1];exact(List.getElem?_eq_some_iff.1 hv).1
 refine⟨us[fo],?_,hr.2 fo v _ hv (List.getElem?_eq_getElem hlt)⟩
 unfold fldOk at hf
 split at hf
 · rename_i fs hus
   split at hf
   · rename_i fd hfd
     simp only[Bool.and_eq_true,beq_iff_eq] at hf
     obtain⟨h1,h2⟩:=hf
     have hag:(isAgg fd.type).run P w= .ok false w:=by
      split at h2
      all_goals first|(rename_i hd;simp[isAgg,run_underlying hd];done)|cases h2
     have hget:us[fo]?=some us[fo]:=List.getElem?_eq_getElem hlt
     simp[execOp,ho,hu,Instr.field,run_underlying hus,hfd,asAgg,part,hag,h1,hget]
   · cases hf
 · cases hf
end
end Go.Abs
