/- Several texts in one, each with its own sentence ahead of it. Conditions: each one says its own. -/
import Derived.WideLaws
import Derived.Lib.ItoaNum
import Derived.Test.YtadjbegnlimepaaGreatDoorChecked
import Derived.KernelRfl
import Derived.Shelf.Strconv.AtoiAll
import Derived.Shelf.Strconv.Itoa3
import Derived.Test.YtadjbegnlimepaaGreatDoorRows
import Derived.Shelf.Strings.OnBuilder
import Derived.Shelf.Strings.Fields
import Derived.Test.YtadjbegnlimepaaGreatDoorZS17
import Derived.Test.YtadjbegnlimepaaGreatDoorZS20
set_option linter.all false
namespace Go.Proofs.YtadjbegnlimepaaGreatDoor
open Go.Abs
def words:List (List UInt8):= [[97,110,100],[98,121],[99,114,101,97,116,101],[100,101,108,101,116,101],[100,101,115,99],[100,114,111,112],[102,114,111,109],[105,110,100,101,120],[105,110,115,101,114,116],[105,110,116],[105,110,116,111],[105,115],[108,105,109,105,116],[109,117,115,116],[110,111,116],[110,117,108,108],[111,110],[111,114],[111,114,100,101,114],[115,101,108,101,99,116],[115,101,116],[116,97,98,108,101],[116,101,120,116],[117,112,100,97,116,101],[118,97,108,117,101,115],[119,104,101,114,101]]
theorem words_len:words.length=26:=rfl
def gs0:Globs:= [(0,[.sl (words.map fun s=> [S s])])]
theorem gs_words:(0,[IV.sl (words.map fun s=> [S s])])∈gs0:=by simp[gs0]
def maxG(m:Int):Nat×List IV:=(3,[I m])
attribute [irreducible] words gs0
end Go.Proofs.YtadjbegnlimepaaGreatDoor
namespace Go.Abs
open Go.RowKit (Below)
set_option linter.unusedVariables false
section
variable {P:Program}{c:Ctx}{st:St}{ops:Array Oper}{Q:Exit→Act→World→Prop}{rest:List Oper}{o:Oper}
theorem L.callFnW(N:List Nat){gs:Globs}{f:FuncId}{x:Operand}{args:Array Operand}{ats:Array TypeId}{avs caps:List AV}{bxi bxo:List (Nat×Box)}{res:AV}{d:Nat}(hg:o.guard=none)(hd:o.dst=some d)(hlt:Nat.ble (d+1) c.nt=true)(hG:Glob gs c.E0 c.w0)
 (ho:o.op= .call {callee:= .value x,args:=args,argTypes:=ats}) (hx:st.ev x= .fn f caps) (hok:callOk P f=true) (hc:CallG gs P f (avs++caps) bxi bxo [] res) (ha:Subs (args.toList.map st.ev) avs)
 (hbi:WkB st.bx bxi) (hN:N.all (fun id=>st.fresh id)=true) (hbo:boOk N bxi bxo=true) (hmb:bxo.all (fun p=>AV.mentsIn (N++keys bxi) p.2.cs)=true) (hmr:AV.mentIn (N++keys bxi) res=true)
 (h:L c ⟨(d,res)::st.fr,bxo++st.bx,st.tk⟩ (wpList P ops Q rest)):L c st (wpList P ops Q (o::rest)):=
 L.enterG N hg hd hlt hG (fun E a w hi=>by
   have hv:=hi.ev x
   rw[hx] at hv
   generalize hu:a.eval x=u at hv
   cases hv with
   | @fn _ _ us hl hr=>
     refine⟨args.toList.map a.eval++us,?_,((hi.evs args).sub ha).append ⟨hl,hr⟩⟩
     have hargs:(args.toList.map a.eval++us).toArray=args.map a.eval++us.toArray:=by apply Array.ext';simp
     rw[hargs]
     simp[execOp,ho,resolve,hu,Deferred.ofValue,invoke,run_callOk hok]) hc hbi hN hbo rfl hmb hmr h
theorem s_callFnW(N:List Nat){fr:List (Nat×AV)}{bx:List (Nat×Box)}{tk:List (Nat×Tok)}{d:Nat}{ty:TypeId}{pos:String}{aft:Array Edge}{gs:Globs}{f:FuncId}{x:Operand}{args:Array Operand}{ats:Array TypeId}{avs caps:List AV}{bxi bxo:List (Nat×Box)}{res:AV}(hlt:Nat.ble (d+1) c.nt=true)(hG:Glob gs c.E0 c.w0)(hx:St.ev ⟨fr,bx,tk⟩ x= .fn f caps)[hok:CallTy P f]
 (hc:CallG gs P f (avs++caps) bxi bxo [] res) (ha:Subs (args.toList.map (St.ev ⟨fr,bx,tk⟩)) avs) (hbi:WkB bx bxi) (hN:N.all (fun id=>St.fresh id ⟨fr,bx,tk⟩)=true) (hbo:boOk N bxi bxo=true) (hmb:bxo.all (fun p=>AV.mentsIn (N++keys bxi) p.2.cs)=true) (hmr:AV.mentIn (N++keys bxi) res=true)
 (h:LW P c ⟨(d,res)::fr,bxo++bx,tk⟩ ops Q rest):
 LW P c ⟨fr,bx,tk⟩ ops Q (⟨some d,.call {callee:= .value x,args:=args,argTypes:=ats},ty,pos,aft,none⟩::rest):=
 .mk (L.callFnW N (st:=⟨fr,bx,tk⟩) rfl rfl hlt hG rfl hx hok.h hc ha hbi hN hbo hmb hmr (LW.out h))
end
end Go.Abs
namespace Go.Abs
open Go.RowKit (Below)
set_option linter.unusedVariables false
class Errs where
 s:Value
 r:Value
 hs:s= .nilIface∨ ∃te pe,s= .iface te pe
 hr:r= .nilIface∨ ∃te pe,r= .iface te pe
theorem CallG.sub{gs gs':Globs}{P:Program}{f:FuncId}{args:List AV}{bx bx':List (Nat×Box)}{tk':List (Nat×Tok)}{res:AV}(hs: ∀p∈gs',p∈gs)(h:CallG gs' P f args bx bx' tk' res):CallG gs P f args bx bx' tk' res:=
 fun E w us h1 h2 h3=>h E w us h1 h2 (h3.sub hs)
theorem RepA.tup2{E:Env}{w:World}{x y:IV}{u v:Value}(h:RepI E.φ w x u)(k:RepI E.φ w y v):RepA E w (.tup [.iv x,.iv y]) (.tuple #[u,v]):=by
 refine .tup (us:= [u,v]) rfl (fun i c z hc hz=> ?_)
 match i with
 |0=>simp at hc hz;subst hc;subst hz;exact .iv h
 |1=>simp at hc hz;subst hc;subst hz;exact .iv k
 |i+2=>simp at hc
theorem Glob.one{gs:Globs}{E:Env}{w:World}{g:Nat}{v:Value}(h:Glob gs E w)(hm:(g,[IV.im v])∈gs):w.cell? ⟨g,0,none⟩=some v:=by
 obtain⟨_,u,h1,h2⟩:=h.2 g _ hm 0 _ rfl
 rw[h1,h2.im_eq]
def renF(π:Nat→Nat)(fr:List (Nat×AV)):List (Nat×AV):=fr.map (fun p=>(p.1,p.2.ren π))
theorem Inv.ren{c:Ctx}{E:Env}{st:St}{a:Act}{w:World}(π σ:Nat→Nat)(hσ: ∀n,σ (π n)=n)(hπ: ∀n,π (σ n)=n)(hf: ∀id∈c.ins,π id=id)(hi:Inv c E st a w):
 Inv c ⟨E.φ,fun i=>E.ρ (σ i),fun i=>E.η (σ i)⟩ ⟨renF π st.fr,renB π st.bx,renT π st.tk⟩ a w:=by
 have hE:(Env.of π ⟨E.φ,fun i=>E.ρ (σ i),fun i=>E.η (σ i)⟩)=E:=by simp[Env.of,hσ]
 have hfs: ∀id∈c.ins,σ id=id:=fun id h=>by have:=hσ id;rwa [hf id h] at this
 have hlu: ∀(i:Nat) (b:Box),(renB π st.bx).lookup i=some b→ ∃b0,st.bx.lookup (σ i)=some b0∧b0.ren π=b:=fun i b hb=>by
  unfold renB at hb;rw[lookup_ren' hσ hπ (Box.ren π),Option.map_eq_some_iff] at hb;exact hb
 have hlt: ∀(i:Nat) (t:Tok),(renT π st.tk).lookup i=some t→st.tk.lookup (σ i)=some t:=fun i t ht=>by
  unfold renT at ht
  have:=lookup_ren' hσ hπ (fun t:Tok=>t) st.tk i
  rw[this] at ht;simpa using ht
 have ho:=hi.heap
 refine⟨hi.defers,hi.size,fun s v hv=> ?_,fun i b hb hn=> ?_,fun i t ht=>ho.tok (σ i) t (hlt i t ht),fun i j b b' h1 h2 hn hn' he=> ?_,fun i j t t' g h1 h2 h3 h4=> ?_,fun i j b t h1 hn hj=> ?_,fun i b hb hn=> ?_,fun j t g hj hg=>ho.ownt (σ j) t g (hlt j t hj) hg,ho.new,ho.old,fun i hin=> ?_,ho.kept⟩
 · have hl:(renF π st.fr).lookup s=(st.fr.lookup s).map (AV.ren π):=lookup_map (AV.ren π) st.fr s
   rw[hl,Option.map_eq_some_iff] at hv
   obtain⟨v0,h0,rfl⟩:=hv
   exact RepA.doren v0 (by rw[hE];exact hi.slot s v0 h0)
 · obtain⟨b0,h0,rfl⟩:=hlu i b hb
   have:=BoxOk.doren (π:=π) (E:=⟨E.φ,fun i=>E.ρ (σ i),fun i=>E.η (σ i)⟩) (by rw[hE];exact ho.box (σ i) b0 h0 (Box.ren_ne.1 hn))
   rw[hπ] at this;exact this
 · obtain⟨b0,h0,rfl⟩:=hlu i b h1
   obtain⟨b1,h3,rfl⟩:=hlu j b' h2
   have:=ho.bb (σ i) (σ j) b0 b1 h0 h3 (Box.ren_ne.1 hn) (Box.ren_ne.1 hn') he
   rw[←hπ i,this,hπ]
 · have:=ho.tt (σ i) (σ j) t t' g (hlt i t h1) (hlt j t' h2) h3 h4
   rw[←hπ i,this,hπ]
 · obtain⟨b0,h0,rfl⟩:=hlu i b h1
   exact ho.bt (σ i) (σ j) b0 t h0 (Box.ren_ne.1 hn) (hlt j t hj)
 · obtain⟨b0,h0,rfl⟩:=hlu i b hb
   exact ho.own (σ i) b0 h0 (Box.ren_ne.1 hn)
 · obtain⟨e1,e2,e3⟩:=ho.ins i hin
   refine⟨by simpa[hfs i hin] using e1,by simpa[hfs i hin] using e2,?_⟩
   obtain⟨b,hb⟩:=Option.isSome_iff_exists.1 e3
   show(List.lookup i (renB π st.bx)).isSome=true
   unfold renB
   rw[show i=π i from(hf i hin).symm,lookup_ren hσ (Box.ren π),hb];rfl
theorem L.swap(l:List (Nat×Nat)){c:Ctx}{st:St}{f':List (Nat×AV)}{b':List (Nat×Box)}{t':List (Nat×Tok)}{X:Act→World→Prop}(hf:c.ins.all (fun id=>sws l id==id)=true)(h1:renF (sws l) st.fr=f')(h2:renB (sws l) st.bx=b')(h3:renT (sws l) st.tk=t')(h:L c ⟨f',b',t'⟩ X):L c st X:=by
 rintro a w ⟨E,hi⟩
 subst h1;subst h2;subst h3
 exact h a w ⟨_,hi.ren (sws l) (swsI l) (swsI_sws l) (sws_swsI l) (fun id hid=>by simpa using List.all_eq_true.1 hf id hid)⟩
section
variable {P:Program}{c:Ctx}{st:St}{ops:Array Oper}{Q:Exit→Act→World→Prop}{rest:List Oper}{o:Oper}
theorem L.callWG(N:List Nat){gs:Globs}{f:FuncId}{args:Array Operand}{ats:Array TypeId}{avs:List AV}{bxi bxo:List (Nat×Box)}{res:AV}{d:Nat}(hg:o.guard=none)(hd:o.dst=some d)(hlt:Nat.ble (d+1) c.nt=true)(hG:Glob gs c.E0 c.w0)
 (ho:o.op= .call {callee:= .value (.func f),args:=args,argTypes:=ats}) (hok:callOk P f=true) (hc:CallG gs P f avs bxi bxo [] res) (ha:Subs (args.toList.map st.ev) avs)
 (hbi:WkB st.bx bxi) (hN:N.all (fun id=>st.fresh id)=true) (hbo:boOk N bxi bxo=true) (hmb:bxo.all (fun p=>AV.mentsIn (N++keys bxi) p.2.cs)=true) (hmr:AV.mentIn (N++keys bxi) res=true)
 (h:L c ⟨(d,res)::st.fr,bxo++st.bx,st.tk⟩ (wpList P ops Q rest)):L c st (wpList P ops Q (o::rest)):=
 L.enterG N hg hd hlt hG (fun E a w hi=>by
   refine⟨args.toList.map a.eval,?_,(hi.evs args).sub ha⟩
   have hargs:(args.toList.map a.eval).toArray=args.map a.eval:=by apply Array.ext';simp
   rw[hargs]
   simp[execOp,ho,resolve,Act.eval,Deferred.ofValue,invoke,run_callOk hok]) hc hbi hN hbo rfl hmb hmr h
theorem s_callW(N:List Nat){fr:List (Nat×AV)}{bx:List (Nat×Box)}{tk:List (Nat×Tok)}{d:Nat}{ty:TypeId}{pos:String}{aft:Array Edge}{gs:Globs}{f:FuncId}{args:Array Operand}{ats:Array TypeId}{avs:List AV}{bxi bxo:List (Nat×Box)}{res:AV}(hlt:Nat.ble (d+1) c.nt=true)(hG:Glob gs c.E0 c.w0)[hok:CallTy P f]
 (hc:CallG gs P f avs bxi bxo [] res) (ha:Subs (args.toList.map (St.ev ⟨fr,bx,tk⟩)) avs) (hbi:WkB bx bxi) (hN:N.all (fun id=>St.fresh id ⟨fr,bx,tk⟩)=true) (hbo:boOk N bxi bxo=true) (hmb:bxo.all (fun p=>AV.mentsIn (N++keys bxi) p.2.cs)=true) (hmr:AV.mentIn (N++keys bxi) res=true)
 (h:LW P c ⟨(d,res)::fr,bxo++bx,tk⟩ ops Q rest):
 LW P c ⟨fr,bx,tk⟩ ops Q (⟨some d,.call {callee:= .value (.func f),args:=args,argTypes:=ats},ty,pos,aft,none⟩::rest):=
 .mk (L.callWG N (st:=⟨fr,bx,tk⟩) rfl rfl hlt hG rfl hok.h hc ha hbi hN hbo hmb hmr (LW.out h))
theorem L.callE{gs:Globs}(R:AV→Prop){f:FuncId}{args:Array Operand}{ats:Array TypeId}{zas:List AV}{d:Nat}(hg:o.guard=none)(hd:o.dst=some d)(hlt:Nat.ble (d+1) c.nt=true)(hG:Glob gs c.E0 c.w0)
 (ho:o.op= .call {callee:= .value (.func f),args:=args,argTypes:=ats}) (hok:callOk P f=true)
 (hc: ∀(E:Env) (w:World) (us:List Value),RelL E w zas us→Glob gs E w→Calls P f us.toArray w fun e w'=> ∃res u,R res∧e= .returned u∧RepA E w' res u∧Below w.heap.size w w') (ha:Subs (args.toList.map st.ev) zas)
 (hmr: ∀res,R res→AV.mentIn [] res=true) (h: ∀res,R res→L c ⟨(d,res)::st.fr,st.bx,st.tk⟩ (wpList P ops Q rest)):L c st (wpList P ops Q (o::rest)):=by
 rintro a w ⟨E,hi⟩
 refine wpList_plain hg (fun K hK=> ?_)
 have hrel:=(hi.evs args).sub ha
 have hargs:(args.toList.map a.eval).toArray=args.map a.eval:=by apply Array.ext';simp
 have hrun:(execOp a.eval o).run P w= .ok (.enter f (args.toList.map a.eval).toArray) w:=by
  rw[hargs]
  simp[execOp,ho,resolve,Deferred.ofValue,Act.eval,invoke,run_callOk hok]
 unfold Oper.wp
 rw[hrun,Oper.upon_enter]
 refine(hc E w _ hrel (hG.keep hi)).mono fun e w' ⟨res,u,hR,he,hu,hb⟩=> ?_
 subst he
 have hk:KeptBut (Ctx.M ⟨0,w,E,[]⟩) w w':=KeptBut.ofBelow hb
 have hh:HInv ⟨0,w,E,[]⟩ E [] [] w':=⟨fun id b h=>by simp at h,fun id t h=>by simp at h,fun i j b b' h=>by simp at h,fun i j t t' g h=>by simp at h,fun i j b t h=>by simp at h,fun i b h=>by simp at h,fun i t g h=>by simp at h,
  fun b hb'=>hi.heap.new b (Nat.le_trans hb.size hb'),fun b _=>rfl,fun id h=>by simp at h,hk⟩
 obtain⟨hj,monoN,monoC⟩:=hi.heap.join hh (bxi:= []) (N:= []) (fun id hid=>by cases hid) (fun id hid=>by simp[keys] at hid)
  (fun id hid=>by simp[keys] at hid) (fun id hid=>by simp[keys] at hid) (fun id b hb=>by simp at hb)
 refine hK _ _ ?_
 rw[hd]
 exact h res hR _ _ ⟨_,Inv.put (st:=⟨st.fr,[] ++st.bx,[] ++st.tk⟩) ⟨hi.defers,hi.size,fun s v hv=>monoC v _ (fun id hid=>by cases hid) (hi.slot s v hv),hj⟩ (Nat.le_of_ble_eq_true hlt) (monoN res u (hmr res hR) hu)⟩
theorem s_callE{gs:Globs}(R:AV→Prop){fr:List (Nat×AV)}{bx:List (Nat×Box)}{tk:List (Nat×Tok)}{d:Nat}{ty:TypeId}{pos:String}{aft:Array Edge}{f:FuncId}{args:Array Operand}{ats:Array TypeId}{zas:List AV}(hlt:Nat.ble (d+1) c.nt=true)(hG:Glob gs c.E0 c.w0)[hok:CallTy P f]
 (hc: ∀(E:Env) (w:World) (us:List Value),RelL E w zas us→Glob gs E w→Calls P f us.toArray w fun e w'=> ∃res u,R res∧e= .returned u∧RepA E w' res u∧Below w.heap.size w w') (ha:AV.pub.pubs (args.toList.map (St.ev ⟨fr,bx,tk⟩))=zas)
 (hmr: ∀res,R res→AV.mentIn [] res=true) (h: ∀res,R res→LW P c ⟨(d,res)::fr,bx,tk⟩ ops Q rest):
 LW P c ⟨fr,bx,tk⟩ ops Q (⟨some d,.call {callee:= .value (.func f),args:=args,argTypes:=ats},ty,pos,aft,none⟩::rest):=
 .mk (L.callE R (st:=⟨fr,bx,tk⟩) rfl rfl hlt hG rfl hok.h hc (.of_pub ha) hmr (fun res hR=>LW.out (h res hR)))
class IfTy (P:Program) (t:TypeId):Prop where
 h:P.underlying t=some (.interface (P.methodsAt t))
theorem v_neqIN{fr:List (Nat×AV)}{bx:List (Nat×Box)}{tk:List (Nat×Tok)}{d:Nat}{ty:TypeId}{pos:String}{aft:Array Edge}{x:Operand}{t t':TypeId}(hx:St.ev ⟨fr,bx,tk⟩ x= .iv (.im .nilIface))[ht:IfTy P t]:VV P c ⟨fr,bx,tk⟩ ⟨some d,.binOp .neq t x (.const .nilIface) t',ty,pos,aft,none⟩ (aB false) []:=
 .mk fun st' kE kL=> .im rfl fun E a w hi=>by
   have h:=hi.im ((kE x (by simp[Op.operands,Call.operands])).trans hx)
   simp[execOp,h,show a.eval (.const .nilIface)= .nilIface from rfl,eqGuard,run_neq_nil_nil w t ht.h]
theorem v_neqIS{fr:List (Nat×AV)}{bx:List (Nat×Box)}{tk:List (Nat×Tok)}{d:Nat}{ty:TypeId}{pos:String}{aft:Array Edge}{x:Operand}{t t' te:TypeId}{pe:Value}(hx:St.ev ⟨fr,bx,tk⟩ x= .iv (.im (.iface te pe)))[ht:IfTy P t]:VV P c ⟨fr,bx,tk⟩ ⟨some d,.binOp .neq t x (.const .nilIface) t',ty,pos,aft,none⟩ (aB true) []:=
 .mk fun st' kE kL=> .im rfl fun E a w hi=>by
   have h:=hi.im ((kE x (by simp[Op.operands,Call.operands])).trans hx)
   simp[execOp,h,show a.eval (.const .nilIface)= .nilIface from rfl,eqGuard,run_neq_held_nil w t te pe ht.h]
end
end Go.Abs
namespace Go.Proofs.YtadjbegnlimepaaGreatDoor
open Go.Abs
def pow10:List IV:=Lib.pow10Tab.map fun z=> .im (.int .u64 z)
def gsP[Errs]:Globs:=(6,[.im Errs.s])::(7,[.im Errs.r])::(8,pow10)::gs0
theorem gsP_s[Errs]:(6,[IV.im Errs.s])∈gsP:=by simp[gsP]
theorem gsP_r[Errs]:(7,[IV.im Errs.r])∈gsP:=by simp[gsP]
theorem gsP_p[Errs]:(8,pow10)∈gsP:=by simp[gsP]
theorem gsP_sub[Errs]: ∀p∈gs0,p∈gsP:=fun p h=>by simp only[gsP,List.mem_cons];exact .inr (.inr (.inr h))
theorem toP[Errs]{P:Program}{f:FuncId}{args:List AV}{bx bx':List (Nat×Box)}{tk':List (Nat×Tok)}{res:AV}(h:CallG gs0 P f args bx bx' tk' res):CallG gsP P f args bx bx' tk' res:=h.sub gsP_sub
attribute [irreducible] gsP
end Go.Proofs.YtadjbegnlimepaaGreatDoor
namespace Go.Proofs
open Go.Shelf
set_option maxRecDepth 100000
def Tryz.laysAtoi_ren:Go.Shelf.Ren:=⟨fun|172=>58|244=>76|245=>77|247=>90|279=>91|280=>92|281=>93|282=>94|287=>104|316=>105|171=>59|205=>106|321=>114|322=>115|243=>78|246=>95|283=>107|284=>108|285=>109|286=>110|129=>117|317=>116|318=>118|319=>119|320=>120|337=>124|338=>125|n=>n,fun|9=>9|3=>3|75=>89|76=>90|4=>4|5=>5|167=>117|37=>97|0=>0|85=>118|2=>2|168=>120|53=>143|175=>144|46=>116|210=>148|127=>113|145=>162|143=>160|21=>21|171=>150|173=>153|212=>164|51=>110|20=>20|213=>165|232=>171|233=>172|80=>61|n=>n,fun|15=>6|16=>7|17=>8|18=>9|19=>10|n=>n⟩
theorem Tryz.laysAtoi:Go.Proofs.LaysC.n172 Tryz.prog Tryz.laysAtoi_ren where
 mixed:=by kernel_rfl
 f129:=Tryz.func117.trans (congrArg some (by kernel_rfl))
 f171:=Tryz.func59.trans (congrArg some (by kernel_rfl))
 f172:=Tryz.func58.trans (congrArg some (by kernel_rfl))
 f205:=Tryz.func106.trans (congrArg some (by kernel_rfl))
 f243:=Tryz.func78.trans (congrArg some (by kernel_rfl))
 f244:=Tryz.func76.trans (congrArg some (by kernel_rfl))
 f245:=Tryz.func77.trans (congrArg some (by kernel_rfl))
 f246:=Tryz.func95.trans (congrArg some (by kernel_rfl))
 f247:=Tryz.func90.trans (congrArg some (by kernel_rfl))
 f279:=Tryz.func91.trans (congrArg some (by kernel_rfl))
 f280:=Tryz.func92.trans (congrArg some (by kernel_rfl))
 f281:=Tryz.func93.trans (congrArg some (by kernel_rfl))
 f282:=Tryz.func94.trans (congrArg some (by kernel_rfl))
 f283:=Tryz.func107.trans (congrArg some (by kernel_rfl))
 f284:=Tryz.func108.trans (congrArg some (by kernel_rfl))
 f285:=Tryz.func109.trans (congrArg some (by kernel_rfl))
 f286:=Tryz.func110.trans (congrArg some (by kernel_rfl))
 f287:=Tryz.func104.trans (congrArg some (by kernel_rfl))
 f316:=Tryz.func105.trans (congrArg some (by kernel_rfl))
 f317:=Tryz.func116.trans (congrArg some (by kernel_rfl))
 f318:=Tryz.func118.trans (congrArg some (by kernel_rfl))
 f319:=Tryz.func119.trans (congrArg some (by kernel_rfl))
 f320:=Tryz.func120.trans (congrArg some (by kernel_rfl))
 f321:=Tryz.func114.trans (congrArg some (by kernel_rfl))
 f322:=Tryz.func115.trans (congrArg some (by kernel_rfl))
 f337:=Tryz.func124.trans (congrArg some (by kernel_rfl))
 f338:=Tryz.func125.trans (congrArg some (by kernel_rfl))
 t0:=Tryz.underlying0
 a0:=Tryz.isAgg0
 z0:=Tryz.sizeOf0
 v0:=Tryz.zeroValue0
 t2:=Tryz.underlying2
 a2:=Tryz.isAgg2
 z2:=Tryz.sizeOf2
 v2:=Tryz.zeroValue2
 t3:=Tryz.underlying3
 a3:=Tryz.isAgg3
 z3:=Tryz.sizeOf3
 v3:=Tryz.zeroValue3
 t4:=Tryz.underlying4
 a4:=Tryz.isAgg4
 z4:=Tryz.sizeOf4
 v4:=Tryz.zeroValue4
 t5:=Tryz.underlying5
 a5:=Tryz.isAgg5
 z5:=Tryz.sizeOf5
 v5:=Tryz.zeroValue5
 t9:=Tryz.underlying9
 a9:=Tryz.isAgg9
 z9:=Tryz.sizeOf9
 v9:=Tryz.zeroValue9
 t20:=Tryz.underlying20
 a20:=Tryz.isAgg20
 z20:=Tryz.sizeOf20
 v20:=Tryz.zeroValue20
 t21:=Tryz.underlying21
 a21:=Tryz.isAgg21
 z21:=Tryz.sizeOf21
 v21:=Tryz.zeroValue21
 t37:=Tryz.underlying97
 a37:=Tryz.isAgg97
 z37:=Tryz.sizeOf97
 v37:=Tryz.zeroValue97
 t46:=Tryz.underlying116
 a46:=Tryz.isAgg116
 z46:=Tryz.sizeOf116
 v46:=Tryz.zeroValue116
 t51:=Tryz.underlying110
 a51:=Tryz.isAgg110
 z51:=Tryz.sizeOf110
 v51:=Tryz.zeroValue110
 t53:=Tryz.underlying143
 a53:=Tryz.isAgg143
 z53:=Tryz.sizeOf143
 v53:=Tryz.zeroValue143
 t75:=Tryz.underlying89
 a75:=Tryz.isAgg89
 z75:=Tryz.sizeOf89
 v75:=Tryz.zeroValue89
 t76:=Tryz.underlying90
 a76:=Tryz.isAgg90
 z76:=Tryz.sizeOf90
 v76:=Tryz.zeroValue90
 t85:=Tryz.underlying118
 a85:=Tryz.isAgg118
 z85:=Tryz.sizeOf118
 v85:=Tryz.zeroValue118
 t127:=Tryz.underlying113
 a127:=Tryz.isAgg113
 z127:=Tryz.sizeOf113
 v127:=Tryz.zeroValue113
 t143:=Tryz.underlying160
 a143:=Tryz.isAgg160
 z143:=Tryz.sizeOf160
 v143:=Tryz.zeroValue160
 t145:=Tryz.underlying162
 a145:=Tryz.isAgg162
 z145:=Tryz.sizeOf162
 v145:=Tryz.zeroValue162
 t167:=Tryz.underlying117
 a167:=Tryz.isAgg117
 z167:=Tryz.sizeOf117
 v167:=Tryz.zeroValue117
 t168:=Tryz.underlying120
 a168:=Tryz.isAgg120
 z168:=Tryz.sizeOf120
 v168:=Tryz.zeroValue120
 t171:=Tryz.underlying150
 a171:=Tryz.isAgg150
 z171:=Tryz.sizeOf150
 v171:=Tryz.zeroValue150
 t173:=Tryz.underlying153
 a173:=Tryz.isAgg153
 z173:=Tryz.sizeOf153
 v173:=Tryz.zeroValue153
 t175:=Tryz.underlying144
 a175:=Tryz.isAgg144
 z175:=Tryz.sizeOf144
 v175:=Tryz.zeroValue144
 t210:=Tryz.underlying148
 a210:=Tryz.isAgg148
 z210:=Tryz.sizeOf148
 v210:=Tryz.zeroValue148
 t212:=Tryz.underlying164
 a212:=Tryz.isAgg164
 z212:=Tryz.sizeOf164
 v212:=Tryz.zeroValue164
 t213:=Tryz.underlying165
 a213:=Tryz.isAgg165
 z213:=Tryz.sizeOf165
 t232:=Tryz.underlying171
 a232:=Tryz.isAgg171
 z232:=Tryz.sizeOf171
 v232:=Tryz.zeroValue171
 t233:=Tryz.underlying172
 a233:=Tryz.isAgg172
 z233:=Tryz.sizeOf172
 v233:=Tryz.zeroValue172
 g15:=by kernel_rfl
 g16:=by kernel_rfl
 g17:=by kernel_rfl
 g18:=by kernel_rfl
 g19:=by kernel_rfl
 t80:=Tryz.underlying61
 a80:=Tryz.isAgg61
 z80:=Tryz.sizeOf61
 v80:=Tryz.zeroValue61
 i0:=by kernel_rfl
 i2:=by kernel_rfl
 i3:=by kernel_rfl
 i4:=by kernel_rfl
 i5:=by kernel_rfl
 i9:=by kernel_rfl
 i20:=by kernel_rfl
 i21:=by kernel_rfl
 i37:=by kernel_rfl
 i46:=by kernel_rfl
 i51:=by kernel_rfl
 i53:=by kernel_rfl
 i75:=by kernel_rfl
 i76:=by kernel_rfl
 i80:=by kernel_rfl
 i85:=by kernel_rfl
 i127:=by kernel_rfl
 i143:=by kernel_rfl
 i145:=by kernel_rfl
 i167:=by kernel_rfl
 i168:=by kernel_rfl
 i171:=by kernel_rfl
 i173:=by kernel_rfl
 i175:=by kernel_rfl
 i210:=by kernel_rfl
 i212:=by kernel_rfl
 i232:=by kernel_rfl
 i233:=by kernel_rfl
 m15:=by kernel_rfl
 m16:=by kernel_rfl
 m17:=by kernel_rfl
 m18:=by kernel_rfl
 m19:=by kernel_rfl
 c0:=by kernel_rfl
 c2:=by kernel_rfl
 c3:=by kernel_rfl
 c4:=by kernel_rfl
 c5:=by kernel_rfl
 c9:=by kernel_rfl
 c20:=by kernel_rfl
 c21:=by kernel_rfl
 c37:=by kernel_rfl
 c46:=by kernel_rfl
 c51:=by kernel_rfl
 c53:=by kernel_rfl
 c75:=by kernel_rfl
 c76:=by kernel_rfl
 c80:=by kernel_rfl
 c85:=by kernel_rfl
 c127:=by kernel_rfl
 c143:=by kernel_rfl
 c145:=by kernel_rfl
 c167:=by kernel_rfl
 c168:=by kernel_rfl
 c171:=by kernel_rfl
 c173:=by kernel_rfl
 c175:=by kernel_rfl
 c210:=by kernel_rfl
 c212:=by kernel_rfl
 c213:=by kernel_rfl
 c232:=by kernel_rfl
 c233:=by kernel_rfl
def Tryz.laysItoa_ren:Go.Shelf.Ren:=⟨fun|171=>59|243=>78|246=>95|283=>107|284=>108|285=>109|286=>110|129=>117|317=>116|318=>118|319=>119|320=>120|337=>124|338=>125|n=>n,fun|3=>3|9=>9|2=>2|4=>4|171=>150|0=>0|53=>143|37=>97|5=>5|173=>153|212=>164|51=>110|20=>20|213=>165|46=>116|232=>171|233=>172|n=>n,fun|17=>8|18=>9|19=>10|n=>n⟩
theorem Tryz.laysItoa:Go.Proofs.LaysM.n171 Tryz.prog Tryz.laysItoa_ren where
 mixed:=by kernel_rfl
 f129:=Tryz.func117.trans (congrArg some (by kernel_rfl))
 f171:=Tryz.func59.trans (congrArg some (by kernel_rfl))
 f243:=Tryz.func78.trans (congrArg some (by kernel_rfl))
 f246:=Tryz.func95.trans (congrArg some (by kernel_rfl))
 f283:=Tryz.func107.trans (congrArg some (by kernel_rfl))
 f284:=Tryz.func108.trans (congrArg some (by kernel_rfl))
 f285:=Tryz.func109.trans (congrArg some (by kernel_rfl))
 f286:=Tryz.func110.trans (congrArg some (by kernel_rfl))
 f317:=Tryz.func116.trans (congrArg some (by kernel_rfl))
 f318:=Tryz.func118.trans (congrArg some (by kernel_rfl))
 f319:=Tryz.func119.trans (congrArg some (by kernel_rfl))
 f320:=Tryz.func120.trans (congrArg some (by kernel_rfl))
 f337:=Tryz.func124.trans (congrArg some (by kernel_rfl))
 f338:=Tryz.func125.trans (congrArg some (by kernel_rfl))
 t0:=Tryz.underlying0
 a0:=Tryz.isAgg0
 z0:=Tryz.sizeOf0
 v0:=Tryz.zeroValue0
 t2:=Tryz.underlying2
 a2:=Tryz.isAgg2
 z2:=Tryz.sizeOf2
 v2:=Tryz.zeroValue2
 t3:=Tryz.underlying3
 a3:=Tryz.isAgg3
 z3:=Tryz.sizeOf3
 v3:=Tryz.zeroValue3
 t4:=Tryz.underlying4
 a4:=Tryz.isAgg4
 z4:=Tryz.sizeOf4
 v4:=Tryz.zeroValue4
 t5:=Tryz.underlying5
 a5:=Tryz.isAgg5
 z5:=Tryz.sizeOf5
 v5:=Tryz.zeroValue5
 t9:=Tryz.underlying9
 a9:=Tryz.isAgg9
 z9:=Tryz.sizeOf9
 v9:=Tryz.zeroValue9
 t20:=Tryz.underlying20
 a20:=Tryz.isAgg20
 z20:=Tryz.sizeOf20
 v20:=Tryz.zeroValue20
 t37:=Tryz.underlying97
 a37:=Tryz.isAgg97
 z37:=Tryz.sizeOf97
 v37:=Tryz.zeroValue97
 t46:=Tryz.underlying116
 a46:=Tryz.isAgg116
 z46:=Tryz.sizeOf116
 v46:=Tryz.zeroValue116
 t51:=Tryz.underlying110
 a51:=Tryz.isAgg110
 z51:=Tryz.sizeOf110
 v51:=Tryz.zeroValue110
 t53:=Tryz.underlying143
 a53:=Tryz.isAgg143
 z53:=Tryz.sizeOf143
 v53:=Tryz.zeroValue143
 t171:=Tryz.underlying150
 a171:=Tryz.isAgg150
 z171:=Tryz.sizeOf150
 v171:=Tryz.zeroValue150
 t173:=Tryz.underlying153
 a173:=Tryz.isAgg153
 z173:=Tryz.sizeOf153
 v173:=Tryz.zeroValue153
 t212:=Tryz.underlying164
 a212:=Tryz.isAgg164
 z212:=Tryz.sizeOf164
 v212:=Tryz.zeroValue164
 t213:=Tryz.underlying165
 a213:=Tryz.isAgg165
 z213:=Tryz.sizeOf165
 t232:=Tryz.underlying171
 a232:=Tryz.isAgg171
 z232:=Tryz.sizeOf171
 v232:=Tryz.zeroValue171
 t233:=Tryz.underlying172
 a233:=Tryz.isAgg172
 z233:=Tryz.sizeOf172
 v233:=Tryz.zeroValue172
 g17:=by kernel_rfl
 g18:=by kernel_rfl
 g19:=by kernel_rfl
 i0:=by kernel_rfl
 i2:=by kernel_rfl
 i3:=by kernel_rfl
 i4:=by kernel_rfl
 i5:=by kernel_rfl
 i9:=by kernel_rfl
 i20:=by kernel_rfl
 i37:=by kernel_rfl
 i46:=by kernel_rfl
 i51:=by kernel_rfl
 i53:=by kernel_rfl
 i171:=by kernel_rfl
 i173:=by kernel_rfl
 i212:=by kernel_rfl
 i232:=by kernel_rfl
 i233:=by kernel_rfl
 m17:=by kernel_rfl
 m18:=by kernel_rfl
 m19:=by kernel_rfl
end Go.Proofs
namespace Go.Proofs.YtadjbegnlimepaaGreatDoor
open Go.Abs
set_option maxRecDepth 100000
attribute [local irreducible] L Code.wp bodyPost Exit.then Exit.inBlock
set_option linter.unusedVariables false
set_option linter.unusedSimpArgs false
end Go.Proofs.YtadjbegnlimepaaGreatDoor
namespace Go.Proofs.YtadjbegnlimepaaGreatDoor
open Go.Abs
set_option maxRecDepth 100000
attribute [local irreducible] L Code.wp bodyPost Exit.then Exit.inBlock
set_option linter.unusedVariables false
set_option linter.unusedSimpArgs false
structure Val where
 k:Int
 n:Int
 s:List UInt8
def Val.c(v:Val):List IV:= [I v.k,I v.n,S v.s]
def charOk(b:UInt8):Bool:=32≤b.toNat && b.toNat≤126 && b.toNat !=39
def goodM(v:Val):Bool:=
 if v.k=0 then v.n==0 && v.s== []
 else if v.k=1 then v.s== [] && (-1000000≤v.n && v.n≤1000000)
 else if v.k=2 then v.n==0 && (v.s.length≤8 && v.s.all charOk)
 else false
theorem good_any(v:Val):CallA Tryz.prog 123 [.agg (v.c.map .iv)] [] [] [] (aB (goodM v)):=by
 obtain⟨k,n,s⟩:=v
 refine CallA.intro 63 Tryz.func123 rfl rfl rfl (fun w0 E0=> ?_)
 (repeat' (first|refine wk1 ?_|refine wk2 (fun hb hp=> ?_) (fun hb hp=> ?_)|fail))
 all_goals try refine wkf ?_
 all_goals try (simp[goodM, *];done)
 all_goals try (simp[goodM, *];intros;omega)
 rename_i hk0 hk0' hk1 hk1' hk2 hk2' hn hn'
 subst hk2';subst hn'
 have hg:goodM ⟨2,0,s⟩=s.all charOk:=by simp[goodM];omega
 rw[hg]
 refine L.loopP (ι:=Nat) (fun i=>⟨[(40,aI (i:Int)),(39,aI (s.length:Int)),(1,.ptr 1 0)],[(1,⟨35,.l [.iv (I 2),.iv (I 0),.iv (S s)]⟩)],[]⟩) (fun i=>s.length - i) (fun i=>s.all charOk=(s.drop i).all charOk) (i0:=0) ?_ rfl ?_
 · exact wkk
 intro i hi K hK
 cases hv:s[i]? with
 |none=>
  have hlt:=ltF hv
  (repeat' (first|refine wk1 ?_|refine wk2 (fun hb hp=> ?_) (fun hb hp=> ?_)|fail))
  all_goals refine wkf ?_
  rw[hi,dropN hv];rfl
 |some b=>
  have hlt:=ltT hv
  have hlt':=ltN hv
  rw[dropC hv,List.all_cons] at hi
  (repeat' (first|refine wk1 ?_|refine wk2 (fun hb hp=> ?_) (fun hb hp=> ?_)|fail))
  all_goals try refine wkf ?_
  all_goals try (rw[hi];simp[charOk, *];done)
  all_goals try (rw[hi];simp[charOk, *];intros;omega)
  refine hK _ (i+1) ?_ (by omega) ?_
  · have h1:charOk b=true:=by
     simp[charOk];omega
    rw[hi,h1];rfl
  · exact wkk
end Go.Proofs.YtadjbegnlimepaaGreatDoor
namespace Go.Proofs.YtadjbegnlimepaaGreatDoor
open Go.Abs
set_option maxRecDepth 100000
attribute [local irreducible] L Code.wp bodyPost Exit.then Exit.inBlock
set_option linter.unusedVariables false
set_option linter.unusedSimpArgs false
def u8(n:Int):UInt8:=UInt8.ofNat (IntKind.u8.wrap n).toNat
theorem u8_wrap(n:Int):(((u8 n).toNat:Nat):Int)=IntKind.u8.wrap n:=by
 rw[u8,UInt8.toNat_ofNat']
 have:IntKind.u8.wrap n=n % 256:=IntKind.wrap_u8 n
 rw[this];omega
def be4(x:Int):List UInt8:= [u8 (x / 16777216),u8 (x / 65536),u8 (x / 256),u8 x]
end Go.Proofs.YtadjbegnlimepaaGreatDoor
namespace Go.Proofs.YtadjbegnlimepaaGreatDoor
open Go.Abs
set_option maxRecDepth 100000
attribute [local irreducible] L Code.wp bodyPost Exit.then Exit.inBlock
set_option linter.unusedVariables false
set_option linter.unusedSimpArgs false
set_option maxRecDepth 100000
section
variable {s:List UInt8}{acc:List Val}{b:UInt8}{r r':List UInt8}{v:Val}
end
end Go.Proofs.YtadjbegnlimepaaGreatDoor
namespace Go.Proofs.YtadjbegnlimepaaGreatDoor
open Go.Abs
set_option maxRecDepth 100000
attribute [local irreducible] L Code.wp bodyPost Exit.then Exit.inBlock
set_option linter.unusedVariables false
set_option linter.unusedSimpArgs false
end Go.Proofs.YtadjbegnlimepaaGreatDoor
namespace Go.Proofs.YtadjbegnlimepaaGreatDoor
open Go.Abs
set_option linter.unusedVariables false
set_option linter.unusedSimpArgs false
end Go.Proofs.YtadjbegnlimepaaGreatDoor
namespace Go.Proofs.YtadjbegnlimepaaGreatDoor
open Go.Abs
set_option maxRecDepth 100000
attribute [local irreducible] L Code.wp bodyPost Exit.then Exit.inBlock
set_option linter.unusedVariables false
set_option linter.unusedSimpArgs false
end Go.Proofs.YtadjbegnlimepaaGreatDoor
namespace Go.Proofs.YtadjbegnlimepaaGreatDoor
open Go.Abs
set_option maxRecDepth 100000
attribute [local irreducible] L Code.wp bodyPost Exit.then Exit.inBlock
set_option linter.unusedVariables false
set_option linter.unusedSimpArgs false
set_option linter.unusedSectionVars false
variable [Dr]
end Go.Proofs.YtadjbegnlimepaaGreatDoor
namespace Go.Proofs.YtadjbegnlimepaaGreatDoor
open Go.Abs
set_option maxRecDepth 100000
attribute [local irreducible] L Code.wp bodyPost Exit.then Exit.inBlock
set_option linter.unusedVariables false
set_option linter.unusedSimpArgs false
def nilV:Val:=⟨0,0,[]⟩
end Go.Proofs.YtadjbegnlimepaaGreatDoor
namespace Go.Proofs.YtadjbegnlimepaaGreatDoor
open Go.Abs
set_option maxRecDepth 100000
attribute [local irreducible] L Code.wp bodyPost Exit.then Exit.inBlock
set_option linter.unusedVariables false
set_option linter.unusedSimpArgs false
end Go.Proofs.YtadjbegnlimepaaGreatDoor
namespace Go.Proofs.YtadjbegnlimepaaGreatDoor
open Go.Abs
set_option maxRecDepth 100000
attribute [local irreducible] L Code.wp bodyPost Exit.then Exit.inBlock
set_option linter.unusedVariables false
set_option linter.unusedSimpArgs false
inductive Ex where
 |mk (op:Int) (v:Val) (s name:List UInt8) (n:Int) (l:List Ex)
def Ex.op:Ex→Int| .mk op _ _ _ _ _=>op
def Ex.v:Ex→Val| .mk _ v _ _ _ _=>v
def Ex.s:Ex→List UInt8| .mk _ _ s _ _ _=>s
def Ex.name:Ex→List UInt8| .mk _ _ _ s _ _=>s
def Ex.n:Ex→Int| .mk _ _ _ _ n _=>n
def Ex.l:Ex→List Ex| .mk _ _ _ _ _ l=>l
def Ex.c:Ex→List IV
 | .mk op v s name n l=> [I op,I v.k,I v.n,S v.s,S s,S name,I n,.sl (l.attach.map fun x=>x.1.c)]
 decreasing_by
  have:=List.sizeOf_lt_of_mem x.2
  simp;omega
theorem Ex.c_eq(op:Int)(v:Val)(s name:List UInt8)(n:Int)(l:List Ex):Ex.c (.mk op v s name n l)= [I op,I v.k,I v.n,S v.s,S s,S name,I n,.sl (l.map Ex.c)]:=by
 rw[Ex.c];simp[List.attach_map_val]
end Go.Proofs.YtadjbegnlimepaaGreatDoor
namespace Go.Proofs.YtadjbegnlimepaaGreatDoor
open Go.Abs
set_option linter.unusedVariables false
set_option linter.unusedSimpArgs false
end Go.Proofs.YtadjbegnlimepaaGreatDoor
namespace Go.Abs
open Go.RowKit (Below)
set_option linter.unusedVariables false
inductive WkE (bx:List (Nat×Box)):List (Nat×Box)→Prop
 |nil:WkE bx []
 |cons {id:Nat} {b:Box} {r:List (Nat×Box)} (h:bx.lookup id=some b) (t:WkE bx r):WkE bx ((id,b)::r)
theorem WkE.b{bx l:List (Nat×Box)}(h:WkE bx l):WkB bx l:=by
 induction h with
 |nil=>exact .nil
 |cons h _ ih=>exact .cons h rfl (Subs.refl _) ih
theorem WkE.get{bx l:List (Nat×Box)}(h:WkE bx l): ∀id b,l.lookup id=some b→bx.lookup id=some b:=by
 induction h with
 |nil=>intro id b hb;cases hb
 | @cons i b' r h _ ih=>
   intro id b hb
   by_cases e:id=i
   · subst e;rw[lookup_cons_eq] at hb;cases hb;exact h
   · rw[lookup_cons_ne e] at hb;exact ih id b hb
theorem WkE.of{bx bx' l:List (Nat×Box)}(h:WkE bx l)(k: ∀id∈keys l,bx'.lookup id=bx.lookup id):WkE bx' l:=by
 induction h with
 |nil=>exact .nil
 |cons h _ ih=>exact .cons ((k _ (by simp[keys])).trans h) (ih (fun id hid=>k id (by simp only[keys,List.map_cons,List.mem_cons] at hid⊢;exact .inr hid)))
section
variable {P:Program}{c:Ctx}{ops:Array Oper}{Q:Exit→Act→World→Prop}{rest:List Oper}
 {fr:List (Nat×AV)} {bx:List (Nat×Box)} {tk:List (Nat×Tok)} {d:Nat} {ty:TypeId} {pos:String} {aft:Array Edge}
theorem s_callFnK{gs:Globs}{f:FuncId}{x:Operand}{args:Array Operand}{ats:Array TypeId}{avs caps:List AV}{bxi:List (Nat×Box)}{res:AV}(hlt:Nat.ble (d+1) c.nt=true)(hG:Glob gs c.E0 c.w0)(hx:St.ev ⟨fr,bx,tk⟩ x= .fn f caps)[hok:CallTy P f]
 (hc:CallG gs P f (avs++caps) bxi bxi [] res) (ha:AV.pub.pubs (args.toList.map (St.ev ⟨fr,bx,tk⟩))=avs) (hbi:WkE bx bxi) (hbo:boOk [] bxi bxi=true) (hmb:bxi.all (fun p=>AV.mentsIn ([] ++keys bxi) p.2.cs)=true) (hmr:AV.mentIn ([] ++keys bxi) res=true)
 (h:LW P c ⟨(d,res)::fr,bx,tk⟩ ops Q rest):
 LW P c ⟨fr,bx,tk⟩ ops Q (⟨some d,.call {callee:= .value x,args:=args,argTypes:=ats},ty,pos,aft,none⟩::rest):=by
 refine .mk (fun a w hr=> ?_)
 obtain⟨E,hi⟩:=id hr
 refine L.callFnW [] (st:=⟨fr,bx,tk⟩) rfl rfl hlt hG rfl hx hok.h hc (.of_pub ha) hbi.b rfl hbo hmb hmr (L.wk (st':=⟨(d,res)::fr,bx,tk⟩) ⟨fun id hid=>(hi.heap.ins id hid).2.2,fun s v hv=>⟨v,hv,Sub.refl _⟩,fun id b hb=> ?_,fun id t ht=>ht⟩ (LW.out h)) a w hr
 cases hl:bxi.lookup id with
 |none=>exact⟨b,by show(bxi++bx).lookup id=some b;rw[List.lookup_append,hl];exact hb,rfl,Subs.refl _⟩
 |some b'=>
  have:=hbi.get id b' hl
  rw[this] at hb;cases hb
  exact⟨b,by show(bxi++bx).lookup id=some b;rw[List.lookup_append,hl];rfl,rfl,Subs.refl _⟩
theorem d_callFnK{st0:St}{done:List Eff}{gs:Globs}{f:FuncId}{x:Operand}{args:Array Operand}{ats:Array TypeId}{avs caps:List AV}{bxi:List (Nat×Box)}{res:AV}(hlt:Nat.ble (d+1) c.nt=true)(hG:Glob gs c.E0 c.w0)(hx:St.ev ⟨fr,bx,tk⟩ x= .fn f caps)[hok:CallTy P f]
 (hc:CallG gs P f (avs++caps) bxi bxi [] res) (ha:AV.pub.pubs (args.toList.map (St.ev ⟨fr,bx,tk⟩))=avs) (hbi:WkE bx bxi) (hbo:boOk [] bxi bxi=true) (hmb:bxi.all (fun p=>AV.mentsIn ([] ++keys bxi) p.2.cs)=true) (hmr:AV.mentIn ([] ++keys bxi) res=true)
 (h:DR P c ops Q st0 (⟨some (d,res),[],[],[],keys bxi,[],[]⟩::done) ⟨(d,res)::fr,bx,tk⟩ rest):DR P c ops Q st0 done ⟨fr,bx,tk⟩ (⟨some d,.call {callee:= .value x,args:=args,argTypes:=ats},ty,pos,aft,none⟩::rest):=
 DR.cons (e:=⟨some (d,res),[],[],[],keys bxi,[],[]⟩) (fun st' hag Q' hL=>LW.out (s_callFnK (fr:=st'.fr) (bx:=st'.bx) (tk:=st'.tk) hlt hG ((hag.ev x (by simp[Op.operands,Call.operands])).trans hx) hc ((by rw[agL hag.ev (fun x hx=>by simp[Op.operands,Call.operands,hx])];exact ha)) (hbi.of (fun id hid=>hag.bx id hid)) hbo hmb hmr (s_nil hL))) h
end
end Go.Abs
namespace Go.Proofs
open Go.Shelf
set_option maxRecDepth 100000
def Tryz.laysJoin_ren:Go.Shelf.Ren:=⟨fun|156=>38|165=>62|166=>63|169=>64|240=>80|241=>81|276=>98|277=>99|n=>n,fun|31=>32|9=>9|3=>3|4=>4|0=>0|20=>20|72=>99|76=>90|70=>96|37=>97|75=>89|127=>113|164=>135|5=>5|80=>61|n=>n,fun|n=>n⟩
theorem Tryz.laysJoin:Go.Proofs.Lays.n156 Tryz.prog Tryz.laysJoin_ren where
 mixed:=by kernel_rfl
 f156:=Tryz.func38.trans (congrArg some (by kernel_rfl))
 f165:=Tryz.func62.trans (congrArg some (by kernel_rfl))
 f166:=Tryz.func63.trans (congrArg some (by kernel_rfl))
 f169:=Tryz.func64.trans (congrArg some (by kernel_rfl))
 f240:=Tryz.func80.trans (congrArg some (by kernel_rfl))
 f241:=Tryz.func81.trans (congrArg some (by kernel_rfl))
 f276:=Tryz.func98.trans (congrArg some (by kernel_rfl))
 f277:=Tryz.func99.trans (congrArg some (by kernel_rfl))
 t0:=Tryz.underlying0
 a0:=Tryz.isAgg0
 z0:=Tryz.sizeOf0
 v0:=Tryz.zeroValue0
 t3:=Tryz.underlying3
 a3:=Tryz.isAgg3
 z3:=Tryz.sizeOf3
 v3:=Tryz.zeroValue3
 t4:=Tryz.underlying4
 a4:=Tryz.isAgg4
 z4:=Tryz.sizeOf4
 v4:=Tryz.zeroValue4
 t9:=Tryz.underlying9
 a9:=Tryz.isAgg9
 z9:=Tryz.sizeOf9
 v9:=Tryz.zeroValue9
 t20:=Tryz.underlying20
 a20:=Tryz.isAgg20
 z20:=Tryz.sizeOf20
 v20:=Tryz.zeroValue20
 t31:=Tryz.underlying32
 a31:=Tryz.isAgg32
 z31:=Tryz.sizeOf32
 v31:=Tryz.zeroValue32
 t37:=Tryz.underlying97
 a37:=Tryz.isAgg97
 z37:=Tryz.sizeOf97
 v37:=Tryz.zeroValue97
 t70:=Tryz.underlying96
 a70:=Tryz.isAgg96
 z70:=Tryz.sizeOf96
 v70:=Tryz.zeroValue96
 t72:=Tryz.underlying99
 a72:=Tryz.isAgg99
 z72:=Tryz.sizeOf99
 v72:=Tryz.zeroValue99
 t75:=Tryz.underlying89
 a75:=Tryz.isAgg89
 z75:=Tryz.sizeOf89
 v75:=Tryz.zeroValue89
 t76:=Tryz.underlying90
 a76:=Tryz.isAgg90
 z76:=Tryz.sizeOf90
 v76:=Tryz.zeroValue90
 t127:=Tryz.underlying113
 a127:=Tryz.isAgg113
 z127:=Tryz.sizeOf113
 v127:=Tryz.zeroValue113
 t164:=Tryz.underlying135
 a164:=Tryz.isAgg135
 z164:=Tryz.sizeOf135
 v164:=Tryz.zeroValue135
def Tryz.laysFields_ren:Go.Shelf.Ren:=⟨fun|157=>37|229=>60|199=>61|261=>79|311=>96|312=>97|n=>n,fun|9=>9|31=>32|3=>3|5=>5|4=>4|119=>93|0=>0|40=>95|152=>107|21=>21|154=>109|51=>110|141=>112|196=>127|193=>124|198=>130|49=>128|194=>125|201=>133|226=>155|46=>116|227=>156|n=>n,fun|0=>1|6=>2|n=>n⟩
theorem Tryz.laysFields:Go.Proofs.Lays.n157 Tryz.prog Tryz.laysFields_ren where
 mixed:=by kernel_rfl
 f157:=Tryz.func37.trans (congrArg some (by kernel_rfl))
 f199:=Tryz.func61.trans (congrArg some (by kernel_rfl))
 f229:=Tryz.func60.trans (congrArg some (by kernel_rfl))
 f261:=Tryz.func79.trans (congrArg some (by kernel_rfl))
 f311:=Tryz.func96.trans (congrArg some (by kernel_rfl))
 f312:=Tryz.func97.trans (congrArg some (by kernel_rfl))
 t0:=Tryz.underlying0
 a0:=Tryz.isAgg0
 z0:=Tryz.sizeOf0
 v0:=Tryz.zeroValue0
 t3:=Tryz.underlying3
 a3:=Tryz.isAgg3
 z3:=Tryz.sizeOf3
 v3:=Tryz.zeroValue3
 t4:=Tryz.underlying4
 a4:=Tryz.isAgg4
 z4:=Tryz.sizeOf4
 v4:=Tryz.zeroValue4
 t5:=Tryz.underlying5
 a5:=Tryz.isAgg5
 z5:=Tryz.sizeOf5
 v5:=Tryz.zeroValue5
 t9:=Tryz.underlying9
 a9:=Tryz.isAgg9
 z9:=Tryz.sizeOf9
 v9:=Tryz.zeroValue9
 t21:=Tryz.underlying21
 a21:=Tryz.isAgg21
 z21:=Tryz.sizeOf21
 v21:=Tryz.zeroValue21
 t31:=Tryz.underlying32
 a31:=Tryz.isAgg32
 z31:=Tryz.sizeOf32
 v31:=Tryz.zeroValue32
 t40:=Tryz.underlying95
 a40:=Tryz.isAgg95
 z40:=Tryz.sizeOf95
 v40:=Tryz.zeroValue95
 t46:=Tryz.underlying116
 a46:=Tryz.isAgg116
 z46:=Tryz.sizeOf116
 v46:=Tryz.zeroValue116
 t49:=Tryz.underlying128
 a49:=Tryz.isAgg128
 z49:=Tryz.sizeOf128
 v49:=Tryz.zeroValue128
 t51:=Tryz.underlying110
 a51:=Tryz.isAgg110
 z51:=Tryz.sizeOf110
 v51:=Tryz.zeroValue110
 t119:=Tryz.underlying93
 a119:=Tryz.isAgg93
 z119:=Tryz.sizeOf93
 t141:=Tryz.underlying112
 a141:=Tryz.isAgg112
 z141:=Tryz.sizeOf112
 v141:=Tryz.zeroValue112
 t152:=Tryz.underlying107
 a152:=Tryz.isAgg107
 z152:=Tryz.sizeOf107
 v152:=Tryz.zeroValue107
 t154:=Tryz.underlying109
 a154:=Tryz.isAgg109
 z154:=Tryz.sizeOf109
 v154:=Tryz.zeroValue109
 t193:=Tryz.underlying124
 a193:=Tryz.isAgg124
 z193:=Tryz.sizeOf124
 v193:=Tryz.zeroValue124
 t194:=Tryz.underlying125
 a194:=Tryz.isAgg125
 z194:=Tryz.sizeOf125
 v194:=Tryz.zeroValue125
 t196:=Tryz.underlying127
 a196:=Tryz.isAgg127
 z196:=Tryz.sizeOf127
 v196:=Tryz.zeroValue127
 t198:=Tryz.underlying130
 a198:=Tryz.isAgg130
 z198:=Tryz.sizeOf130
 v198:=Tryz.zeroValue130
 t201:=Tryz.underlying133
 a201:=Tryz.isAgg133
 z201:=Tryz.sizeOf133
 v201:=Tryz.zeroValue133
 t226:=Tryz.underlying155
 a226:=Tryz.isAgg155
 z226:=Tryz.sizeOf155
 v226:=Tryz.zeroValue155
 t227:=Tryz.underlying156
 a227:=Tryz.isAgg156
 z227:=Tryz.sizeOf156
 v227:=Tryz.zeroValue156
 g0:=by kernel_rfl
 g6:=by kernel_rfl
end Go.Proofs
