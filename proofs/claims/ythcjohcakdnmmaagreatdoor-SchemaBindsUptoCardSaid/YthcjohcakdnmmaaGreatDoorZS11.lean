/- Several texts in one, each with its own sentence ahead of it. Conditions: each one says its own. -/
import Derived.Test.YthcjohcakdnmmaaGreatDoorZS10
set_option linter.all false
namespace Go.Abs
variable [Dr]
set_option linter.unusedSectionVars false
set_option linter.unusedVariables false
set_option linter.unusedSimpArgs false
class VarTy (P:Program) (t:TypeId) (agg:outParam Bool) (k:outParam Nat):Prop where
 h:varOk P t agg k=true
class FieldTy (P:Program) (s:TypeId) (f:Nat) (fo:outParam Nat):Prop where
 h:fieldOk P s f fo=true
class SliceTy (P:Program) (t:TypeId) (e:outParam TypeId) (k:outParam Nat):Prop where
 h:sliceOk P t e k=true
class StrTy (P:Program) (t:TypeId):Prop where
 h:P.underlying t=some .string
class BoolTy (P:Program) (t:TypeId):Prop where
 h:P.underlying t=some .bool
class IntTy (P:Program) (t:TypeId) (k:outParam IntKind):Prop where
 h:P.underlying t=some (.int k)
class ZeroTy (P:Program) (t:TypeId) (zs:outParam (List Value)):Prop where
 h:zeroCellsOf P t=some zs
class PlacesTy (P:Program) (t:TypeId) (pl:outParam (List (Nat×Nat))):Prop where
 h:placesOf P t=some pl
class CallTy (P:Program) (f:FuncId):Prop where
 h:callOk P f=true
class EqTy (P:Program) (t:TypeId) (ks:outParam (List Nat)):Prop where
 h:eqOk P t ks=true
class IdxTy (P:Program) (f:FuncId):Prop where
 h:extOk P f Extern.BytealgIndexByte.indexByte
class ArrTy (P:Program) (t:TypeId) (e:outParam TypeId) (n:outParam Nat):Prop where
 h:arrOk P t e n=true
class FldTy (P:Program) (s:TypeId) (f:Nat) (fo:outParam Nat):Prop where
 h:fldOk P s f fo=true
class PtrTy (P:Program) (t:TypeId):Prop where
 h:P.underlying t=some (.pointer (P.pointee t))
class MixTy (P:Program):Prop where
 h:P.follows .mixedOrders=true
def appOk(P:Program)(t:TypeId)(e:TypeId)(k bytes:Nat):Bool:=
 sliceOk P t e k && (match P.info? e with|some i=>i.bytes==bytes && (match i.zero with|some z=>z.cells.size==k|none=>false)|none=>false) && (Nat.ble 1 k && Nat.ble bytes 100000)
class AppTy (P:Program) (t:TypeId) (e:outParam TypeId) (k bytes:outParam Nat):Prop where
 h:appOk P t e k bytes=true
theorem appOk_run{P:Program}{t e:TypeId}{k bytes:Nat}(h:appOk P t e k bytes=true):
 P.underlying t=some (.slice e)∧0<k∧ ∃(i:TypeInfo) (z:Value),P.info? e=some i∧i.size=k∧i.bytes=bytes∧i.zero=some z∧z.cells.size=k∧bytes≤100000:=by
 unfold appOk at h
 simp only[Bool.and_eq_true] at h
 obtain⟨⟨h1,h2⟩,h3,h6⟩:=h
 obtain⟨hu,i,hi,hs⟩:=sliceOk_run h1
 rw[hi] at h2
 simp only[Bool.and_eq_true,beq_iff_eq] at h2
 obtain⟨h4,h5⟩:=h2
 cases hz:i.zero with
 |none=>rw[hz] at h5;simp at h5
 |some z=>rw[hz] at h5;exact⟨hu,Nat.le_of_ble_eq_true h3,i,z,hi,hs,h4,hz,by simpa using h5,Nat.le_of_ble_eq_true h6⟩
theorem zero_alloc{P:Program}{t:TypeId}{zs:List Value}(h:zeroCellsOf P t=some zs): ∃z,(P.info? t).bind (·.zero)=some z∧z.cells.toList=zs:=by
 unfold zeroCellsOf at h
 exact Option.map_eq_some_iff.1 h
def LW(P:Program)(c:Ctx)(st:St)(ops:Array Oper)(Q:Exit→Act→World→Prop)(l:List Oper):Prop:=L c st (wpList P ops Q l)
def VV(P:Program)(c:Ctx)(st:St)(o:Oper)(v:AV)(tb:List Nat):Prop:=
 ∀st':St,(∀x∈o.op.operands,st'.ev x=st.ev x)→(∀id∈tb,st'.bx.lookup id=st.bx.lookup id)→Yields P c st' o v
theorem VV.out{P:Program}{c:Ctx}{st:St}{o:Oper}{v:AV}{tb:List Nat}(h:VV P c st o v tb): ∀st':St,(∀x∈o.op.operands,st'.ev x=st.ev x)→(∀id∈tb,st'.bx.lookup id=st.bx.lookup id)→Yields P c st' o v:=h
theorem agP{st st':St}{ps:Array Operand}(he: ∀x∈ps,st'.ev x=st.ev x){parts:Array (Nat×Operand)}(h: ∀x∈parts,x.2∈ps):
 (parts.toList.map fun x=>(x.1,st'.ev x.2))=parts.toList.map fun x=>(x.1,st.ev x.2):=
 List.map_congr_left fun x hx=>by rw[he x.2 (h x (by simpa using hx))]
theorem agL{st st':St}{ps:Array Operand}(he: ∀x∈ps,st'.ev x=st.ev x){args:Array Operand}(h: ∀x∈args,x∈ps):
 (args.toList.map st'.ev)=args.toList.map st.ev:=
 List.map_congr_left fun x hx=>he x (h x (by simpa using hx))
section
variable {P:Program}{c:Ctx}{fr:List (Nat×AV)}{bx:List (Nat×Box)}{tk:List (Nat×Tok)}{ops:Array Oper}{Q:Exit→Act→World→Prop}{rest:List Oper}
 {d:Nat} {ty:TypeId} {pos:String} {aft:Array Edge}
theorem s_vr{v:AV}{tb:List Nat}{op:Op}(hlt:Nat.ble (d+1) c.nt=true)(hv:VV P c ⟨fr,bx,tk⟩ ⟨some d,op,ty,pos,aft,none⟩ v tb)(h:LW P c ⟨(d,v)::fr,bx,tk⟩ ops Q rest):
 LW P c ⟨fr,bx,tk⟩ ops Q (⟨some d,op,ty,pos,aft,none⟩::rest):=L.val (st:=⟨fr,bx,tk⟩) rfl rfl hlt (hv _ (fun _ _=>rfl) (fun _ _=>rfl)) h
theorem v_mv{x:Operand}{v:AV}(hx:St.ev ⟨fr,bx,tk⟩ x=v):VV P c ⟨fr,bx,tk⟩ ⟨some d,.move x,ty,pos,aft,none⟩ (v) []:=
 fun st' kE kL=>((kE x (by simp[Op.operands,Call.operands])).trans hx)▸ .move rfl
theorem v_as{x:Operand}{v:AV}(hx:St.ev ⟨fr,bx,tk⟩ x=v):VV P c ⟨fr,bx,tk⟩ ⟨some d,.assign x,ty,pos,aft,none⟩ (v) []:=
 fun st' kE kL=>((kE x (by simp[Op.operands,Call.operands])).trans hx)▸ .assign rfl
theorem v_addI{x y:Operand}{t t':TypeId}{m n:Int}(hx:St.ev ⟨fr,bx,tk⟩ x=aI m)(hy:St.ev ⟨fr,bx,tk⟩ y=aI n)(hlo: -9223372036854775808≤m+n)(hhi:m+n≤9223372036854775807):VV P c ⟨fr,bx,tk⟩ ⟨some d,.binOp .add t x y t',ty,pos,aft,none⟩ (aI (m+n)) []:=
 fun st' kE kL=> .addI rfl ((kE x (by simp[Op.operands,Call.operands])).trans hx) ((kE y (by simp[Op.operands,Call.operands])).trans hy) hlo hhi
theorem v_subI{x y:Operand}{t t':TypeId}{m n:Int}(hx:St.ev ⟨fr,bx,tk⟩ x=aI m)(hy:St.ev ⟨fr,bx,tk⟩ y=aI n)(hlo: -9223372036854775808≤m - n)(hhi:m - n≤9223372036854775807):VV P c ⟨fr,bx,tk⟩ ⟨some d,.binOp .sub t x y t',ty,pos,aft,none⟩ (aI (m - n)) []:=
 fun st' kE kL=> .subI rfl ((kE x (by simp[Op.operands,Call.operands])).trans hx) ((kE y (by simp[Op.operands,Call.operands])).trans hy) hlo hhi
theorem v_mulI{x y:Operand}{t t':TypeId}{m n:Int}(hx:St.ev ⟨fr,bx,tk⟩ x=aI m)(hy:St.ev ⟨fr,bx,tk⟩ y=aI n)(hlo: -9223372036854775808≤m*n)(hhi:m*n≤9223372036854775807):VV P c ⟨fr,bx,tk⟩ ⟨some d,.binOp .mul t x y t',ty,pos,aft,none⟩ (aI (m*n)) []:=
 fun st' kE kL=> .mulI rfl ((kE x (by simp[Op.operands,Call.operands])).trans hx) ((kE y (by simp[Op.operands,Call.operands])).trans hy) hlo hhi
theorem v_eqlI{x y:Operand}{t t':TypeId}{k:IntKind}{m n:Int}(hx:St.ev ⟨fr,bx,tk⟩ x= .iv (.im (.int k m)))(hy:St.ev ⟨fr,bx,tk⟩ y= .iv (.im (.int k n))):VV P c ⟨fr,bx,tk⟩ ⟨some d,.binOp .eql t x y t',ty,pos,aft,none⟩ (aB (m==n)) []:=
 fun st' kE kL=> .eqlI rfl ((kE x (by simp[Op.operands,Call.operands])).trans hx) ((kE y (by simp[Op.operands,Call.operands])).trans hy)
theorem v_neqI{x y:Operand}{t t':TypeId}{k:IntKind}{m n:Int}(hx:St.ev ⟨fr,bx,tk⟩ x= .iv (.im (.int k m)))(hy:St.ev ⟨fr,bx,tk⟩ y= .iv (.im (.int k n))):VV P c ⟨fr,bx,tk⟩ ⟨some d,.binOp .neq t x y t',ty,pos,aft,none⟩ (aB (m !=n)) []:=
 fun st' kE kL=> .neqI rfl ((kE x (by simp[Op.operands,Call.operands])).trans hx) ((kE y (by simp[Op.operands,Call.operands])).trans hy)
theorem v_lssI{x y:Operand}{t t':TypeId}{k:IntKind}{m n:Int}(hx:St.ev ⟨fr,bx,tk⟩ x= .iv (.im (.int k m)))(hy:St.ev ⟨fr,bx,tk⟩ y= .iv (.im (.int k n))):VV P c ⟨fr,bx,tk⟩ ⟨some d,.binOp .lss t x y t',ty,pos,aft,none⟩ (aB (decide (m<n))) []:=
 fun st' kE kL=> .lssI rfl ((kE x (by simp[Op.operands,Call.operands])).trans hx) ((kE y (by simp[Op.operands,Call.operands])).trans hy)
theorem v_leqI{x y:Operand}{t t':TypeId}{k:IntKind}{m n:Int}(hx:St.ev ⟨fr,bx,tk⟩ x= .iv (.im (.int k m)))(hy:St.ev ⟨fr,bx,tk⟩ y= .iv (.im (.int k n))):VV P c ⟨fr,bx,tk⟩ ⟨some d,.binOp .leq t x y t',ty,pos,aft,none⟩ (aB (decide (m≤n))) []:=
 fun st' kE kL=> .leqI rfl ((kE x (by simp[Op.operands,Call.operands])).trans hx) ((kE y (by simp[Op.operands,Call.operands])).trans hy)
theorem v_gtrI{x y:Operand}{t t':TypeId}{k:IntKind}{m n:Int}(hx:St.ev ⟨fr,bx,tk⟩ x= .iv (.im (.int k m)))(hy:St.ev ⟨fr,bx,tk⟩ y= .iv (.im (.int k n))):VV P c ⟨fr,bx,tk⟩ ⟨some d,.binOp .gtr t x y t',ty,pos,aft,none⟩ (aB (decide (n<m))) []:=
 fun st' kE kL=> .gtrI rfl ((kE x (by simp[Op.operands,Call.operands])).trans hx) ((kE y (by simp[Op.operands,Call.operands])).trans hy)
theorem v_geqI{x y:Operand}{t t':TypeId}{k:IntKind}{m n:Int}(hx:St.ev ⟨fr,bx,tk⟩ x= .iv (.im (.int k m)))(hy:St.ev ⟨fr,bx,tk⟩ y= .iv (.im (.int k n))):VV P c ⟨fr,bx,tk⟩ ⟨some d,.binOp .geq t x y t',ty,pos,aft,none⟩ (aB (decide (n≤m))) []:=
 fun st' kE kL=> .geqI rfl ((kE x (by simp[Op.operands,Call.operands])).trans hx) ((kE y (by simp[Op.operands,Call.operands])).trans hy)
theorem v_eqlS{x y:Operand}{t t':TypeId}{m n:List UInt8}(hx:St.ev ⟨fr,bx,tk⟩ x=aS m)(hy:St.ev ⟨fr,bx,tk⟩ y=aS n):VV P c ⟨fr,bx,tk⟩ ⟨some d,.binOp .eql t x y t',ty,pos,aft,none⟩ (aB (m==n)) []:=
 fun st' kE kL=> .eqlS rfl ((kE x (by simp[Op.operands,Call.operands])).trans hx) ((kE y (by simp[Op.operands,Call.operands])).trans hy)
theorem v_neqS{x y:Operand}{t t':TypeId}{m n:List UInt8}(hx:St.ev ⟨fr,bx,tk⟩ x=aS m)(hy:St.ev ⟨fr,bx,tk⟩ y=aS n):VV P c ⟨fr,bx,tk⟩ ⟨some d,.binOp .neq t x y t',ty,pos,aft,none⟩ (aB (!(m==n))) []:=
 fun st' kE kL=> .neqS rfl ((kE x (by simp[Op.operands,Call.operands])).trans hx) ((kE y (by simp[Op.operands,Call.operands])).trans hy)
theorem v_lssS{x y:Operand}{t t':TypeId}{m n:List UInt8}(hx:St.ev ⟨fr,bx,tk⟩ x=aS m)(hy:St.ev ⟨fr,bx,tk⟩ y=aS n):VV P c ⟨fr,bx,tk⟩ ⟨some d,.binOp .lss t x y t',ty,pos,aft,none⟩ (aB (Op.bytesLess m n)) []:=
 fun st' kE kL=> .lssS rfl ((kE x (by simp[Op.operands,Call.operands])).trans hx) ((kE y (by simp[Op.operands,Call.operands])).trans hy)
theorem v_leqS{x y:Operand}{t t':TypeId}{m n:List UInt8}(hx:St.ev ⟨fr,bx,tk⟩ x=aS m)(hy:St.ev ⟨fr,bx,tk⟩ y=aS n):VV P c ⟨fr,bx,tk⟩ ⟨some d,.binOp .leq t x y t',ty,pos,aft,none⟩ (aB (Op.bytesLess m n||m==n)) []:=
 fun st' kE kL=> .leqS rfl ((kE x (by simp[Op.operands,Call.operands])).trans hx) ((kE y (by simp[Op.operands,Call.operands])).trans hy)
theorem v_gtrS{x y:Operand}{t t':TypeId}{m n:List UInt8}(hx:St.ev ⟨fr,bx,tk⟩ x=aS m)(hy:St.ev ⟨fr,bx,tk⟩ y=aS n):VV P c ⟨fr,bx,tk⟩ ⟨some d,.binOp .gtr t x y t',ty,pos,aft,none⟩ (aB (!(Op.bytesLess m n||m==n))) []:=
 fun st' kE kL=> .gtrS rfl ((kE x (by simp[Op.operands,Call.operands])).trans hx) ((kE y (by simp[Op.operands,Call.operands])).trans hy)
theorem v_geqS{x y:Operand}{t t':TypeId}{m n:List UInt8}(hx:St.ev ⟨fr,bx,tk⟩ x=aS m)(hy:St.ev ⟨fr,bx,tk⟩ y=aS n):VV P c ⟨fr,bx,tk⟩ ⟨some d,.binOp .geq t x y t',ty,pos,aft,none⟩ (aB (!(Op.bytesLess m n))) []:=
 fun st' kE kL=> .geqS rfl ((kE x (by simp[Op.operands,Call.operands])).trans hx) ((kE y (by simp[Op.operands,Call.operands])).trans hy)
theorem v_addS{x y:Operand}{t t':TypeId}{m n:List UInt8}(hx:St.ev ⟨fr,bx,tk⟩ x=aS m)(hy:St.ev ⟨fr,bx,tk⟩ y=aS n)(hl:m.length+n.length≤9223372036854775807):VV P c ⟨fr,bx,tk⟩ ⟨some d,.binOp .add t x y t',ty,pos,aft,none⟩ (aS (m++n)) []:=
 fun st' kE kL=> .addS rfl ((kE x (by simp[Op.operands,Call.operands])).trans hx) ((kE y (by simp[Op.operands,Call.operands])).trans hy) hl
theorem v_eqlB{x y:Operand}{t t':TypeId}{m n:Bool}(hx:St.ev ⟨fr,bx,tk⟩ x=aB m)(hy:St.ev ⟨fr,bx,tk⟩ y=aB n)[ht:BoolTy P t]:VV P c ⟨fr,bx,tk⟩ ⟨some d,.binOp .eql t x y t',ty,pos,aft,none⟩ (aB (m==n)) []:=
 fun st' kE kL=> .eqlB rfl ((kE x (by simp[Op.operands,Call.operands])).trans hx) ((kE y (by simp[Op.operands,Call.operands])).trans hy) ht.h
theorem v_neqB{x y:Operand}{t t':TypeId}{m n:Bool}(hx:St.ev ⟨fr,bx,tk⟩ x=aB m)(hy:St.ev ⟨fr,bx,tk⟩ y=aB n)[ht:BoolTy P t]:VV P c ⟨fr,bx,tk⟩ ⟨some d,.binOp .neq t x y t',ty,pos,aft,none⟩ (aB (!(m==n))) []:=
 fun st' kE kL=> .neqB rfl ((kE x (by simp[Op.operands,Call.operands])).trans hx) ((kE y (by simp[Op.operands,Call.operands])).trans hy) ht.h
theorem v_eqlPN{x y:Operand}{t t':TypeId}(hx:St.ev ⟨fr,bx,tk⟩ x=aNil)(hy:St.ev ⟨fr,bx,tk⟩ y=aNil)[ht:PtrTy P t]:VV P c ⟨fr,bx,tk⟩ ⟨some d,.binOp .eql t x y t',ty,pos,aft,none⟩ (aB true) []:=
 fun st' kE kL=> .eqlPN rfl ((kE x (by simp[Op.operands,Call.operands])).trans hx) ((kE y (by simp[Op.operands,Call.operands])).trans hy) ht.h
theorem v_neqPN{x y:Operand}{t t':TypeId}(hx:St.ev ⟨fr,bx,tk⟩ x=aNil)(hy:St.ev ⟨fr,bx,tk⟩ y=aNil)[ht:PtrTy P t]:VV P c ⟨fr,bx,tk⟩ ⟨some d,.binOp .neq t x y t',ty,pos,aft,none⟩ (aB false) []:=
 fun st' kE kL=> .neqPN rfl ((kE x (by simp[Op.operands,Call.operands])).trans hx) ((kE y (by simp[Op.operands,Call.operands])).trans hy) ht.h
theorem v_eqlPP{x y:Operand}{t t':TypeId}{id off:Nat}(hx:St.ev ⟨fr,bx,tk⟩ x= .ptr id off)(hy:St.ev ⟨fr,bx,tk⟩ y=aNil)[ht:PtrTy P t]:VV P c ⟨fr,bx,tk⟩ ⟨some d,.binOp .eql t x y t',ty,pos,aft,none⟩ (aB false) []:=
 fun st' kE kL=> .eqlPP rfl ((kE x (by simp[Op.operands,Call.operands])).trans hx) ((kE y (by simp[Op.operands,Call.operands])).trans hy) ht.h
theorem v_neqPP{x y:Operand}{t t':TypeId}{id off:Nat}(hx:St.ev ⟨fr,bx,tk⟩ x= .ptr id off)(hy:St.ev ⟨fr,bx,tk⟩ y=aNil)[ht:PtrTy P t]:VV P c ⟨fr,bx,tk⟩ ⟨some d,.binOp .neq t x y t',ty,pos,aft,none⟩ (aB true) []:=
 fun st' kE kL=> .neqPP rfl ((kE x (by simp[Op.operands,Call.operands])).trans hx) ((kE y (by simp[Op.operands,Call.operands])).trans hy) ht.h
theorem v_not{x:Operand}{t:TypeId}{b:Bool}(hx:St.ev ⟨fr,bx,tk⟩ x=aB b):VV P c ⟨fr,bx,tk⟩ ⟨some d,.unOp .not t x,ty,pos,aft,none⟩ (aB (!b)) []:=
 fun st' kE kL=> .not rfl ((kE x (by simp[Op.operands,Call.operands])).trans hx)
theorem v_negI{x:Operand}{t:TypeId}{m:Int}(hx:St.ev ⟨fr,bx,tk⟩ x=aI m)(hlo: -9223372036854775808≤0 - m)(hhi:0 - m≤9223372036854775807):VV P c ⟨fr,bx,tk⟩ ⟨some d,.unOp .neg t x,ty,pos,aft,none⟩ (aI (0 - m)) []:=
 fun st' kE kL=> .negI rfl ((kE x (by simp[Op.operands,Call.operands])).trans hx) hlo hhi
theorem v_conv{x:Operand}{s t:TypeId}{k k0 k':IntKind}{m:Int}(hx:St.ev ⟨fr,bx,tk⟩ x= .iv (.im (.int k m)))[ht:IntTy P t k'][hs:IntTy P s k0]:VV P c ⟨fr,bx,tk⟩ ⟨some d,.convert s t x,ty,pos,aft,none⟩ (.iv (.im (.int k' (k'.wrap m)))) []:=
 fun st' kE kL=> .conv rfl ((kE x (by simp[Op.operands,Call.operands])).trans hx) ht.h (by rw[hs.h];rfl)
theorem v_arith{x y:Operand}{t t':TypeId}{op:BinOp}{k:IntKind}{m n r:Int}(hx:St.ev ⟨fr,bx,tk⟩ x= .iv (.im (.int k m)))(hy:St.ev ⟨fr,bx,tk⟩ y= .iv (.im (.int k n)))(hr: ∀w,(binOp op t (.int k m) (.int k n)).run P w= .ok (.int k r) w)(hq: ∀w,(eqGuard op t x y (.int k m) (.int k n)).run P w= .ok () w):VV P c ⟨fr,bx,tk⟩ ⟨some d,.binOp op t x y t',ty,pos,aft,none⟩ (.iv (.im (.int k r))) []:=
 fun st' kE kL=> .arith rfl ((kE x (by simp[Op.operands,Call.operands])).trans hx) ((kE y (by simp[Op.operands,Call.operands])).trans hy) hr hq
theorem v_lenS{x:Operand}{t:TypeId}{m:List UInt8}(hx:St.ev ⟨fr,bx,tk⟩ x=aS m)[ht:StrTy P t]:VV P c ⟨fr,bx,tk⟩ ⟨some d,.call {callee:= .builtin .len,args:= #[x],argTypes:= #[t]},ty,pos,aft,none⟩ (aI m.length) []:=
 fun st' kE kL=> .lenS rfl ((kE x (by simp[Op.operands,Call.operands])).trans hx) ht.h
theorem v_lenSl{x:Operand}{t e:TypeId}{k:Nat}{es:List (List IV)}(hx:(St.ev ⟨fr,bx,tk⟩ x).sl?=some es)[hs:SliceTy P t e k]:VV P c ⟨fr,bx,tk⟩ ⟨some d,.call {callee:= .builtin .len,args:= #[x],argTypes:= #[t]},ty,pos,aft,none⟩ (aI es.length) []:=
 fun st' kE kL=> .lenSl rfl hs.h ((congrArg AV.sl? (kE x (by simp[Op.operands,Call.operands]))).trans hx)
theorem v_indexS{x i:Operand}{t:TypeId}{m:List UInt8}{k:IntKind}{n:Int}{b:UInt8}(hx:St.ev ⟨fr,bx,tk⟩ x=aS m)(hn:St.ev ⟨fr,bx,tk⟩ i= .iv (.im (.int k n)))[ht:StrTy P t](h0:0≤n)(hb:m[n.toNat]?=some b):VV P c ⟨fr,bx,tk⟩ ⟨some d,.index t x i,ty,pos,aft,none⟩ (.iv (.im (.int .u8 b.toNat))) []:=
 fun st' kE kL=> .indexS rfl ((kE x (by simp[Op.operands,Call.operands])).trans hx) ((kE i (by simp[Op.operands,Call.operands])).trans hn) ht.h h0 hb
theorem v_indexD{x i:Operand}{t:TypeId}{m:List UInt8}{k:IntKind}{n:Int}(hx:St.ev ⟨fr,bx,tk⟩ x=aS m)(hn:St.ev ⟨fr,bx,tk⟩ i= .iv (.im (.int k n)))[ht:StrTy P t](h0:0≤n)(h1:n<m.length):VV P c ⟨fr,bx,tk⟩ ⟨some d,.index t x i,ty,pos,aft,none⟩ (.iv (.im (.int .u8 (m.getD n.toNat 0).toNat))) []:=
 fun st' kE kL=> .indexD rfl ((kE x (by simp[Op.operands,Call.operands])).trans hx) ((kE i (by simp[Op.operands,Call.operands])).trans hn) ht.h h0 h1
theorem v_fieldP{s:TypeId}{x:Operand}{f fo id off off':Nat}(hx:St.ev ⟨fr,bx,tk⟩ x= .ptr id off)[hf:FieldTy P s f fo](ho:off+fo=off'):VV P c ⟨fr,bx,tk⟩ ⟨some d,.fieldAddr s x f,ty,pos,aft,none⟩ (.ptr id off') []:=
 fun st' kE kL=>ho▸ .fieldP rfl ((kE x (by simp[Op.operands,Call.operands])).trans hx) hf.h
theorem v_fieldE{s:TypeId}{x:Operand}{f fo:Nat}{cs cs':List IV}(hx:St.ev ⟨fr,bx,tk⟩ x= .el cs)[hf:FieldTy P s f fo](hc:cs.drop fo=cs'):VV P c ⟨fr,bx,tk⟩ ⟨some d,.fieldAddr s x f,ty,pos,aft,none⟩ (.el cs') []:=
 fun st' kE kL=>hc▸ .fieldE rfl ((kE x (by simp[Op.operands,Call.operands])).trans hx) hf.h
theorem v_indexA{t e:TypeId}{x i:Operand}{k:Nat}{kd:IntKind}{n:Int}{es:List (List IV)}{cs:List IV}(hx:(St.ev ⟨fr,bx,tk⟩ x).sl?=some es)(hn:St.ev ⟨fr,bx,tk⟩ i= .iv (.im (.int kd n)))[hs:SliceTy P t e k](h0:0≤n)(hc:es[n.toNat]?=some cs)(hl:cs.length=k):VV P c ⟨fr,bx,tk⟩ ⟨some d,.indexAddr t x i,ty,pos,aft,none⟩ (.el cs) []:=
 fun st' kE kL=> .indexAddr rfl hs.h ((congrArg AV.sl? (kE x (by simp[Op.operands,Call.operands]))).trans hx) ((kE i (by simp[Op.operands,Call.operands])).trans hn) h0 hc hl
theorem v_load1P{t:TypeId}{x:Operand}{id off:Nat}{b:Box}{v:AV}(hx:St.ev ⟨fr,bx,tk⟩ x= .ptr id off)[ht:VarTy P t false 1](hb:bx.lookup id=some b)(hv:b.cs[off]?=some v):VV P c ⟨fr,bx,tk⟩ ⟨some d,.load t x,ty,pos,aft,none⟩ (v) [id]:=
 fun st' kE kL=> .load1P rfl ht.h ((kE x (by simp[Op.operands,Call.operands])).trans hx) ((kL id (by simp)).trans hb) hv
theorem v_loadAP{t:TypeId}{x:Operand}{id off k:Nat}{b:Box}{cs:List AV}(hx:St.ev ⟨fr,bx,tk⟩ x= .ptr id off)[ht:VarTy P t true k](hb:bx.lookup id=some b)(hc:(b.cs.drop off).take k=cs)(hk:cs.length=k):VV P c ⟨fr,bx,tk⟩ ⟨some d,.load t x,ty,pos,aft,none⟩ (.agg cs) [id]:=
 fun st' kE kL=>hc▸ .loadAP rfl ht.h ((kE x (by simp[Op.operands,Call.operands])).trans hx) ((kL id (by simp)).trans hb) (hc.symm▸hk)
theorem v_load1E{t:TypeId}{x:Operand}{y:IV}{cs:List IV}(hx:St.ev ⟨fr,bx,tk⟩ x= .el cs)[ht:VarTy P t false 1](hy:cs[0]?=some y):VV P c ⟨fr,bx,tk⟩ ⟨some d,.load t x,ty,pos,aft,none⟩ (.iv y) []:=
 fun st' kE kL=> .load1E rfl ht.h ((kE x (by simp[Op.operands,Call.operands])).trans hx) hy
theorem v_loadAE{t:TypeId}{x:Operand}{k:Nat}{cs:List IV}{vs:List AV}(hx:St.ev ⟨fr,bx,tk⟩ x= .el cs)[ht:VarTy P t true k](hc:(cs.take k).map AV.iv=vs)(hk:vs.length=k):VV P c ⟨fr,bx,tk⟩ ⟨some d,.load t x,ty,pos,aft,none⟩ (.agg vs) []:=
 fun st' kE kL=>hc▸ .loadAE rfl ht.h ((kE x (by simp[Op.operands,Call.operands])).trans hx) (by rw[←List.length_map (f:=AV.iv),hc];exact hk)
theorem v_extract{x:Operand}{i:Nat}{vs:List AV}{v:AV}(hx:St.ev ⟨fr,bx,tk⟩ x= .tup vs)(hv:vs[i]?=some v):VV P c ⟨fr,bx,tk⟩ ⟨some d,.extract x i,ty,pos,aft,none⟩ (v) []:=
 fun st' kE kL=> .extract rfl ((kE x (by simp[Op.operands,Call.operands])).trans hx) hv
theorem v_nilP{x:Operand}{id off:Nat}(hx:St.ev ⟨fr,bx,tk⟩ x= .ptr id off):VV P c ⟨fr,bx,tk⟩ ⟨some d,.nilCheck x,ty,pos,aft,none⟩ (.ptr id off) []:=
 fun st' kE kL=> .nilCheckP rfl ((kE x (by simp[Op.operands,Call.operands])).trans hx)
theorem v_nilE{x:Operand}{cs:List IV}(hx:St.ev ⟨fr,bx,tk⟩ x= .el cs):VV P c ⟨fr,bx,tk⟩ ⟨some d,.nilCheck x,ty,pos,aft,none⟩ (.el cs) []:=
 fun st' kE kL=> .nilCheckE rfl ((kE x (by simp[Op.operands,Call.operands])).trans hx)
theorem v_build{t:TypeId}{parts:Array (Nat×Operand)}{zs:List Value}{pl:List (Nat×Nat)}{cs:List AV}[hz:ZeroTy P t zs](h1:zs.all (·.oneCell')=true)[hp:PlacesTy P t pl](hf:fillA (pl[·]?) (zs.map constCell) (parts.toList.map fun x=>(x.1,St.ev ⟨fr,bx,tk⟩ x.2))=some cs):VV P c ⟨fr,bx,tk⟩ ⟨some d,.build t parts,ty,pos,aft,none⟩ (.agg cs) []:=
 fun st' kE kL=> .build rfl hz.h h1 hp.h (by rw[agP kE (fun x hx=>by simp only[Op.operands];exact List.mem_toArray.2 (List.mem_map.2 ⟨x,by simpa using hx,rfl⟩))];exact hf)
theorem v_eqlAgg{x y:Operand}{t t':TypeId}{cs ds:List AV}{ks:List Nat}{b:Bool}(hx:St.ev ⟨fr,bx,tk⟩ x= .agg cs)(hy:St.ev ⟨fr,bx,tk⟩ y= .agg ds)[hok:EqTy P t ks](hn:cs.map vKind=ks)(hb:eqVs cs ds=some b):VV P c ⟨fr,bx,tk⟩ ⟨some d,.binOp .eql t x y t',ty,pos,aft,none⟩ (aB (b)) []:=
 fun st' kE kL=> .eqlAgg rfl ((kE x (by simp[Op.operands,Call.operands])).trans hx) ((kE y (by simp[Op.operands,Call.operands])).trans hy) hok.h hn hb
theorem v_neqAgg{x y:Operand}{t t':TypeId}{cs ds:List AV}{ks:List Nat}{b:Bool}(hx:St.ev ⟨fr,bx,tk⟩ x= .agg cs)(hy:St.ev ⟨fr,bx,tk⟩ y= .agg ds)[hok:EqTy P t ks](hn:cs.map vKind=ks)(hb:eqVs cs ds=some b):VV P c ⟨fr,bx,tk⟩ ⟨some d,.binOp .neq t x y t',ty,pos,aft,none⟩ (aB (!b)) []:=
 fun st' kE kL=> .neqAgg rfl ((kE x (by simp[Op.operands,Call.operands])).trans hx) ((kE y (by simp[Op.operands,Call.operands])).trans hy) hok.h hn hb
theorem v_shrI{x y:Operand}{t t':TypeId}{k k':IntKind}{m n:Int}(hx:St.ev ⟨fr,bx,tk⟩ x= .iv (.im (.int k m)))(hy:St.ev ⟨fr,bx,tk⟩ y= .iv (.im (.int k' n)))(h0:0≤n):VV P c ⟨fr,bx,tk⟩ ⟨some d,.binOp .shr t x y t',ty,pos,aft,none⟩ (.iv (.im (.int k (m.fdiv (2 ^ min n.toNat k.bits))))) []:=
 fun st' kE kL=> .shrI rfl ((kE x (by simp[Op.operands,Call.operands])).trans hx) ((kE y (by simp[Op.operands,Call.operands])).trans hy) h0
theorem v_shlI{x y:Operand}{t t':TypeId}{k k':IntKind}{m n:Int}(hx:St.ev ⟨fr,bx,tk⟩ x= .iv (.im (.int k m)))(hy:St.ev ⟨fr,bx,tk⟩ y= .iv (.im (.int k' n)))(h0:0≤n):VV P c ⟨fr,bx,tk⟩ ⟨some d,.binOp .shl t x y t',ty,pos,aft,none⟩ (.iv (.im (.int k (k.wrap (m*2 ^ min n.toNat k.bits))))) []:=
 fun st' kE kL=> .shlI rfl ((kE x (by simp[Op.operands,Call.operands])).trans hx) ((kE y (by simp[Op.operands,Call.operands])).trans hy) h0
theorem v_orI{x y:Operand}{t t':TypeId}{k:IntKind}{m n:Int}(hx:St.ev ⟨fr,bx,tk⟩ x= .iv (.im (.int k m)))(hy:St.ev ⟨fr,bx,tk⟩ y= .iv (.im (.int k n))):VV P c ⟨fr,bx,tk⟩ ⟨some d,.binOp .or t x y t',ty,pos,aft,none⟩ (.iv (.im (.int k (k.wrap ((BitVec.ofInt k.bits m|||BitVec.ofInt k.bits n).toNat:Int))))) []:=
 fun st' kE kL=> .orI rfl ((kE x (by simp[Op.operands,Call.operands])).trans hx) ((kE y (by simp[Op.operands,Call.operands])).trans hy)
theorem v_orA{x y:Operand}{t t':TypeId}{m n a p:Int}(i:Nat)(hx:St.ev ⟨fr,bx,tk⟩ x=aI m)(hy:St.ev ⟨fr,bx,tk⟩ y=aI n)(hp:(2:Int)^ i=p)(hm:m=a*p)(ha:0≤a)(h1:a*p+p≤9223372036854775807)(hn:0≤n)(h2:n<p):VV P c ⟨fr,bx,tk⟩ ⟨some d,.binOp .or t x y t',ty,pos,aft,none⟩ (aI (m+n)) []:=
 fun st' kE kL=> .orA i rfl ((kE x (by simp[Op.operands,Call.operands])).trans hx) ((kE y (by simp[Op.operands,Call.operands])).trans hy) hp hm ha h1 hn h2
theorem v_shlA{x y:Operand}{t t':TypeId}{k':IntKind}{m n p:Int}(hx:St.ev ⟨fr,bx,tk⟩ x=aI m)(hy:St.ev ⟨fr,bx,tk⟩ y= .iv (.im (.int k' n)))(h0:0≤n)(hp:(2:Int)^ min n.toNat 64=p)(hlo: -9223372036854775808≤m*p)(hhi:m*p≤9223372036854775807):VV P c ⟨fr,bx,tk⟩ ⟨some d,.binOp .shl t x y t',ty,pos,aft,none⟩ (aI (m*p)) []:=
 fun st' kE kL=> .shlA rfl ((kE x (by simp[Op.operands,Call.operands])).trans hx) ((kE y (by simp[Op.operands,Call.operands])).trans hy) h0 hp hlo hhi
theorem v_convU8{x:Operand}{s t:TypeId}{k0:IntKind}{b:UInt8}(hx:St.ev ⟨fr,bx,tk⟩ x= .iv (.im (.int .u8 (b.toNat:Int))))[ht:IntTy P t .i64][hs:IntTy P s k0]:VV P c ⟨fr,bx,tk⟩ ⟨some d,.convert s t x,ty,pos,aft,none⟩ (aI (b.toNat:Int)) []:=
 fun st' kE kL=> .convU8 rfl ((kE x (by simp[Op.operands,Call.operands])).trans hx) ht.h (by rw[hs.h];rfl)
theorem v_quoI{x y:Operand}{t t':TypeId}{m n:Int}(hx:St.ev ⟨fr,bx,tk⟩ x=aI m)(hy:St.ev ⟨fr,bx,tk⟩ y=aI n)(hn:0<n)(hlo: -9223372036854775808≤m)(hhi:m≤9223372036854775807):VV P c ⟨fr,bx,tk⟩ ⟨some d,.binOp .quo t x y t',ty,pos,aft,none⟩ (aI (m.tdiv n)) []:=
 fun st' kE kL=> .quoI rfl ((kE x (by simp[Op.operands,Call.operands])).trans hx) ((kE y (by simp[Op.operands,Call.operands])).trans hy) hn hlo hhi
theorem v_remI{x y:Operand}{t t':TypeId}{k:IntKind}{m n:Int}(hx:St.ev ⟨fr,bx,tk⟩ x= .iv (.im (.int k m)))(hy:St.ev ⟨fr,bx,tk⟩ y= .iv (.im (.int k n)))(hn:0<n):VV P c ⟨fr,bx,tk⟩ ⟨some d,.binOp .rem t x y t',ty,pos,aft,none⟩ (.iv (.im (.int k (m.tmod n)))) []:=
 fun st' kE kL=> .remI rfl ((kE x (by simp[Op.operands,Call.operands])).trans hx) ((kE y (by simp[Op.operands,Call.operands])).trans hy) hn
theorem v_sliceSl{x y:Operand}{t:TypeId}{m m':List UInt8}{k:IntKind}{n:Int}(hx:St.ev ⟨fr,bx,tk⟩ x=aS m)(hy:St.ev ⟨fr,bx,tk⟩ y= .iv (.im (.int k n)))[ht:StrTy P t](h0:0≤n)(h1:n≤m.length)(hm:m.drop n.toNat=m'):VV P c ⟨fr,bx,tk⟩ ⟨some d,.slice t x (some y) none none,ty,pos,aft,none⟩ (aS m') []:=
 fun st' kE kL=>hm▸ .sliceSl rfl ((kE x (by simp[Op.operands,Call.operands])).trans hx) ((kE y (by simp[Op.operands,Call.operands])).trans hy) ht.h h0 h1
theorem v_sliceSh{x y:Operand}{t:TypeId}{m m':List UInt8}{k:IntKind}{n:Int}(hx:St.ev ⟨fr,bx,tk⟩ x=aS m)(hy:St.ev ⟨fr,bx,tk⟩ y= .iv (.im (.int k n)))[ht:StrTy P t](h0:0≤n)(h1:n≤m.length)(hm:m.take n.toNat=m'):VV P c ⟨fr,bx,tk⟩ ⟨some d,.slice t x none (some y) none,ty,pos,aft,none⟩ (aS m') []:=
 fun st' kE kL=>hm▸ .sliceSh rfl ((kE x (by simp[Op.operands,Call.operands])).trans hx) ((kE y (by simp[Op.operands,Call.operands])).trans hy) ht.h h0 h1
theorem v_sliceSlh{x y z:Operand}{t:TypeId}{m m':List UInt8}{k k':IntKind}{n j:Int}(hx:St.ev ⟨fr,bx,tk⟩ x=aS m)(hy:St.ev ⟨fr,bx,tk⟩ y= .iv (.im (.int k n)))(hz:St.ev ⟨fr,bx,tk⟩ z= .iv (.im (.int k' j)))[ht:StrTy P t](h0:0≤n)(h1:n≤j)(h2:j≤m.length)(hm:(m.drop n.toNat).take (j.toNat - n.toNat)=m'):VV P c ⟨fr,bx,tk⟩ ⟨some d,.slice t x (some y) (some z) none,ty,pos,aft,none⟩ (aS m') []:=
 fun st' kE kL=>hm▸ .sliceSlh rfl ((kE x (by simp[Op.operands,Call.operands])).trans hx) ((kE y (by simp[Op.operands,Call.operands])).trans hy) ((kE z (by simp[Op.operands,Call.operands])).trans hz) ht.h h0 h1 h2
theorem v_sliceVl{x y:Operand}{t e:TypeId}{k:Nat}{es es':List (List IV)}{kd:IntKind}{n:Int}(hx:(St.ev ⟨fr,bx,tk⟩ x).sl?=some es)(hy:St.ev ⟨fr,bx,tk⟩ y= .iv (.im (.int kd n)))[hs:SliceTy P t e k](hk: ∀e∈es,e.length=k)(h0:0≤n)(h1:n≤es.length)(hm:es.drop n.toNat=es'):VV P c ⟨fr,bx,tk⟩ ⟨some d,.slice t x (some y) none none,ty,pos,aft,none⟩ (.iv (.sl es')) []:=
 fun st' kE kL=>hm▸ .sliceVl rfl ((congrArg AV.sl? (kE x (by simp[Op.operands,Call.operands]))).trans hx) ((kE y (by simp[Op.operands,Call.operands])).trans hy) hs.h hk h0 h1
theorem v_sliceVh{x y:Operand}{t e:TypeId}{k:Nat}{es es':List (List IV)}{kd:IntKind}{n:Int}(hx:(St.ev ⟨fr,bx,tk⟩ x).sl?=some es)(hy:St.ev ⟨fr,bx,tk⟩ y= .iv (.im (.int kd n)))[hs:SliceTy P t e k](hk: ∀e∈es,e.length=k)(h0:0≤n)(h1:n≤es.length)(hm:es.take n.toNat=es'):VV P c ⟨fr,bx,tk⟩ ⟨some d,.slice t x none (some y) none,ty,pos,aft,none⟩ (.iv (.sl es')) []:=
 fun st' kE kL=>hm▸ .sliceVh rfl ((congrArg AV.sl? (kE x (by simp[Op.operands,Call.operands]))).trans hx) ((kE y (by simp[Op.operands,Call.operands])).trans hy) hs.h hk h0 h1
theorem v_sliceVlh{x y z:Operand}{t e:TypeId}{k:Nat}{es es':List (List IV)}{kd kd':IntKind}{n j:Int}(hx:(St.ev ⟨fr,bx,tk⟩ x).sl?=some es)(hy:St.ev ⟨fr,bx,tk⟩ y= .iv (.im (.int kd n)))(hz:St.ev ⟨fr,bx,tk⟩ z= .iv (.im (.int kd' j)))[hs:SliceTy P t e k](hk: ∀e∈es,e.length=k)(h0:0≤n)(h1:n≤j)(h2:j≤es.length)(hm:(es.take j.toNat).drop n.toNat=es'):VV P c ⟨fr,bx,tk⟩ ⟨some d,.slice t x (some y) (some z) none,ty,pos,aft,none⟩ (.iv (.sl es')) []:=
 fun st' kE kL=>hm▸ .sliceVlh rfl ((congrArg AV.sl? (kE x (by simp[Op.operands,Call.operands]))).trans hx) ((kE y (by simp[Op.operands,Call.operands])).trans hy) ((kE z (by simp[Op.operands,Call.operands])).trans hz) hs.h hk h0 h1 h2
theorem v_bytesS{x:Operand}{s t e:TypeId}{bs:List UInt8}(hx:(St.ev ⟨fr,bx,tk⟩ x).sl?=some (bs.map cB))[hs:SliceTy P s e 1][he:IntTy P e .u8][ht:StrTy P t]:VV P c ⟨fr,bx,tk⟩ ⟨some d,.convert s t x,ty,pos,aft,none⟩ (aS bs) []:=
 fun st' kE kL=> .bytesS rfl ((congrArg AV.sl? (kE x (by simp[Op.operands,Call.operands]))).trans hx) hs.h he.h ht.h
theorem s_box{t:TypeId}{x:Operand}{v:AV}{cs:List AV}(hlt:Nat.ble (d+1) c.nt=true)(hx:St.ev ⟨fr,bx,tk⟩ x=v)(hv:v.lays=true)(hc:v.cells=cs)(hf:St.fresh d ⟨fr,bx,tk⟩=true)(hm:AV.ments d cs=false)
 (h:LW P c ⟨(d,.ptr d 0)::fr,(d,⟨t,cs⟩)::bx,tk⟩ ops Q rest):LW P c ⟨fr,bx,tk⟩ ops Q (⟨some d,.box t x,ty,pos,aft,none⟩::rest):=
 L.make (st:=⟨fr,bx,tk⟩) rfl rfl hlt (hc▸ .box rfl hx hv hf (hc.symm▸hm)) h
theorem s_strBytes{s t e:TypeId}{x:Operand}{bs:List UInt8}(hlt:Nat.ble (d+1) c.nt=true)(hx:St.ev ⟨fr,bx,tk⟩ x=aS bs)[hs:StrTy P s][ht:SliceTy P t e 1][he:IntTy P e .u8](hf:St.fresh d ⟨fr,bx,tk⟩=true)(hl:bs.length≤9223372036854775807)
 (h:LW P c ⟨(d,.iv (.sl (bs.map cB)))::fr,bx,tk⟩ ops Q rest):LW P c ⟨fr,bx,tk⟩ ops Q (⟨some d,.convert s t x,ty,pos,aft,none⟩::rest):=
 L.make (st:=⟨fr,bx,tk⟩) rfl rfl hlt (.strBytes rfl hx hs.h (sliceOk_run ht.h).1 he.h hf hl) h
theorem v_idxB{f:FuncId}{x y:Operand}{ats:Array TypeId}{m:List UInt8}{n:Int}[hok:IdxTy P f](hx:St.ev ⟨fr,bx,tk⟩ x=aS m)(hy:St.ev ⟨fr,bx,tk⟩ y= .iv (.im (.int .u8 n))):VV P c ⟨fr,bx,tk⟩ ⟨some d,.call {callee:= .value (.func f),args:= #[x,y],argTypes:=ats},ty,pos,aft,none⟩ (aI (Lib.indexByte m n.toNat.toUInt8)) []:=
 fun st' kE kL=> .idxB rfl hok.h ((kE x (by simp[Op.operands,Call.operands])).trans hx) ((kE y (by simp[Op.operands,Call.operands])).trans hy)
theorem v_and1{x y:Operand}{t t':TypeId}{m:Int}(hx:St.ev ⟨fr,bx,tk⟩ x=aI m)(hy:St.ev ⟨fr,bx,tk⟩ y=aI 1):VV P c ⟨fr,bx,tk⟩ ⟨some d,.binOp .and t x y t',ty,pos,aft,none⟩ (aI (m % 2)) []:=
 fun st' kE kL=> .and1 rfl ((kE x (by simp[Op.operands,Call.operands])).trans hx) ((kE y (by simp[Op.operands,Call.operands])).trans hy)
theorem v_min2{x y:Operand}{t t':TypeId}{m n:Int}(hx:St.ev ⟨fr,bx,tk⟩ x=aI m)(hy:St.ev ⟨fr,bx,tk⟩ y=aI n):VV P c ⟨fr,bx,tk⟩ ⟨some d,.call {callee:= .builtin .min,args:= #[x,y],argTypes:= #[t,t']},ty,pos,aft,none⟩ (aI (if n<m then n else m)) []:=
 fun st' kE kL=> .min2 rfl ((kE x (by simp[Op.operands,Call.operands])).trans hx) ((kE y (by simp[Op.operands,Call.operands])).trans hy)
theorem v_indexG{gs:Globs}{g:Nat}{xs:List IV}{t e:TypeId}{ln:Nat}{i:Operand}{kd:IntKind}{n:Int}{v:IV}[hs:ArrTy P t e ln](hG:Glob gs c.E0 c.w0)(hmg:(g,xs)∈gs)(hln:ln=xs.length)(hn:St.ev ⟨fr,bx,tk⟩ i= .iv (.im (.int kd n)))(h0:0≤n)(hv:xs[n.toNat]?=some v):
 VV P c ⟨fr,bx,tk⟩ ⟨some d,.indexAddr t (.global g) i,ty,pos,aft,none⟩ (.el [v]) []:=
 fun st' kE kL=> .indexG rfl (hln▸hs.h) hG hmg ((kE i (by simp[Op.operands,Call.operands])).trans hn) h0 hv
theorem v_loadG{gs:Globs}{g:Nat}{t:TypeId}{x:IV}[ht:VarTy P t false 1](hG:Glob gs c.E0 c.w0)(hmg:(g,[x])∈gs):VV P c ⟨fr,bx,tk⟩ ⟨some d,.load t (.global g),ty,pos,aft,none⟩ (.iv x) []:=
 fun st' kE kL=> .loadG rfl ht.h hG hmg
theorem s_callG1{gs:Globs}{f:FuncId}{args:Array Operand}{ats:Array TypeId}{as1 zas:List AV}{q:Nat}{b b':Box}{res:AV}(hlt:Nat.ble (d+1) c.nt=true)[hok:CallTy P f](hG:Glob gs c.E0 c.w0)(hc:CallG gs P f as1 [(1000,b)] [(1000,b')] [] res)(ha:AV.pub.pubs (args.toList.map (St.ev ⟨fr,bx,tk⟩))=zas)(h1:AV.rens (Abs.sws [(1000,q)]) as1=zas)(hb:bx.lookup q=some b)(hbn:b.cs.isEmpty=false)(hm:AV.mentsIn [] b.cs=true)(hm':AV.mentsIn [] b'.cs=true)(hr:AV.mentIn [] res=true)
 (h:LW P c ⟨(d,res)::fr,(q,b')::bx,tk⟩ ops Q rest):LW P c ⟨fr,bx,tk⟩ ops Q (⟨some d,.call {callee:= .value (.func f),args:=args,argTypes:=ats},ty,pos,aft,none⟩::rest):=
 L.callG1 (st:=⟨fr,bx,tk⟩) rfl rfl hlt rfl hok.h hG hc ha h1 hb hbn hm hm' hr h
theorem s_callQ1{gs:Globs}{f:FuncId}{args:Array Operand}{ats:Array TypeId}{zas:List AV}{q:Nat}{b b':Box}{res:AV}(hlt:Nat.ble (d+1) c.nt=true)[hok:CallTy P f](hG:Glob gs c.E0 c.w0)(hc:CallG gs P f zas [(q,b)] [(q,b')] [] res)(ha:AV.pub.pubs (args.toList.map (St.ev ⟨fr,bx,tk⟩))=zas)(hb:bx.lookup q=some b)(hbn:b.cs.isEmpty=false)(hm':AV.mentsIn [] b'.cs=true)(hr:AV.mentIn [] res=true)
 (h:LW P c ⟨(d,res)::fr,(q,b')::bx,tk⟩ ops Q rest):LW P c ⟨fr,bx,tk⟩ ops Q (⟨some d,.call {callee:= .value (.func f),args:=args,argTypes:=ats},ty,pos,aft,none⟩::rest):=
 L.callQ1 (st:=⟨fr,bx,tk⟩) rfl rfl hlt rfl hok.h hG hc ha hb hbn hm' hr h
theorem s_callG2{gs:Globs}{f:FuncId}{args:Array Operand}{ats:Array TypeId}{as1 zas:List AV}{q p:Nat}{b b' e e':Box}{res:AV}(hlt:Nat.ble (d+1) c.nt=true)[hok:CallTy P f](hG:Glob gs c.E0 c.w0)(hc:CallG gs P f as1 [(1000,b),(1001,e)] [(1000,b'),(1001,e')] [] res)(ha:AV.pub.pubs (args.toList.map (St.ev ⟨fr,bx,tk⟩))=zas)(h1:AV.rens (Abs.sws [(1001,p),(1000,q)]) as1=zas)(hb:bx.lookup q=some b)(he:bx.lookup p=some e)(hqp:(q==p)=false)(hqn:(q==1001)=false)(hbn:b.cs.isEmpty=false)(hen:e.cs.isEmpty=false)(hm:AV.mentsIn [] b.cs=true)(hm':AV.mentsIn [] b'.cs=true)(hme:AV.mentsIn [] e.cs=true)(hme':AV.mentsIn [] e'.cs=true)(hr:AV.mentIn [] res=true)
 (h:LW P c ⟨(d,res)::fr,(q,b')::(p,e')::bx,tk⟩ ops Q rest):LW P c ⟨fr,bx,tk⟩ ops Q (⟨some d,.call {callee:= .value (.func f),args:=args,argTypes:=ats},ty,pos,aft,none⟩::rest):=
 L.callG2 (st:=⟨fr,bx,tk⟩) rfl rfl hlt rfl hok.h hG hc ha h1 hb he hqp hqn hbn hen hm hm' hme hme' hr h
theorem s_callG{gs:Globs}{f:FuncId}{args:Array Operand}{ats:Array TypeId}{zas:List AV}{res:AV}(hlt:Nat.ble (d+1) c.nt=true)[hok:CallTy P f](hG:Glob gs c.E0 c.w0)(hc:CallG gs P f zas [] [] [] res)(ha:AV.pub.pubs (args.toList.map (St.ev ⟨fr,bx,tk⟩))=zas)
 (hmr:AV.mentIn [] res=true) (h:LW P c ⟨(d,res)::fr,bx,tk⟩ ops Q rest):
 LW P c ⟨fr,bx,tk⟩ ops Q (⟨some d,.call {callee:= .value (.func f),args:=args,argTypes:=ats},ty,pos,aft,none⟩::rest):=
 L.callG0 (st:=⟨fr,bx,tk⟩) rfl rfl hlt hG rfl hok.h hc (.of_pub ha) hmr h
theorem v_fieldV{s:TypeId}{x:Operand}{f fo:Nat}{cs:List AV}{v:AV}(hx:St.ev ⟨fr,bx,tk⟩ x= .agg cs)[hf:FldTy P s f fo](hv:cs[fo]?=some v):VV P c ⟨fr,bx,tk⟩ ⟨some d,.field s x f,ty,pos,aft,none⟩ (v) []:=
 fun st' kE kL=> .fieldV rfl hf.h ((kE x (by simp[Op.operands,Call.operands])).trans hx) hv
theorem v_max2{x y:Operand}{t t':TypeId}{m n:Int}(hx:St.ev ⟨fr,bx,tk⟩ x=aI m)(hy:St.ev ⟨fr,bx,tk⟩ y=aI n):VV P c ⟨fr,bx,tk⟩ ⟨some d,.call {callee:= .builtin .max,args:= #[x,y],argTypes:= #[t,t']},ty,pos,aft,none⟩ (aI (if n>m then n else m)) []:=
 fun st' kE kL=> .max2 rfl ((kE x (by simp[Op.operands,Call.operands])).trans hx) ((kE y (by simp[Op.operands,Call.operands])).trans hy)
theorem v_makeFunc{f:FuncId}{caps:Array Operand}{cs:List AV}(hc:caps.toList.map (St.ev ⟨fr,bx,tk⟩)=cs):VV P c ⟨fr,bx,tk⟩ ⟨some d,.makeFunc (.func f) #[] caps,ty,pos,aft,none⟩ (.fn f cs) []:=
 fun st' kE kL=>(((agL kE (fun x hx=>by simp[Op.operands,hx])).trans hc)▸ .makeFunc rfl)
theorem s_callFn{gs:Globs}{f:FuncId}{x:Operand}{args:Array Operand}{ats:Array TypeId}{avs caps:List AV}{bxi:List (Nat×Box)}{res:AV}(hlt:Nat.ble (d+1) c.nt=true)(hG:Glob gs c.E0 c.w0)(hx:St.ev ⟨fr,bx,tk⟩ x= .fn f caps)[hok:CallTy P f]
 (hc:CallG gs P f (avs++caps) bxi bxi [] res) (ha:AV.pub.pubs (args.toList.map (St.ev ⟨fr,bx,tk⟩))=avs) (hbi:WkB bx bxi) (hmb:bxi.all (fun p=> !p.2.cs.isEmpty && AV.mentsIn (keys bxi) p.2.cs)=true) (hmr:AV.mentIn (keys bxi) res=true)
 (h:LW P c ⟨(d,res)::fr,bxi++bx,tk⟩ ops Q rest):
 LW P c ⟨fr,bx,tk⟩ ops Q (⟨some d,.call {callee:= .value x,args:=args,argTypes:=ats},ty,pos,aft,none⟩::rest):=
 L.callFnG (st:=⟨fr,bx,tk⟩) rfl rfl hlt hG rfl hx hok.h hc (.of_pub ha) hbi hmb hmr h
theorem s_alloc{t:TypeId}{zs:List Value}{cs:List AV}(hlt:Nat.ble (d+1) c.nt=true)[hz:ZeroTy P t zs](h1:zs.all (·.oneCell')=true)(hc:zs.map constCell=cs)(hf:St.fresh d ⟨fr,bx,tk⟩=true)(hm:AV.ments d cs=false)
 (h:LW P c ⟨(d,.ptr d 0)::fr,(d,⟨t,cs⟩)::bx,tk⟩ ops Q rest):LW P c ⟨fr,bx,tk⟩ ops Q (⟨some d,.alloc t,ty,pos,aft,none⟩::rest):=by
 obtain⟨z,h2,h3⟩:=zero_alloc hz.h
 subst h3;subst hc
 exact L.make (st:=⟨fr,bx,tk⟩) rfl rfl hlt (.alloc (i:=default) rfl h2 h1 hf hm) h
theorem s_bslice{t e:TypeId}{n k:Nat}{parts:Array (Nat×Operand)}{zs:List Value}{cs:List AV}{xs:List IV}{es:List (List IV)}(hlt:Nat.ble (d+1) c.nt=true)[hs:SliceTy P t e k][hz:ZeroTy P e zs](h1:zs.all (·.oneCell')=true)(hzl:zs.length=k)(hn:Nat.ble (n*k) 16777216=true)(hnk:Nat.ble 1 k=true)(hf:fillA (fun i=>some (i*k,k)) ((List.range (n*k)).map fun i=>constCell (zs.getD (i % k) undef)) (parts.toList.map fun x=>(x.1,St.ev ⟨fr,bx,tk⟩ x.2))=some cs)(hx:toIs cs=some xs)(hcl:cs.length=n*k)(he:chunks k n xs=es)(hfr:St.fresh d ⟨fr,bx,tk⟩=true)
 (h:LW P c ⟨(d,.row d es)::fr,bx,(d,⟨e,k⟩)::tk⟩ ops Q rest):LW P c ⟨fr,bx,tk⟩ ops Q (⟨some d,.buildSlice t n parts,ty,pos,aft,none⟩::rest):=
 L.make (st:=⟨fr,bx,tk⟩) rfl rfl hlt (he▸ .buildSlice rfl hs.h hz.h h1 hzl (Nat.le_of_ble_eq_true hn) (Nat.le_of_ble_eq_true hnk) hf hx hcl hfr) h
theorem s_store{t:TypeId}{x y:Operand}{id off k:Nat}{b:Box}{v:AV}{agg:Bool}{cs:List AV}(hx:St.ev ⟨fr,bx,tk⟩ x= .ptr id off)(hy:St.ev ⟨fr,bx,tk⟩ y=v)[ht:VarTy P t agg k](hb:bx.lookup id=some b)
 (hv:v.lays=true) (hk:v.cells.length=k) (hle:Nat.ble (off+k) b.cs.length=true) (hc:setA b.cs off v.cells=cs)
 (h:LW P c ⟨fr,(id,⟨b.ty,cs⟩)::bx,tk⟩ ops Q rest):LW P c ⟨fr,bx,tk⟩ ops Q (⟨none,.store t x y,ty,pos,aft,none⟩::rest):=by
 subst hc
 exact L.does (st:=⟨fr,bx,tk⟩) rfl rfl (.store rfl ht.h hx hb hy hv hk (Nat.le_of_ble_eq_true hle)) h
theorem s_append{t t' e:TypeId}{x y:Operand}{id k bytes:Nat}{es news es':List (List IV)}(hlt:Nat.ble (d+1) c.nt=true)
 (hx:St.ev ⟨fr,bx,tk⟩ x= .row id es) (htk:tk.lookup id=some ⟨e,k⟩) (hy:(St.ev ⟨fr,bx,tk⟩ y).sl?=some news) [ha:AppTy P t e k bytes] [hs:SliceTy P t' e k] (hes: ∀e∈es,e.length=k) (hnk: ∀e∈news,e.length=k)
 (hm:es.length+news.length≤maxLen) (hby:(es.length+news.length)*bytes≤225000000000000) (hf:St.fresh d ⟨fr,bx,tk⟩=true) (he:es++news=es')
 (h:LW P c ⟨(d,.row d es')::fr,bx,(d,⟨e,k⟩)::delTok id tk⟩ ops Q rest):
 LW P c ⟨fr,bx,tk⟩ ops Q (⟨some d,.call {callee:= .builtin .append,args:= #[x,y],argTypes:= #[t,t']},ty,pos,aft,none⟩::rest):=by
 obtain⟨ht,hk0,i,z,hi0,hik,hib,hiz,hzk,hbs⟩:=appOk_run ha.h
 subst he
 exact L.make (st:=⟨fr,bx,tk⟩) rfl rfl hlt (.append rfl ht hi0 hik hib hiz hzk (sliceOk_run hs.h).1 (.inl ⟨_,rfl⟩) hk0 (.inl ⟨hx,htk⟩) hes hnk (.slice hy hnk hk0) hm hby hbs hf) h
theorem s_appendNil{t t' e:TypeId}{x y:Operand}{k bytes:Nat}{news:List (List IV)}(hlt:Nat.ble (d+1) c.nt=true)
 (hx:St.ev ⟨fr,bx,tk⟩ x= .nils) (hy:(St.ev ⟨fr,bx,tk⟩ y).sl?=some news) [ha:AppTy P t e k bytes] [hs:SliceTy P t' e k] (hnk: ∀e∈news,e.length=k)
 (hm:news.length≤maxLen) (hby:news.length*bytes≤225000000000000) (hf:St.fresh d ⟨fr,bx,tk⟩=true)
 (h:LW P c ⟨(d,.row d news)::fr,bx,(d,⟨e,k⟩)::delTok d tk⟩ ops Q rest):
 LW P c ⟨fr,bx,tk⟩ ops Q (⟨some d,.call {callee:= .builtin .append,args:= #[x,y],argTypes:= #[t,t']},ty,pos,aft,none⟩::rest):=by
 obtain⟨ht,hk0,i,z,hi0,hik,hib,hiz,hzk,hbs⟩:=appOk_run ha.h
 exact L.make (st:=⟨fr,bx,tk⟩) rfl rfl hlt (Makes.append (id:=d) rfl ht hi0 hik hib hiz hzk (sliceOk_run hs.h).1 (.inl ⟨_,rfl⟩) hk0 (.inr (.inl ⟨hx,rfl⟩)) (by simp) hnk (.slice hy hnk hk0) (by simpa using hm) (by simpa using hby) hbs hf) h
theorem s_appendE{t t' e:TypeId}{x y:Operand}{k bytes:Nat}{news:List (List IV)}(hlt:Nat.ble (d+1) c.nt=true)
 (hx:St.ev ⟨fr,bx,tk⟩ x= .emp) (hy:(St.ev ⟨fr,bx,tk⟩ y).sl?=some news) [ha:AppTy P t e k bytes] [hs:SliceTy P t' e k] (hnk: ∀e∈news,e.length=k) (hne:news≠ [])
 (hm:news.length≤maxLen) (hby:news.length*bytes≤225000000000000) (hf:St.fresh d ⟨fr,bx,tk⟩=true)
 (h:LW P c ⟨(d,.row d news)::fr,bx,(d,⟨e,k⟩)::delTok d tk⟩ ops Q rest):
 LW P c ⟨fr,bx,tk⟩ ops Q (⟨some d,.call {callee:= .builtin .append,args:= #[x,y],argTypes:= #[t,t']},ty,pos,aft,none⟩::rest):=by
 obtain⟨ht,hk0,i,z,hi0,hik,hib,hiz,hzk,hbs⟩:=appOk_run ha.h
 exact L.make (st:=⟨fr,bx,tk⟩) rfl rfl hlt (Makes.append (id:=d) rfl ht hi0 hik hib hiz hzk (sliceOk_run hs.h).1 (.inl ⟨_,rfl⟩) hk0 (.inr (.inr ⟨hx,rfl,hne⟩)) (by simp) hnk (.slice hy hnk hk0) (by simpa using hm) (by simpa using hby) hbs hf) h
theorem s_appendS{t t' e:TypeId}{x y:Operand}{id bytes:Nat}{es es':List (List IV)}{s:List UInt8}(hlt:Nat.ble (d+1) c.nt=true)
 (hx:St.ev ⟨fr,bx,tk⟩ x= .row id es) (htk:tk.lookup id=some ⟨e,1⟩) (hy:St.ev ⟨fr,bx,tk⟩ y=aS s) [ha:AppTy P t e 1 bytes] [hs:StrTy P t'] (hes: ∀e∈es,e.length=1)
 (hm:es.length+s.length≤maxLen) (hby:(es.length+s.length)*bytes≤225000000000000) (hf:St.fresh d ⟨fr,bx,tk⟩=true) (he:(es++s.map fun b=> [IV.im (.int .u8 b.toNat)])=es')
 (h:LW P c ⟨(d,.row d es')::fr,bx,(d,⟨e,1⟩)::delTok id tk⟩ ops Q rest):
 LW P c ⟨fr,bx,tk⟩ ops Q (⟨some d,.call {callee:= .builtin .append,args:= #[x,y],argTypes:= #[t,t']},ty,pos,aft,none⟩::rest):=by
 obtain⟨ht,hk0,i,z,hi0,hik,hib,hiz,hzk,hbs⟩:=appOk_run ha.h
 subst he
 exact L.make (st:=⟨fr,bx,tk⟩) rfl rfl hlt (.append rfl ht hi0 hik hib hiz hzk hs.h (.inr rfl) hk0 (.inl ⟨hx,htk⟩) hes (fun e he=>by simp only[List.mem_map] at he;obtain⟨b,_,rfl⟩:=he;rfl) (.string hy) (by simpa using hm) (by simpa using hby) hbs hf) h
theorem s_call0{f:FuncId}{args:Array Operand}{ats:Array TypeId}{zas:List AV}{res:AV}(hlt:Nat.ble (d+1) c.nt=true)[hok:CallTy P f](hc:CallA P f zas [] [] [] res)(ha:AV.pub.pubs (args.toList.map (St.ev ⟨fr,bx,tk⟩))=zas)
 (hmr:AV.mentIn [] res=true) (h:LW P c ⟨(d,res)::fr,bx,tk⟩ ops Q rest):
 LW P c ⟨fr,bx,tk⟩ ops Q (⟨some d,.call {callee:= .value (.func f),args:=args,argTypes:=ats},ty,pos,aft,none⟩::rest):=
 L.call0 (st:=⟨fr,bx,tk⟩) rfl rfl hlt rfl hok.h hc (.of_pub ha) hmr h
theorem s_callRow{f:FuncId}{args:Array Operand}{ats:Array TypeId}{zas:List AV}{t:Tok}{es:List (List IV)}(hlt:Nat.ble (d+1) c.nt=true)[hok:CallTy P f](hc:CallA P f zas [] [] [(d,t)] (.row d es))(ha:AV.pub.pubs (args.toList.map (St.ev ⟨fr,bx,tk⟩))=zas)
 (hf:St.fresh d ⟨fr,bx,tk⟩=true) (h:LW P c ⟨(d,.row d es)::fr,bx,(d,t)::tk⟩ ops Q rest):
 LW P c ⟨fr,bx,tk⟩ ops Q (⟨some d,.call {callee:= .value (.func f),args:=args,argTypes:=ats},ty,pos,aft,none⟩::rest):=
 L.callN (st:=⟨fr,bx,tk⟩) [d] rfl rfl hlt rfl hok.h hc (.of_pub ha) .nil (by simp[hf]) rfl (by simp[keys]) rfl (by simp[AV.mentIn]) h
theorem s_gdo{dst:Option Tmp}{op:Op}{st:St}{j s:Nat}{b b':Bool}(hj:(ops[j]?).bind (·.dst)=some s)(hb:st.ev (.tmp s)=aB b')(he:b'=b)
 (h:LW P c st ops Q (⟨dst,op,ty,pos,aft,none⟩::rest)):LW P c st ops Q (⟨dst,op,ty,pos,aft,some (j,b)⟩::rest):=L.guardDo hj (he▸hb) h
theorem s_gskipT{op:Op}{j s:Nat}{b':Bool}(hlt:Nat.ble (d+1) c.nt=true)(hj:(ops[j]?).bind (·.dst)=some s)(hb:St.ev ⟨fr,bx,tk⟩ (.tmp s)=aB b')(he:b'=false)
 (h:LW P c ⟨(d,.opt false .any)::fr,bx,tk⟩ ops Q rest):LW P c ⟨fr,bx,tk⟩ ops Q (⟨some d,op,ty,pos,aft,some (j,true)⟩::rest):=L.guardSkip (st:=⟨fr,bx,tk⟩) hlt hj hb (by rw[he];simp) h
theorem s_gskipF{op:Op}{j s:Nat}{b':Bool}(hlt:Nat.ble (d+1) c.nt=true)(hj:(ops[j]?).bind (·.dst)=some s)(hb:St.ev ⟨fr,bx,tk⟩ (.tmp s)=aB b')(he:b'=true)
 (h:LW P c ⟨(d,.opt false .any)::fr,bx,tk⟩ ops Q rest):LW P c ⟨fr,bx,tk⟩ ops Q (⟨some d,op,ty,pos,aft,some (j,false)⟩::rest):=L.guardSkip (st:=⟨fr,bx,tk⟩) hlt hj hb (by rw[he];simp) h
theorem s_gskipU{op:Op}{j s:Nat}{b:Bool}(hlt:Nat.ble (d+1) c.nt=true)(hj:(ops[j]?).bind (·.dst)=some s)(hb:St.ev ⟨fr,bx,tk⟩ (.tmp s)= .opt false .any)
 (h:LW P c ⟨(d,.opt false .any)::fr,bx,tk⟩ ops Q rest):LW P c ⟨fr,bx,tk⟩ ops Q (⟨some d,op,ty,pos,aft,some (j,b)⟩::rest):=L.guardSkipU (st:=⟨fr,bx,tk⟩) hlt hj hb h
theorem s_gsplit{o:Oper}{st:St}{j s:Nat}{b b':Bool}(hj:(ops[j]?).bind (·.dst)=some s)(hg:o.guard=some (j,b))(hb:st.ev (.tmp s)=aB b')(hT:b'=true→LW P c st ops Q (o::rest))(hF:b'=false→LW P c st ops Q (o::rest)):LW P c st ops Q (o::rest):=by
 cases b'
 · exact hF rfl
 · exact hT rfl
theorem v_pickT{x y z:Operand}{b:Bool}{v:AV}(hx:St.ev ⟨fr,bx,tk⟩ x=aB b)(hb:b=true)(hy:St.ev ⟨fr,bx,tk⟩ y=v):VV P c ⟨fr,bx,tk⟩ ⟨some d,.pick x y z,ty,pos,aft,none⟩ (v) []:=
 fun st' kE kL=>((kE y (by simp[Op.operands,Call.operands])).trans hy)▸ .pickT rfl (hb▸((kE x (by simp[Op.operands,Call.operands])).trans hx))
theorem v_pickF{x y z:Operand}{b:Bool}{v:AV}(hx:St.ev ⟨fr,bx,tk⟩ x=aB b)(hb:b=false)(hy:St.ev ⟨fr,bx,tk⟩ z=v):VV P c ⟨fr,bx,tk⟩ ⟨some d,.pick x y z,ty,pos,aft,none⟩ (v) []:=
 fun st' kE kL=>((kE z (by simp[Op.operands,Call.operands])).trans hy)▸ .pickF rfl (hb▸((kE x (by simp[Op.operands,Call.operands])).trans hx))
theorem c_seq{st:St}{x y:Code}(h:L c st (x.wp P (Exit.then (y.wp P Q) Q))):L c st ((Code.seq x y).wp P Q):=fun a w hr=>wp_seq (h a w hr)
theorem c_condT{st:St}{x:Operand}{b:Bool}{y z:Code}(hx:st.ev x=aB b)(hb:b=true)(h:L c st (y.wp P Q)):L c st ((Code.cond x y z).wp P Q):=L.condT (hb▸hx) h
theorem c_condF{st:St}{x:Operand}{b:Bool}{y z:Code}(hx:st.ev x=aB b)(hb:b=false)(h:L c st (z.wp P Q)):L c st ((Code.cond x y z).wp P Q):=L.condF (hb▸hx) h
theorem Sub.of_eq{v v':AV}(h:v=v'):Sub v v':=h▸Sub.refl v
theorem Wk.none{st:St}(hi:c.ins= []):Wk c st ⟨[],[],[]⟩:=Wk.mk' (by rw[hi];intro id h;cases h) .nil .nil .nil
theorem s_region{st:St}{id:Nat}{l:List Oper}(h:LW P c st l.toArray Q l):L c st ((Code.region id l.toArray false).wp P Q):=L.region h
theorem s_nil{st:St}(h:L c st (Q .normal)):LW P c st ops Q []:=h
end
def rowOk(P:Program)(t:TypeId)(e:TypeId)(k bytes:Nat):Bool:=
 appOk P t e k bytes && (match P.info? e with|some i=>(match i.zero with|some z=>z.cells.toList.all (·.oneCell')|none=>false)|none=>false)
theorem rowOk_run{P:Program}{t e:TypeId}{k bytes:Nat}(h:rowOk P t e k bytes=true):
 P.underlying t=some (.slice e)∧0<k∧ ∃(i:TypeInfo) (z:Value),P.info? e=some i∧i.size=k∧i.bytes=bytes∧i.zero=some z∧z.cells.size=k∧ ∀u∈z.cells.toList,u.oneCell'=true:=by
 unfold rowOk at h
 simp only[Bool.and_eq_true] at h
 obtain⟨h1,h2⟩:=h
 obtain⟨hu,hk,i,z,hi,hs,hb,hz,hzk,_⟩:=appOk_run h1
 rw[hi] at h2;simp only[hz] at h2
 exact⟨hu,hk,i,z,hi,hs,hb,hz,hzk,fun u hu=>List.all_eq_true.1 h2 u hu⟩
class RowTy (P:Program) (t:TypeId) (e:outParam TypeId) (k bytes:outParam Nat):Prop where
 h:rowOk P t e k bytes=true
class OvlTy (P:Program) (f:FuncId) (t tr:outParam TypeId):Prop where
 h:extOk P f (Extern.SlicesOverlaps.overlaps #[t,t] #[tr])
section
variable {P:Program}{c:Ctx}{fr:List (Nat×AV)}{bx:List (Nat×Box)}{tk:List (Nat×Tok)}{ops:Array Oper}{Q:Exit→Act→World→Prop}{rest:List Oper}
 {d:Nat} {ty:TypeId} {pos:String} {aft:Array Edge}
theorem v_lenBsl{x:Operand}{t e:TypeId}{k id off n cap:Nat}(hx:St.ev ⟨fr,bx,tk⟩ x= .bsl id off n cap)[hs:SliceTy P t e k]:VV P c ⟨fr,bx,tk⟩ ⟨some d,.call {callee:= .builtin .len,args:= #[x],argTypes:= #[t]},ty,pos,aft,none⟩ (aI n) []:=
 fun st' kE kL=> .lenBsl rfl hs.h ((kE x (by simp[Op.operands,Call.operands])).trans hx)
theorem v_lenBsh{x:Operand}{t e:TypeId}{k id off n k':Nat}(hx:St.ev ⟨fr,bx,tk⟩ x= .bsh id off n k')[hs:SliceTy P t e k]:VV P c ⟨fr,bx,tk⟩ ⟨some d,.call {callee:= .builtin .len,args:= #[x],argTypes:= #[t]},ty,pos,aft,none⟩ (aI n) []:=
 fun st' kE kL=> .lenBsh rfl hs.h ((kE x (by simp[Op.operands,Call.operands])).trans hx)
theorem v_capBsl{x:Operand}{t e:TypeId}{k id off n cap:Nat}(hx:St.ev ⟨fr,bx,tk⟩ x= .bsl id off n cap)[hs:SliceTy P t e k]:VV P c ⟨fr,bx,tk⟩ ⟨some d,.call {callee:= .builtin .cap,args:= #[x],argTypes:= #[t]},ty,pos,aft,none⟩ (aI cap) []:=
 fun st' kE kL=> .capBsl rfl hs.h ((kE x (by simp[Op.operands,Call.operands])).trans hx)
theorem v_indexBsl{t e:TypeId}{x i:Operand}{k id off n cap off':Nat}{kd:IntKind}{j:Int}(hx:St.ev ⟨fr,bx,tk⟩ x= .bsl id off n cap)(hj:St.ev ⟨fr,bx,tk⟩ i= .iv (.im (.int kd j)))[hs:SliceTy P t e k](h0:0≤j)(h1:j<n)(ho:off+j.toNat*k=off'):VV P c ⟨fr,bx,tk⟩ ⟨some d,.indexAddr t x i,ty,pos,aft,none⟩ (.ptr id off') []:=
 fun st' kE kL=>ho▸ .indexBsl rfl hs.h ((kE x (by simp[Op.operands,Call.operands])).trans hx) ((kE i (by simp[Op.operands,Call.operands])).trans hj) h0 h1
theorem v_indexBsh{t e:TypeId}{x i:Operand}{k id off n off':Nat}{kd:IntKind}{j:Int}(hx:St.ev ⟨fr,bx,tk⟩ x= .bsh id off n k)(hj:St.ev ⟨fr,bx,tk⟩ i= .iv (.im (.int kd j)))[hs:SliceTy P t e k](h0:0≤j)(h1:j<n)(ho:(off+j.toNat)*k=off'):VV P c ⟨fr,bx,tk⟩ ⟨some d,.indexAddr t x i,ty,pos,aft,none⟩ (.ptr id off') []:=
 fun st' kE kL=>ho▸ .indexBsh rfl hs.h ((kE x (by simp[Op.operands,Call.operands])).trans hx) ((kE i (by simp[Op.operands,Call.operands])).trans hj) h0 h1
theorem v_slBl{x y:Operand}{t e:TypeId}{k id off n cap off' n' cap':Nat}{kd:IntKind}{j:Int}(hx:St.ev ⟨fr,bx,tk⟩ x= .bsl id off n cap)(hy:St.ev ⟨fr,bx,tk⟩ y= .iv (.im (.int kd j)))[hs:SliceTy P t e k](h0:0≤j)(h1:j≤n)(e1:off+j.toNat*k=off')(e2:n - j.toNat=n')(e3:cap - j.toNat=cap'):VV P c ⟨fr,bx,tk⟩ ⟨some d,.slice t x (some y) none none,ty,pos,aft,none⟩ (.bsl id off' n' cap') []:=
 fun st' kE kL=>e1▸e2▸e3▸ .slBl rfl ((kE x (by simp[Op.operands,Call.operands])).trans hx) ((kE y (by simp[Op.operands,Call.operands])).trans hy) hs.h h0 h1
theorem v_slBh{x y:Operand}{t e:TypeId}{k id off n cap n':Nat}{kd:IntKind}{j:Int}(hx:St.ev ⟨fr,bx,tk⟩ x= .bsl id off n cap)(hy:St.ev ⟨fr,bx,tk⟩ y= .iv (.im (.int kd j)))[hs:SliceTy P t e k](h0:0≤j)(h1:j≤cap)(e2:j.toNat=n'):VV P c ⟨fr,bx,tk⟩ ⟨some d,.slice t x none (some y) none,ty,pos,aft,none⟩ (.bsl id off n' cap) []:=
 fun st' kE kL=>e2▸ .slBh rfl ((kE x (by simp[Op.operands,Call.operands])).trans hx) ((kE y (by simp[Op.operands,Call.operands])).trans hy) hs.h h0 h1
theorem v_slBlh{x y z:Operand}{t e:TypeId}{k id off n cap off' n' cap':Nat}{kd kd':IntKind}{i j:Int}(hx:St.ev ⟨fr,bx,tk⟩ x= .bsl id off n cap)(hy:St.ev ⟨fr,bx,tk⟩ y= .iv (.im (.int kd i)))(hz:St.ev ⟨fr,bx,tk⟩ z= .iv (.im (.int kd' j)))[hs:SliceTy P t e k](h0:0≤i)(h1:i≤j)(h2:j≤cap)(e1:off+i.toNat*k=off')(e2:j.toNat - i.toNat=n')(e3:cap - i.toNat=cap'):VV P c ⟨fr,bx,tk⟩ ⟨some d,.slice t x (some y) (some z) none,ty,pos,aft,none⟩ (.bsl id off' n' cap') []:=
 fun st' kE kL=>e1▸e2▸e3▸ .slBlh rfl ((kE x (by simp[Op.operands,Call.operands])).trans hx) ((kE y (by simp[Op.operands,Call.operands])).trans hy) ((kE z (by simp[Op.operands,Call.operands])).trans hz) hs.h h0 h1 h2
theorem v_slB3{x y z u:Operand}{t e:TypeId}{k id off n cap:Nat}{kd kd' kd'':IntKind}{i j m:Int}(hx:St.ev ⟨fr,bx,tk⟩ x= .bsl id off n cap)(hy:St.ev ⟨fr,bx,tk⟩ y= .iv (.im (.int kd i)))(hz:St.ev ⟨fr,bx,tk⟩ z= .iv (.im (.int kd' j)))(hu:St.ev ⟨fr,bx,tk⟩ u= .iv (.im (.int kd'' m)))[hs:SliceTy P t e k](h0:0≤i)(h1:i≤j)(h2:j≤m)(h3:m≤cap):VV P c ⟨fr,bx,tk⟩ ⟨some d,.slice t x (some y) (some z) (some u),ty,pos,aft,none⟩ (.bsl id (off+i.toNat*k) (j.toNat - i.toNat) (m.toNat - i.toNat)) []:=
 fun st' kE kL=> .slB3 rfl ((kE x (by simp[Op.operands,Call.operands])).trans hx) ((kE y (by simp[Op.operands,Call.operands])).trans hy) ((kE z (by simp[Op.operands,Call.operands])).trans hz) ((kE u (by simp[Op.operands,Call.operands])).trans hu) hs.h h0 h1 h2 h3
theorem v_eqlNil{x y:Operand}{t t' e:TypeId}{k:Nat}{es:List (List IV)}(hx:(St.ev ⟨fr,bx,tk⟩ x).sl?=some es)(hy:St.ev ⟨fr,bx,tk⟩ y= .nils)[hs:SliceTy P t e k](hne:es≠ []):VV P c ⟨fr,bx,tk⟩ ⟨some d,.binOp .eql t x y t',ty,pos,aft,none⟩ (aB false) []:=
 fun st' kE kL=> .eqlNil rfl ((congrArg AV.sl? (kE x (by simp[Op.operands,Call.operands]))).trans hx) ((kE y (by simp[Op.operands,Call.operands])).trans hy) hs.h hne
theorem v_app0{x y:Operand}{t t' e e':TypeId}{k k':Nat}(hx:(St.ev ⟨fr,bx,tk⟩ x).sl?=some [])(hy:(St.ev ⟨fr,bx,tk⟩ y).sl?=some [])[hs:SliceTy P t e k][hs2:SliceTy P t' e' k']:VV P c ⟨fr,bx,tk⟩ ⟨some d,.call {callee:= .builtin .append,args:= #[x,y],argTypes:= #[t,t']},ty,pos,aft,none⟩ (.iv (.sl [])) []:=
 fun st' kE kL=> .app0 rfl hs.h hs2.h ((congrArg AV.sl? (kE x (by simp[Op.operands,Call.operands]))).trans hx) ((congrArg AV.sl? (kE y (by simp[Op.operands,Call.operands]))).trans hy)
theorem v_load1R{t:TypeId}{x:Operand}{id off k mm i f:Nat}{bt:TypeId}{es:List (List IV)}{e:List IV}{y:IV}(hx:St.ev ⟨fr,bx,tk⟩ x= .ptr id off)[ht:VarTy P t false 1](hb:bx.lookup id=some ⟨bt,.r es.flatten mm⟩)(hk: ∀e∈es,e.length=k)(ho:off=i*k+f)(he:es[i]?=some e)(hf:e[f]?=some y):VV P c ⟨fr,bx,tk⟩ ⟨some d,.load t x,ty,pos,aft,none⟩ (.iv y) [id]:=
 fun st' kE kL=> .load1R rfl ht.h ((kE x (by simp[Op.operands,Call.operands])).trans hx) ((kL id (by simp)).trans hb) hk ho he hf
theorem v_loadAR{t:TypeId}{x:Operand}{id off k mm i:Nat}{bt:TypeId}{es:List (List IV)}{e:List IV}{vs:List AV}(hx:St.ev ⟨fr,bx,tk⟩ x= .ptr id off)[ht:VarTy P t true k](hb:bx.lookup id=some ⟨bt,.r es.flatten mm⟩)(hk: ∀e∈es,e.length=k)(ho:off=i*k)(he:es[i]?=some e)(hv:e.map AV.iv=vs):VV P c ⟨fr,bx,tk⟩ ⟨some d,.load t x,ty,pos,aft,none⟩ (.agg vs) [id]:=
 fun st' kE kL=> .loadAR rfl ht.h ((kE x (by simp[Op.operands,Call.operands])).trans hx) ((kL id (by simp)).trans hb) hk ho he hv
theorem v_overlapsR{f:FuncId}{x y:Operand}{ats:Array TypeId}{t tr e:TypeId}{k i j offi n cap offj m capj mm mm':Nat}{bt bt':TypeId}{xs ys:List IV}(hx:St.ev ⟨fr,bx,tk⟩ x= .bsl i offi n cap)(hy:St.ev ⟨fr,bx,tk⟩ y= .bsl j offj m capj)[hok:OvlTy P f t tr][hs:SliceTy P t e k](hij:(i==j)=false)(hb:bx.lookup i=some ⟨bt,.r xs mm⟩)(hb2:bx.lookup j=some ⟨bt',.r ys mm'⟩)(hoff:cap≠0)(hin:offi<xs.length)(hne:ys≠ []):VV P c ⟨fr,bx,tk⟩ ⟨some d,.call {callee:= .value (.func f),args:= #[x,y],argTypes:=ats},ty,pos,aft,none⟩ (aB false) [i,j]:=
 fun st' kE kL=> .overlapsR rfl hok.h hs.h ((kE x (by simp[Op.operands,Call.operands])).trans hx) ((kE y (by simp[Op.operands,Call.operands])).trans hy) (by simpa using hij) ((kL i (by simp)).trans hb) ((kL j (by simp)).trans hb2) hoff hin hne
theorem s_copyRR{t t' e:TypeId}{x y:Operand}{k n cnt id off cap id' off' n' cap' mm mm' mr i i':Nat}{bt bt':TypeId}{es es' er:List (List IV)}(hlt:Nat.ble (d+1) c.nt=true)(hx:St.ev ⟨fr,bx,tk⟩ x= .bsl id off n cap)(hy:St.ev ⟨fr,bx,tk⟩ y= .bsl id' off' n' cap')[hs:SliceTy P t e k](hb:bx.lookup id=some ⟨bt,.r es.flatten mm⟩)(hb2:bx.lookup id'=some ⟨bt',.r es'.flatten mm'⟩)(hk: ∀e∈es,e.length=k)(hk2: ∀e∈es',e.length=k)(hk0:0<k)(hoff:off=i*k)(hoff2:off'=i'*k)(hcnt:Nat.min n' n=cnt)(hpos:0<cnt)(hle:(i'+n')*k≤es'.length*k+mm')(hin:i'+cnt≤es'.length)(hi:i≤es.length)(hm:(i+cnt)*k≤es.length*k+mm)(her:es.take i++((es'.drop i').take cnt++es.drop (i+cnt))=er)(hmr:mm - (i+cnt - es.length)*k=mr)
 (h:LW P c ⟨(d,aI cnt)::fr,(id,⟨bt,.r er.flatten mr⟩)::bx,tk⟩ ops Q rest):LW P c ⟨fr,bx,tk⟩ ops Q (⟨some d,.call {callee:= .builtin .copy,args:= #[x,y],argTypes:= #[t,t']},ty,pos,aft,none⟩::rest):=
 L.make (st:=⟨fr,bx,tk⟩) rfl rfl hlt (her▸hmr▸ .copyRR rfl hs.h hx hb hy hb2 hk hk2 hk0 hoff hoff2 hcnt hpos hle hin hi hm) h
theorem s_copyRP{t t' e:TypeId}{x y:Operand}{k n id off cap mm mr i:Nat}{bt:TypeId}{es news er:List (List IV)}(hlt:Nat.ble (d+1) c.nt=true)(hx:St.ev ⟨fr,bx,tk⟩ x= .bsl id off n cap)(hy:(St.ev ⟨fr,bx,tk⟩ y).sl?=some news)[hs:SliceTy P t e k](hb:bx.lookup id=some ⟨bt,.r es.flatten mm⟩)(hk: ∀e∈es,e.length=k)(hk2: ∀e∈news,e.length=k)(hk0:0<k)(hoff:off=i*k)(hcnt:news.length≤n)(hne:news≠ [])(hi:i≤es.length)(hm:(i+news.length)*k≤es.length*k+mm)(her:es.take i++(news++es.drop (i+news.length))=er)(hmr:mm - (i+news.length - es.length)*k=mr)
 (h:LW P c ⟨(d,aI news.length)::fr,(id,⟨bt,.r er.flatten mr⟩)::bx,tk⟩ ops Q rest):LW P c ⟨fr,bx,tk⟩ ops Q (⟨some d,.call {callee:= .builtin .copy,args:= #[x,y],argTypes:= #[t,t']},ty,pos,aft,none⟩::rest):=
 L.make (st:=⟨fr,bx,tk⟩) rfl rfl hlt (her▸hmr▸ .copyRP rfl hs.h hx hb hy hk hk2 hk0 hoff hcnt hne hi hm) h
theorem s_roomRR{t t' e e':TypeId}{x y:Operand}{k k2 bytes n id cap id' off' n' cap' mm mm' mr i' nr:Nat}{bt bt':TypeId}{es es' er:List (List IV)}(hlt:Nat.ble (d+1) c.nt=true)(hx:St.ev ⟨fr,bx,tk⟩ x= .bsl id 0 n cap)(hy:St.ev ⟨fr,bx,tk⟩ y= .bsl id' off' n' cap')[hr:RowTy P t e k bytes][hs2:SliceTy P t' e' k2](hb:bx.lookup id=some ⟨bt,.r es.flatten mm⟩)(hb2:bx.lookup id'=some ⟨bt',.r es'.flatten mm'⟩)(hbn:es.flatten≠ [] ∨0<mm)(hk: ∀e∈es,e.length=k)(hk2: ∀e∈es',e.length=k)(hoff2:off'=i'*k)(hin:i'+n'≤es'.length)(hc0:0<cap)(hroom:n+n'≤cap)(hi:n≤es.length)(hm:(n+n')*k≤es.length*k+mm)(her:es.take n++((es'.drop i').take n'++es.drop (n+n'))=er)(hmr:mm - (n+n' - es.length)*k=mr)(hnr:n+n'=nr)
 (h:LW P c ⟨(d,.bsl id 0 nr cap)::fr,(id,⟨bt,.r er.flatten mr⟩)::bx,tk⟩ ops Q rest):LW P c ⟨fr,bx,tk⟩ ops Q (⟨some d,.call {callee:= .builtin .append,args:= #[x,y],argTypes:= #[t,t']},ty,pos,aft,none⟩::rest):=by
 obtain⟨ht,hk0,i0,z,hi0,hik,hib,hiz,hzk,hz1⟩:=rowOk_run hr.h
 subst her;subst hmr;subst hnr
 exact L.make (st:=⟨fr,bx,tk⟩) rfl rfl hlt (.roomRR rfl ht hi0 hik (sliceOk_run hs2.h).1 (.inl ⟨_,rfl⟩) hx hb (row_ne hbn) hy hb2 hk hk2 hoff2 hin hc0 hroom hi hm) h
theorem s_roomRP{t t' e e':TypeId}{x y:Operand}{k k2 bytes n id cap mm mr nr:Nat}{bt:TypeId}{es news er:List (List IV)}(hlt:Nat.ble (d+1) c.nt=true)(hx:St.ev ⟨fr,bx,tk⟩ x= .bsl id 0 n cap)(hy:(St.ev ⟨fr,bx,tk⟩ y).sl?=some news)[hr:RowTy P t e k bytes][hs2:SliceTy P t' e' k2](hb:bx.lookup id=some ⟨bt,.r es.flatten mm⟩)(hbn:es.flatten≠ [] ∨0<mm)(hk: ∀e∈es,e.length=k)(hk2: ∀e∈news,e.length=k)(hc0:0<cap)(hroom:n+news.length≤cap)(hi:n≤es.length)(hm:(n+news.length)*k≤es.length*k+mm)(her:es.take n++(news++es.drop (n+news.length))=er)(hmr:mm - (n+news.length - es.length)*k=mr)(hnr:n+news.length=nr)
 (h:LW P c ⟨(d,.bsl id 0 nr cap)::fr,(id,⟨bt,.r er.flatten mr⟩)::bx,tk⟩ ops Q rest):LW P c ⟨fr,bx,tk⟩ ops Q (⟨some d,.call {callee:= .builtin .append,args:= #[x,y],argTypes:= #[t,t']},ty,pos,aft,none⟩::rest):=by
 obtain⟨ht,hk0,i0,z,hi0,hik,hib,hiz,hzk,hz1⟩:=rowOk_run hr.h
 subst her;subst hmr;subst hnr
 exact L.make (st:=⟨fr,bx,tk⟩) rfl rfl hlt (.roomRP rfl ht hi0 hik (sliceOk_run hs2.h).1 (.inl ⟨_,rfl⟩) hx hb (row_ne hbn) hy hk hk2 hk0 hc0 hroom hi hm) h
theorem s_growRP(N:Nat){t t' e e':TypeId}{x y:Operand}{k k2 bytes n id cap mm nr:Nat}{bt:TypeId}{es news er:List (List IV)}(hlt:Nat.ble (d+1) c.nt=true)(hx:St.ev ⟨fr,bx,tk⟩ x= .bsl id 0 n cap)(hy:(St.ev ⟨fr,bx,tk⟩ y).sl?=some news)[hr:RowTy P t e k bytes][hs2:SliceTy P t' e' k2](hb:bx.lookup id=some ⟨bt,.r es.flatten mm⟩)(hk: ∀e∈es,e.length=k)(hk2: ∀e∈news,e.length=k)(hi:n≤es.length)(hcap:cap<n+news.length)(hne:news≠ [])(hm:n+news.length≤maxLen)(hby:(n+news.length)*bytes≤140737488355328)(hf:St.fresh N ⟨fr,bx,tk⟩=true)(her:es.take n++news=er)(hnr:n+news.length=nr)
 (h:LW P c ⟨(d,.bsh N 0 nr k)::fr,(N,⟨e,.r er.flatten 0⟩)::bx,tk⟩ ops Q rest):LW P c ⟨fr,bx,tk⟩ ops Q (⟨some d,.call {callee:= .builtin .append,args:= #[x,y],argTypes:= #[t,t']},ty,pos,aft,none⟩::rest):=by
 obtain⟨ht,hk0,i0,z,hi0,hik,hib,hiz,hzk,hz1⟩:=rowOk_run hr.h
 subst her;subst hnr
 exact L.make (st:=⟨fr,bx,tk⟩) rfl rfl hlt (.growR rfl ht hi0 hik hib hiz hzk hz1 (sliceOk_run hs2.h).1 (.inl ⟨_,rfl⟩) hk0 hx hb hk hi hcap hk2 (.slice hy hk2 hk0) hne hm hby hf) h
theorem s_growRR(N:Nat){t t' e e':TypeId}{x y:Operand}{k k2 bytes n id cap mm nr id' off' n' cap' mm' i':Nat}{bt bt':TypeId}{es es' er:List (List IV)}(hlt:Nat.ble (d+1) c.nt=true)(hx:St.ev ⟨fr,bx,tk⟩ x= .bsl id 0 n cap)(hy:St.ev ⟨fr,bx,tk⟩ y= .bsl id' off' n' cap')[hr:RowTy P t e k bytes][hs2:SliceTy P t' e' k2](hb:bx.lookup id=some ⟨bt,.r es.flatten mm⟩)(hb2:bx.lookup id'=some ⟨bt',.r es'.flatten mm'⟩)(hk: ∀e∈es,e.length=k)(hk2: ∀e∈es',e.length=k)(hoff2:off'=i'*k)(hn0:0<n')(hin:i'+n'≤es'.length)(hi:n≤es.length)(hcap:cap<n+n')(hm:n+n'≤maxLen)(hby:(n+n')*bytes≤140737488355328)(hf:St.fresh N ⟨fr,bx,tk⟩=true)(her:es.take n++(es'.drop i').take n'=er)(hnr:n+n'=nr)
 (h:LW P c ⟨(d,.bsh N 0 nr k)::fr,(N,⟨e,.r er.flatten 0⟩)::bx,tk⟩ ops Q rest):LW P c ⟨fr,bx,tk⟩ ops Q (⟨some d,.call {callee:= .builtin .append,args:= #[x,y],argTypes:= #[t,t']},ty,pos,aft,none⟩::rest):=by
 obtain⟨ht,hk0,i0,z,hi0,hik,hib,hiz,hzk,hz1⟩:=rowOk_run hr.h
 have hnl:((es'.drop i').take n').length=n':=by rw[List.length_take,List.length_drop];omega
 have hM:=Makes.growR (P:=P) (c:=c) (st:=⟨fr,bx,tk⟩) (o:=⟨some d,.call {callee:= .builtin .append,args:= #[x,y],argTypes:= #[t,t']},ty,pos,aft,none⟩) (id':=N) rfl ht hi0 hik hib hiz hzk hz1 (sliceOk_run hs2.h).1 (.inl ⟨_,rfl⟩) hk0 hx hb hk hi (by rw[hnl];exact hcap) (mem_take_len (mem_drop_len hk2)) (.row hy hb2 hk2 hk0 hoff2 hn0 hin) (fun e=>by rw[e] at hnl;simp at hnl;omega) (by rw[hnl];exact hm) (by rw[hnl];exact hby) hf
 rw[hnl] at hM
 subst her;subst hnr
 exact L.make (st:=⟨fr,bx,tk⟩) rfl rfl hlt hM h
theorem s_growRZ(N:Nat){t t' e:TypeId}{kd kd':IntKind}{x y:Operand}{m k bytes n id cap mm nr mr:Nat}{j:Int}{bt:TypeId}{es er:List (List IV)}(hlt:Nat.ble (d+1) c.nt=true)(hx:St.ev ⟨fr,bx,tk⟩ x= .bsl id 0 n cap)(hy:St.ev ⟨fr,bx,tk⟩ y= .iv (.im (.int kd' j)))(hj:j=(m:Int))[hr:RowTy P t e k bytes][hd2:IntTy P t' kd](hb:bx.lookup id=some ⟨bt,.r es.flatten mm⟩)(hk: ∀e∈es,e.length=k)(hi:n≤es.length)(hcap:cap<n+m)(hpos:0<m)(hm:n+m≤maxLen)(hby:(n+m)*bytes≤140737488355328)(hf:St.fresh N ⟨fr,bx,tk⟩=true)(her:es.take n=er)(hnr:n+m=nr)(hmr:m*k=mr)
 (h:LW P c ⟨(d,.bsh N 0 nr k)::fr,(N,⟨e,.r er.flatten mr⟩)::bx,tk⟩ ops Q rest):LW P c ⟨fr,bx,tk⟩ ops Q (⟨some d,.call {callee:= .builtin .append,args:= #[x,y],argTypes:= #[t,t']},ty,pos,aft,none⟩::rest):=by
 obtain⟨ht,hk0,i0,z,hi0,hik,hib,hiz,hzk,hz1⟩:=rowOk_run hr.h
 subst her;subst hnr;subst hmr;subst hj
 exact L.make (st:=⟨fr,bx,tk⟩) rfl rfl hlt (.growRZ rfl ht hi0 hik hib hiz hzk hz1 hd2.h hk0 hx hb hk hi hcap hy hpos hm hby hf) h
theorem s_cloneR(N:Nat){t t' e e':TypeId}{x y:Operand}{k k2 bytes id off:Nat}{news:List (List IV)}(hlt:Nat.ble (d+1) c.nt=true)(hx:St.ev ⟨fr,bx,tk⟩ x= .bsl id off 0 0)(hy:(St.ev ⟨fr,bx,tk⟩ y).sl?=some news)[hr:RowTy P t e k bytes][hs2:SliceTy P t' e' k2](hk2: ∀e∈news,e.length=k)(hne:news≠ [])(hm:news.length≤maxLen)(hby:news.length*bytes≤140737488355328)(hf:St.fresh N ⟨fr,bx,tk⟩=true)
 (h:LW P c ⟨(d,.bsh N 0 news.length k)::fr,(N,⟨e,.r news.flatten 0⟩)::bx,tk⟩ ops Q rest):LW P c ⟨fr,bx,tk⟩ ops Q (⟨some d,.call {callee:= .builtin .append,args:= #[x,y],argTypes:= #[t,t']},ty,pos,aft,none⟩::rest):=by
 obtain⟨ht,hk0,i0,z,hi0,hik,hib,hiz,hzk,hz1⟩:=rowOk_run hr.h
 exact L.make (st:=⟨fr,bx,tk⟩) rfl rfl hlt (.cloneR rfl ht hi0 hik hib hiz hzk hz1 (sliceOk_run hs2.h).1 (.inl ⟨_,rfl⟩) hk0 hx hk2 (.slice hy hk2 hk0) hne hm hby hf) h
theorem s_nilR(N:Nat){t t' e e':TypeId}{x y:Operand}{k k2 bytes:Nat}{news:List (List IV)}(hlt:Nat.ble (d+1) c.nt=true)(hx:St.ev ⟨fr,bx,tk⟩ x= .nils)(hy:(St.ev ⟨fr,bx,tk⟩ y).sl?=some news)[hr:RowTy P t e k bytes][hs2:SliceTy P t' e' k2](hk2: ∀e∈news,e.length=k)(hne:news≠ [])(hm:news.length≤maxLen)(hby:news.length*bytes≤140737488355328)(hf:St.fresh N ⟨fr,bx,tk⟩=true)
 (h:LW P c ⟨(d,.bsh N 0 news.length k)::fr,(N,⟨e,.r news.flatten 0⟩)::bx,tk⟩ ops Q rest):LW P c ⟨fr,bx,tk⟩ ops Q (⟨some d,.call {callee:= .builtin .append,args:= #[x,y],argTypes:= #[t,t']},ty,pos,aft,none⟩::rest):=by
 obtain⟨ht,hk0,i0,z,hi0,hik,hib,hiz,hzk,hz1⟩:=rowOk_run hr.h
 exact L.make (st:=⟨fr,bx,tk⟩) rfl rfl hlt (.nilR rfl ht hi0 hik hib hiz hzk hz1 (sliceOk_run hs2.h).1 (.inl ⟨_,rfl⟩) hk0 hx hk2 (.slice hy hk2 hk0) hne hm hby hf) h
theorem v_capNil{x:Operand}{t e:TypeId}{k:Nat}(hx:St.ev ⟨fr,bx,tk⟩ x= .nils)[hs:SliceTy P t e k]:VV P c ⟨fr,bx,tk⟩ ⟨some d,.call {callee:= .builtin .cap,args:= #[x],argTypes:= #[t]},ty,pos,aft,none⟩ (aI 0) []:=
 fun st' kE kL=> .capNil rfl hs.h ((kE x (by simp[Op.operands,Call.operands])).trans hx)
theorem v_slNil{x y:Operand}{t e:TypeId}{k:Nat}{kd:IntKind}{j:Int}(hx:St.ev ⟨fr,bx,tk⟩ x= .nils)(hy:St.ev ⟨fr,bx,tk⟩ y= .iv (.im (.int kd j)))[hs:SliceTy P t e k](h0:j=0):VV P c ⟨fr,bx,tk⟩ ⟨some d,.slice t x none (some y) none,ty,pos,aft,none⟩ (.nils) []:=
 fun st' kE kL=> .slNil rfl ((kE x (by simp[Op.operands,Call.operands])).trans hx) ((kE y (by simp[Op.operands,Call.operands])).trans hy) hs.h h0
theorem v_slBshH{x y:Operand}{t e:TypeId}{k id n n':Nat}{kd:IntKind}{j:Int}(hx:St.ev ⟨fr,bx,tk⟩ x= .bsh id 0 n k)(hy:St.ev ⟨fr,bx,tk⟩ y= .iv (.im (.int kd j)))[hs:SliceTy P t e k](h0:0≤j)(h1:j≤n)(e2:j.toNat=n'):VV P c ⟨fr,bx,tk⟩ ⟨some d,.slice t x none (some y) none,ty,pos,aft,none⟩ (.bsh id 0 n' k) []:=
 fun st' kE kL=>e2▸ .slBshH rfl ((kE x (by simp[Op.operands,Call.operands])).trans hx) ((kE y (by simp[Op.operands,Call.operands])).trans hy) hs.h h0 h1
theorem s_growNZ(N:Nat){t t' e:TypeId}{kd kd':IntKind}{x y:Operand}{m k bytes mr:Nat}{j:Int}(hlt:Nat.ble (d+1) c.nt=true)(hx:St.ev ⟨fr,bx,tk⟩ x= .nils)(hy:St.ev ⟨fr,bx,tk⟩ y= .iv (.im (.int kd' j)))(hj:j=(m:Int))[hr:RowTy P t e k bytes][hd2:IntTy P t' kd](hpos:0<m)(hm:m≤maxLen)(hby:m*bytes≤140737488355328)(hf:St.fresh N ⟨fr,bx,tk⟩=true)(hmr:m*k=mr)
 (h:LW P c ⟨(d,.bsh N 0 m k)::fr,(N,⟨e,.r [] mr⟩)::bx,tk⟩ ops Q rest):LW P c ⟨fr,bx,tk⟩ ops Q (⟨some d,.call {callee:= .builtin .append,args:= #[x,y],argTypes:= #[t,t']},ty,pos,aft,none⟩::rest):=by
 obtain⟨ht,hk0,i0,z,hi0,hik,hib,hiz,hzk,hz1⟩:=rowOk_run hr.h
 subst hmr;subst hj
 exact L.make (st:=⟨fr,bx,tk⟩) rfl rfl hlt (.growNZ rfl ht hi0 hik hib hiz hzk hz1 hd2.h hk0 hx hy hpos hm hby hf) h
theorem s_appendH(N:Nat){t t' e e':TypeId}{x y:Operand}{k k2 bytes n id mm nr:Nat}{es news er:List (List IV)}(hlt:Nat.ble (d+1) c.nt=true)(hx:St.ev ⟨fr,bx,tk⟩ x= .bsh id 0 n k)(hy:(St.ev ⟨fr,bx,tk⟩ y).sl?=some news)[hr:RowTy P t e k bytes][hs2:SliceTy P t' e' k2](hb:bx.lookup id=some ⟨e,.r es.flatten mm⟩)(hbn:es.flatten≠ [] ∨0<mm)(hk: ∀e∈es,e.length=k)(hk2: ∀e∈news,e.length=k)(hi:n≤es.length)(hne:news≠ [])(hm:n+news.length≤maxLen)(hby:(n+news.length)*bytes≤140737488355328)(hf:St.fresh N ⟨fr,bx,tk⟩=true)(her:es.take n++news=er)(hnr:n+news.length=nr)
 (h:LW P c ⟨(d,.bsh N 0 nr k)::fr,(N,⟨e,.r er.flatten 0⟩)::(id,⟨e,.l []⟩)::bx,tk⟩ ops Q rest):LW P c ⟨fr,bx,tk⟩ ops Q (⟨some d,.call {callee:= .builtin .append,args:= #[x,y],argTypes:= #[t,t']},ty,pos,aft,none⟩::rest):=by
 obtain⟨ht,hk0,i0,z,hi0,hik,hib,hiz,hzk,hz1⟩:=rowOk_run hr.h
 subst her;subst hnr
 exact L.appendH (st:=⟨fr,bx,tk⟩) N rfl rfl hlt rfl ht hi0 hik hib hiz hzk hz1 (sliceOk_run hs2.h).1 (.inl ⟨_,rfl⟩) hk0 hx hb hbn hk hi hk2 (.slice hy hk2 hk0) hne hm hby hf h
theorem s_callJ(N:Nat){f:FuncId}{args:Array Operand}{ats:Array TypeId}{zas:List AV}{q a k n n':Nat}{t1 t2:TypeId}{xs ys:List IV}{res:AV}(hlt:Nat.ble (d+1) c.nt=true)[hok:CallTy P f]
 (hc:CallA P f (.ptr 1000 0::zas) [(1000,⟨t1,.l [.bsh 1001 0 n k]⟩),(1001,⟨t2,.r xs 0⟩)] [(1000,⟨t1,.l [.bsh 1002 0 n' k]⟩),(1002,⟨t2,.r ys 0⟩),(1001,⟨t2,.l []⟩)] [] res)
 (ha:AV.pub.pubs (args.toList.map (St.ev ⟨fr,bx,tk⟩))= .ptr q 0::zas) (hb:bx.lookup q=some ⟨t1,.l [.bsh a 0 n k]⟩) (hb2:bx.lookup a=some ⟨t2,.r xs 0⟩) (hxs:xs≠ []) (hqa:(q==a)=false) (hm:AV.mentsIn [] zas=true) (hr:AV.mentIn [] res=true) (hf:St.fresh N ⟨fr,bx,tk⟩=true)
 (h:LW P c ⟨(d,res)::fr,(q,⟨t1,.l [.bsh N 0 n' k]⟩)::(N,⟨t2,.r ys 0⟩)::(a,⟨t2,.l []⟩)::bx,tk⟩ ops Q rest):LW P c ⟨fr,bx,tk⟩ ops Q (⟨some d,.call {callee:= .value (.func f),args:=args,argTypes:=ats},ty,pos,aft,none⟩::rest):=
 L.callJ (st:=⟨fr,bx,tk⟩) N rfl rfl hlt rfl hok.h hc ha hb hb2 hxs hqa hm hr hf h
theorem s_call01N{f:FuncId}{args:Array Operand}{ats:Array TypeId}{zas:List AV}{k n m:Nat}{bt:TypeId}{xs:List IV}(hlt:Nat.ble (d+1) c.nt=true)[hok:CallTy P f](hc:CallA P f zas [] [(1000,⟨bt,.r xs m⟩)] [] (.bsh 1000 0 n k))(ha:args.toList.map (St.ev ⟨fr,bx,tk⟩)=zas)(hm:AV.mentsIn [] zas=true)(hf:St.fresh d ⟨fr,bx,tk⟩=true)
 (h:LW P c ⟨(d,.bsh d 0 n k)::fr,(d,⟨bt,.r xs m⟩)::bx,tk⟩ ops Q rest):LW P c ⟨fr,bx,tk⟩ ops Q (⟨some d,.call {callee:= .value (.func f),args:=args,argTypes:=ats},ty,pos,aft,none⟩::rest):=
 L.call01N (st:=⟨fr,bx,tk⟩) rfl rfl hlt rfl hok.h hc ha hm hf h
theorem s_mkEmpty{t e:TypeId}{k:Nat}{zs:List Value}(hlt:Nat.ble (d+1) c.nt=true)[hs:SliceTy P t e k][hz:ZeroTy P e zs](h1:zs.all (·.oneCell')=true)(hzl:zs.length=k)(hnk:Nat.ble 1 k=true)(hfr:St.fresh d ⟨fr,bx,tk⟩=true)
 (h:LW P c ⟨(d,.bsl d 0 0 0)::fr,(d,⟨e,.l []⟩)::bx,tk⟩ ops Q rest):LW P c ⟨fr,bx,tk⟩ ops Q (⟨some d,.buildSlice t 0 #[],ty,pos,aft,none⟩::rest):=
 L.make (st:=⟨fr,bx,tk⟩) rfl rfl hlt (.buildBox (cs:= []) rfl hs.h hz.h h1 hzl (by simp) (Nat.le_of_ble_eq_true hnk) (by simp[fillA]) (by simp) rfl hfr) h
theorem s_buildR{t e:TypeId}{n k:Nat}{parts:Array (Nat×Operand)}{zs:List Value}{cs:List AV}{es:List (List IV)}(hlt:Nat.ble (d+1) c.nt=true)[hs:SliceTy P t e k][hz:ZeroTy P e zs](h1:zs.all (·.oneCell')=true)(hzl:zs.length=k)(hn:Nat.ble (n*k) 16777216=true)(hnk:Nat.ble 1 k=true)(hf:fillA (fun i=>some (i*k,k)) ((List.range (n*k)).map fun i=>constCell (zs.getD (i % k) undef)) (parts.toList.map fun x=>(x.1,St.ev ⟨fr,bx,tk⟩ x.2))=some cs)(hcs:cs=es.flatten.map AV.iv)(hcl:es.flatten.length=n*k)(hfr:St.fresh d ⟨fr,bx,tk⟩=true)
 (h:LW P c ⟨(d,.bsl d 0 n n)::fr,(d,⟨e,.r es.flatten 0⟩)::bx,tk⟩ ops Q rest):LW P c ⟨fr,bx,tk⟩ ops Q (⟨some d,.buildSlice t n parts,ty,pos,aft,none⟩::rest):=
 L.make (st:=⟨fr,bx,tk⟩) rfl rfl hlt (.buildR rfl hs.h hz.h h1 hzl (Nat.le_of_ble_eq_true hn) (Nat.le_of_ble_eq_true hnk) hf hcs hcl hfr) h
theorem s_storeR{t:TypeId}{x y:Operand}{id off k mm i:Nat}{bt:TypeId}{es er:List (List IV)}{e:List IV}{v:AV}{agg:Bool}(hx:St.ev ⟨fr,bx,tk⟩ x= .ptr id off)(hy:St.ev ⟨fr,bx,tk⟩ y=v)[ht:VarTy P t agg k](hb:bx.lookup id=some ⟨bt,.r es.flatten mm⟩)
 (hv:v.lays=true) (hc:v.cells=e.map AV.iv) (he:e.length=k) (hk: ∀e∈es,e.length=k) (ho:off=i*k) (hi:i<es.length) (her:es.set i e=er)
 (h:LW P c ⟨fr,(id,⟨bt,.r er.flatten mm⟩)::bx,tk⟩ ops Q rest):LW P c ⟨fr,bx,tk⟩ ops Q (⟨none,.store t x y,ty,pos,aft,none⟩::rest):=by
 subst her
 exact L.does (st:=⟨fr,bx,tk⟩) rfl rfl (.storeR rfl ht.h hx hb hy hv hc he hk ho hi) h
theorem s_clearR{t e:TypeId}{x:Operand}{k bytes n id off cap mm mr j:Nat}{bt:TypeId}{es er:List (List IV)}(hx:St.ev ⟨fr,bx,tk⟩ x= .bsl id off n cap)[hr:RowTy P t e k bytes](hb:bx.lookup id=some ⟨bt,.r es.flatten mm⟩)(hk: ∀e∈es,e.length=k)(hoff:off=j*k)(hj:j≤es.length)(hn0:0<n)(hle:(j+n)*k≤es.length*k+mm)(her:es.take j=er)(hmr:es.length*k+mm - j*k=mr)
 (h:LW P c ⟨fr,(id,⟨bt,.r er.flatten mr⟩)::bx,tk⟩ ops Q rest):LW P c ⟨fr,bx,tk⟩ ops Q (⟨none,.call {callee:= .builtin .clear,args:= #[x],argTypes:= #[t]},ty,pos,aft,none⟩::rest):=by
 obtain⟨ht,hk0,i0,z,hi0,hik,hib,hiz,hzk,hz1⟩:=rowOk_run hr.h
 subst her;subst hmr
 exact L.clearR (st:=⟨fr,bx,tk⟩) rfl rfl rfl ht hi0 hiz hzk hz1 hk0 hx hb hk hoff hj hn0 hle h
theorem s_call01{f:FuncId}{args:Array Operand}{ats:Array TypeId}{zas:List AV}{k n:Nat}{bt:TypeId}{xs:List IV}(hlt:Nat.ble (d+1) c.nt=true)[hok:CallTy P f](hc:CallA P f zas [] [(1000,⟨bt,.r xs 0⟩)] [] (.bsh 1000 0 n k))(ha:AV.pub.pubs (args.toList.map (St.ev ⟨fr,bx,tk⟩))=zas)(hm:AV.mentsIn [] zas=true)(hf:St.fresh d ⟨fr,bx,tk⟩=true)
 (h:LW P c ⟨(d,.bsh d 0 n k)::fr,(d,⟨bt,.r xs 0⟩)::bx,tk⟩ ops Q rest):LW P c ⟨fr,bx,tk⟩ ops Q (⟨some d,.call {callee:= .value (.func f),args:=args,argTypes:=ats},ty,pos,aft,none⟩::rest):=
 L.call01 (st:=⟨fr,bx,tk⟩) rfl rfl hlt rfl hok.h hc ha hm hf h
theorem s_call02{f:FuncId}{args:Array Operand}{ats:Array TypeId}{zas:List AV}{k n k' n':Nat}{bt bt':TypeId}{xs xs':List IV}(hlt:Nat.ble (d+1) c.nt=true)[hok:CallTy P f](hc:CallA P f zas [] [(1000,⟨bt,.r xs 0⟩),(1001,⟨bt',.r xs' 0⟩)] [] (.agg [.bsh 1000 0 n k,.bsh 1001 0 n' k']))(ha:AV.pub.pubs (args.toList.map (St.ev ⟨fr,bx,tk⟩))=zas)(hm:AV.mentsIn [] zas=true)(hf:St.fresh d ⟨fr,bx,tk⟩=true)(hf2:St.fresh (d+2000) ⟨fr,bx,tk⟩=true)
 (h:LW P c ⟨(d,.agg [.bsh d 0 n k,.bsh (d+2000) 0 n' k'])::fr,(d,⟨bt,.r xs 0⟩)::(d+2000,⟨bt',.r xs' 0⟩)::bx,tk⟩ ops Q rest):LW P c ⟨fr,bx,tk⟩ ops Q (⟨some d,.call {callee:= .value (.func f),args:=args,argTypes:=ats},ty,pos,aft,none⟩::rest):=
 L.call02 (st:=⟨fr,bx,tk⟩) rfl rfl hlt rfl hok.h hc ha hm hf hf2 h
theorem s_call11{f:FuncId}{args:Array Operand}{ats:Array TypeId}{zas:List AV}{a k n n':Nat}{bt:TypeId}{xs ys:List IV}(hlt:Nat.ble (d+1) c.nt=true)[hok:CallTy P f](hc:CallA P f (.bsh 1000 0 n k::zas) [(1000,⟨bt,.r xs 0⟩)] [(1001,⟨bt,.r ys 0⟩),(1000,⟨bt,.l []⟩)] [] (.bsh 1001 0 n' k))(ha:AV.pub.pubs (args.toList.map (St.ev ⟨fr,bx,tk⟩))= .bsh a 0 n k::zas)(hb:bx.lookup a=some ⟨bt,.r xs 0⟩)(hxs:xs≠ [])(hm:AV.mentsIn [] zas=true)(hf:St.fresh d ⟨fr,bx,tk⟩=true)
 (h:LW P c ⟨(d,.bsh d 0 n' k)::fr,(d,⟨bt,.r ys 0⟩)::(a,⟨bt,.l []⟩)::bx,tk⟩ ops Q rest):LW P c ⟨fr,bx,tk⟩ ops Q (⟨some d,.call {callee:= .value (.func f),args:=args,argTypes:=ats},ty,pos,aft,none⟩::rest):=
 L.call11 (st:=⟨fr,bx,tk⟩) rfl rfl hlt rfl hok.h hc ha hb hxs hm hf h
theorem s_call10{f:FuncId}{args:Array Operand}{ats:Array TypeId}{zas:List AV}{a k n:Nat}{bt:TypeId}{xs:List IV}{res:IV}(hlt:Nat.ble (d+1) c.nt=true)[hok:CallTy P f](hc:CallA P f (.bsh 1000 0 n k::zas) [(1000,⟨bt,.r xs 0⟩)] [(1000,⟨bt,.l []⟩)] [] (.iv res))(ha:AV.pub.pubs (args.toList.map (St.ev ⟨fr,bx,tk⟩))= .bsh a 0 n k::zas)(hb:bx.lookup a=some ⟨bt,.r xs 0⟩)(hxs:xs≠ [])(hm:AV.mentsIn [] zas=true)
 (h:LW P c ⟨(d,.iv res)::fr,(a,⟨bt,.l []⟩)::bx,tk⟩ ops Q rest):LW P c ⟨fr,bx,tk⟩ ops Q (⟨some d,.call {callee:= .value (.func f),args:=args,argTypes:=ats},ty,pos,aft,none⟩::rest):=
 L.call10 (st:=⟨fr,bx,tk⟩) rfl rfl hlt rfl hok.h hc ha hb hxs hm h
theorem s_call21{f:FuncId}{args:Array Operand}{ats:Array TypeId}{i:AV}{a v k n m n':Nat}{bt bt':TypeId}{xs vs ys:List IV}(hlt:Nat.ble (d+1) c.nt=true)[hok:CallTy P f](hc:CallA P f [.bsh 1000 0 n k,i,.bsl 1001 0 m m] [(1000,⟨bt,.r xs 0⟩),(1001,⟨bt',.r vs 0⟩)] [(1002,⟨bt,.r ys 0⟩),(1000,⟨bt,.l []⟩),(1001,⟨bt',.l []⟩)] [] (.bsh 1002 0 n' k))(ha:AV.pub.pubs (args.toList.map (St.ev ⟨fr,bx,tk⟩))= [.bsh a 0 n k,i,.bsl v 0 m m])
 (hb:bx.lookup a=some ⟨bt,.r xs 0⟩) (hb2:bx.lookup v=some ⟨bt',.r vs 0⟩) (hxs:xs≠ []) (hvs:vs≠ []) (hav:(a==v)=false) (hm:AV.mentIn [] i=true) (hf:St.fresh d ⟨fr,bx,tk⟩=true)
 (h:LW P c ⟨(d,.bsh d 0 n' k)::fr,(d,⟨bt,.r ys 0⟩)::(a,⟨bt,.l []⟩)::(v,⟨bt',.l []⟩)::bx,tk⟩ ops Q rest):LW P c ⟨fr,bx,tk⟩ ops Q (⟨some d,.call {callee:= .value (.func f),args:=args,argTypes:=ats},ty,pos,aft,none⟩::rest):=
 L.call21 (st:=⟨fr,bx,tk⟩) rfl rfl hlt rfl hok.h hc ha hb hb2 hxs hvs hav hm hf h
theorem s_eqlNil0{x y:Operand}{t t' e:TypeId}{k:Nat}(hlt:Nat.ble (d+1) c.nt=true)(hx:(St.ev ⟨fr,bx,tk⟩ x).sl?=some [])(hy:St.ev ⟨fr,bx,tk⟩ y= .nils)[hs:SliceTy P t e k]
 (h: ∀b,LW P c ⟨(d,aB b)::fr,bx,tk⟩ ops Q rest):LW P c ⟨fr,bx,tk⟩ ops Q (⟨some d,.binOp .eql t x y t',ty,pos,aft,none⟩::rest):=
 L.eqlNil0 (st:=⟨fr,bx,tk⟩) rfl rfl hlt rfl hx hy hs.h h
end
attribute [irreducible] LW VV
end Go.Abs
