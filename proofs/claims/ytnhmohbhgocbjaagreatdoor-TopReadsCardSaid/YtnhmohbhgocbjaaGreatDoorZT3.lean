/- Lemmas towards the law. Conditions: each one says its own. -/
import Derived.Test.YtnhmohbhgocbjaaGreatDoorZT2
set_option linter.all false
set_option maxHeartbeats 64000000
set_option maxRecDepth 100000
namespace Go.Abs
variable [Dr]
class VarTy (P:Program) (t:TypeId) (agg:outParam Bool) (k:outParam Nat):Prop where
 h:nI P t agg k=true
class FieldTy (P:Program) (s:TypeId) (f:Nat) (fo:outParam Nat):Prop where
 h:rq P s f fo=true
class SliceTy (P:Program) (t:TypeId) (e:outParam TypeId) (k:outParam Nat):Prop where
 h:bI P t e k=true
class StrTy (P:Program) (t:TypeId):Prop where
 h:P.underlying t=some .string
class BoolTy (P:Program) (t:TypeId):Prop where
 h:P.underlying t=some .bool
class IntTy (P:Program) (t:TypeId) (k:outParam IntKind):Prop where
 h:P.underlying t=some (.int k)
class ZeroTy (P:Program) (t:TypeId) (zs:outParam (List Value)):Prop where
 h:dy P t=some zs
class PlacesTy (P:Program) (t:TypeId) (pl:outParam (List (Nat×Nat))):Prop where
 h:vf P t=some pl
class CallTy (P:Program) (f:FuncId):Prop where
 h:dQ P f=true
class EqTy (P:Program) (t:TypeId) (ks:outParam (List Nat)):Prop where
 h:IM P t ks=true
class IdxTy (P:Program) (f:FuncId):Prop where
 h:tB P f Extern.BytealgIndexByte.indexByte
class ArrTy (P:Program) (t:TypeId) (e:outParam TypeId) (n:outParam Nat):Prop where
 h:LI P t e n=true
class FldTy (P:Program) (s:TypeId) (f:Nat) (fo:outParam Nat):Prop where
 h:IA P s f fo=true
class PtrTy (P:Program) (t:TypeId):Prop where
 h:P.underlying t=some (.pointer (P.pointee t))
class MixTy (P:Program):Prop where
 h:P.follows .mixedOrders=true
def Fm(P:Program)(t:TypeId)(e:TypeId)(k bytes:Nat):Bool:=
 bI P t e k && (match P.info? e with|some i=>i.bytes==bytes && (match i.zero with|some z=>z.cells.size==k|none=>false)|none=>false) && (Nat.ble 1 k && Nat.ble bytes 100000)
class AppTy (P:Program) (t:TypeId) (e:outParam TypeId) (k bytes:outParam Nat):Prop where
 h:Fm P t e k bytes=true
def nc{P:Program}{t e:TypeId}{k bytes:Nat}(h:Fm P t e k bytes=true):
 P.underlying t=some (.slice e)∧0<k∧ ∃(i:TypeInfo) (z:Value),P.info? e=some i∧i.size=k∧i.bytes=bytes∧i.zero=some z∧z.cells.size=k∧bytes≤100000:=by
 unfold Fm at h;simp only[aE] at h;obtain⟨⟨h1,h2⟩,h3,h6⟩:=h;obtain⟨hu,i,hi,hs⟩:=aH h1;rw[hi] at h2;simp only[aE,beq_iff_eq] at h2;obtain⟨h4,h5⟩:=h2;cases hz:i.zero with
 |none=>rw[hz] at h5;simp at h5
 |some z=>rw[hz] at h5;exact⟨hu,bT h3,i,z,hi,hs,h4,hz,by simpa using h5,bT h6⟩
def CC{P:Program}{t:TypeId}{zs:List Value}(h:dy P t=some zs): ∃z,(P.info? t).bind (·.zero)=some z∧z.cells.toList=zs:=by
 unfold dy at h;exact Option.map_eq_some_iff.1 h
def LW(P:Program)(c:Ctx)(st:St)(ops:Array Oper)(Q:Exit→Act→World→Prop)(l:List Oper):Prop:=L c st (wpList P ops Q l)
def VV(P:Program)(c:Ctx)(st:St)(o:Oper)(v:AV)(tb:List Nat):Prop:=
 ∀st':St,(∀x∈o.op.operands,st'.ev x=st.ev x)→(∀id∈tb,st'.bx.lookup id=st.bx.lookup id)→Yields P c st' o v
def VV.out{P:Program}{c:Ctx}{st:St}{o:Oper}{v:AV}{tb:List Nat}(h:VV P c st o v tb): ∀st':St,(∀x∈o.op.operands,st'.ev x=st.ev x)→(∀id∈tb,st'.bx.lookup id=st.bx.lookup id)→Yields P c st' o v:=h
def agP{st st':St}{ps:Array Operand}(he: ∀x∈ps,st'.ev x=st.ev x){parts:Array (Nat×Operand)}(h: ∀x∈parts,x.2∈ps):
 (parts.toList.map fun x=>(x.1,st'.ev x.2))=parts.toList.map fun x=>(x.1,st.ev x.2):=
 List.map_congr_left fun x hx=>by rw[he x.2 (h x (by simpa using hx))]
def Jx{st st':St}{ps:Array Operand}(he: ∀x∈ps,st'.ev x=st.ev x){args:Array Operand}(h: ∀x∈args,x∈ps):
 (args.toList.map st'.ev)=args.toList.map st.ev:=
 List.map_congr_left fun x hx=>he x (h x (by simpa using hx))
section
variable {P:Program}{c:Ctx}{fr:List (Nat×AV)}{bx:List (Nat×Box)}{tk:List (Nat×Tok)}{ops:Array Oper}{Q:Exit→Act→World→Prop}{rest:List Oper}
 {d:Nat} {ty:TypeId} {pos:String} {aft:Array Edge}
section
variable {args:Array Operand}{NJ cs ds vs:List AV}{ats:Array TypeId}{b b':Bool}{bytes fo id j off q:Nat}{e s t t':TypeId}{es es' news:List (List IV)}{f:FuncId}{gs:au}{i x y z:Operand}{k k' k0 kd:IntKind}{ks:List Nat}{m n p:Int}{m':List UInt8}{op:Op}{parts:Array (Nat×Operand)}{res v:AV}{st:St}{zs:List Value}
def ag{tb:List Nat}(hlt:Nat.ble (d+1) c.nt=true)(hv:VV P c ⟨fr,bx,tk⟩ ⟨some d,op,ty,pos,aft,none⟩ v tb)(h:LW P c ⟨(d,v)::fr,bx,tk⟩ ops Q rest):
 LW P c ⟨fr,bx,tk⟩ ops Q (⟨some d,op,ty,pos,aft,none⟩::rest):=L.val (st:=⟨fr,bx,tk⟩) U U hlt (hv _ (fun _ _=>rfl) (fun _ _=>rfl)) h
def MN(hx:St.ev ⟨fr,bx,tk⟩ x=v):VV P c ⟨fr,bx,tk⟩ ⟨some d,.move x,ty,pos,aft,none⟩ (v) []:=
 fun st' kE kL=>((kE x oO).trans hx)▸ .move U
def MO(hx:St.ev ⟨fr,bx,tk⟩ x=v):VV P c ⟨fr,bx,tk⟩ ⟨some d,.assign x,ty,pos,aft,none⟩ (v) []:=
 fun st' kE kL=>((kE x oO).trans hx)▸ .assign U
def iV(hx:St.ev ⟨fr,bx,tk⟩ x=aI m)(hy:St.ev ⟨fr,bx,tk⟩ y=aI n)(hlo: -9223372036854775808≤m+n)(hhi:m+n≤9223372036854775807):VV P c ⟨fr,bx,tk⟩ ⟨some d,.binOp .add t x y t',ty,pos,aft,none⟩ (aI (m+n)) []:=
 fun st' kE kL=> .addI U ((kE x oO).trans hx) ((kE y oO).trans hy) hlo hhi
def qf(hx:St.ev ⟨fr,bx,tk⟩ x=aI m)(hy:St.ev ⟨fr,bx,tk⟩ y=aI n)(hlo: -9223372036854775808≤m - n)(hhi:m - n≤9223372036854775807):VV P c ⟨fr,bx,tk⟩ ⟨some d,.binOp .sub t x y t',ty,pos,aft,none⟩ (aI (m - n)) []:=
 fun st' kE kL=> .subI U ((kE x oO).trans hx) ((kE y oO).trans hy) hlo hhi
def GO(hx:St.ev ⟨fr,bx,tk⟩ x=aI m)(hy:St.ev ⟨fr,bx,tk⟩ y=aI n)(hlo: -9223372036854775808≤m*n)(hhi:m*n≤9223372036854775807):VV P c ⟨fr,bx,tk⟩ ⟨some d,.binOp .mul t x y t',ty,pos,aft,none⟩ (aI (m*n)) []:=
 fun st' kE kL=> .mulI U ((kE x oO).trans hx) ((kE y oO).trans hy) hlo hhi
def Hb(hx:St.ev ⟨fr,bx,tk⟩ x= .iv (.im (.int k m)))(hy:St.ev ⟨fr,bx,tk⟩ y= .iv (.im (.int k n))):VV P c ⟨fr,bx,tk⟩ ⟨some d,.binOp .eql t x y t',ty,pos,aft,none⟩ (aB (m==n)) []:=
 fun st' kE kL=> .eqlI U ((kE x oO).trans hx) ((kE y oO).trans hy)
def GN(hx:St.ev ⟨fr,bx,tk⟩ x= .iv (.im (.int k m)))(hy:St.ev ⟨fr,bx,tk⟩ y= .iv (.im (.int k n))):VV P c ⟨fr,bx,tk⟩ ⟨some d,.binOp .neq t x y t',ty,pos,aft,none⟩ (aB (m !=n)) []:=
 fun st' kE kL=> .neqI U ((kE x oO).trans hx) ((kE y oO).trans hy)
def GR(hx:St.ev ⟨fr,bx,tk⟩ x= .iv (.im (.int k m)))(hy:St.ev ⟨fr,bx,tk⟩ y= .iv (.im (.int k n))):VV P c ⟨fr,bx,tk⟩ ⟨some d,.binOp .lss t x y t',ty,pos,aft,none⟩ (aB (decide (m<n))) []:=
 fun st' kE kL=> .lssI U ((kE x oO).trans hx) ((kE y oO).trans hy)
def GT(hx:St.ev ⟨fr,bx,tk⟩ x= .iv (.im (.int k m)))(hy:St.ev ⟨fr,bx,tk⟩ y= .iv (.im (.int k n))):VV P c ⟨fr,bx,tk⟩ ⟨some d,.binOp .leq t x y t',ty,pos,aft,none⟩ (aB (decide (m≤n))) []:=
 fun st' kE kL=> .leqI U ((kE x oO).trans hx) ((kE y oO).trans hy)
def GX(hx:St.ev ⟨fr,bx,tk⟩ x= .iv (.im (.int k m)))(hy:St.ev ⟨fr,bx,tk⟩ y= .iv (.im (.int k n))):VV P c ⟨fr,bx,tk⟩ ⟨some d,.binOp .gtr t x y t',ty,pos,aft,none⟩ (aB (decide (n<m))) []:=
 fun st' kE kL=> .gtrI U ((kE x oO).trans hx) ((kE y oO).trans hy)
def GZ(hx:St.ev ⟨fr,bx,tk⟩ x= .iv (.im (.int k m)))(hy:St.ev ⟨fr,bx,tk⟩ y= .iv (.im (.int k n))):VV P c ⟨fr,bx,tk⟩ ⟨some d,.binOp .geq t x y t',ty,pos,aft,none⟩ (aB (decide (n≤m))) []:=
 fun st' kE kL=> .geqI U ((kE x oO).trans hx) ((kE y oO).trans hy)
def Ha{m n:List UInt8}(hx:St.ev ⟨fr,bx,tk⟩ x=aS m)(hy:St.ev ⟨fr,bx,tk⟩ y=aS n):VV P c ⟨fr,bx,tk⟩ ⟨some d,.binOp .eql t x y t',ty,pos,aft,none⟩ (aB (m==n)) []:=
 fun st' kE kL=> .eqlS U ((kE x oO).trans hx) ((kE y oO).trans hy)
def GM{m n:List UInt8}(hx:St.ev ⟨fr,bx,tk⟩ x=aS m)(hy:St.ev ⟨fr,bx,tk⟩ y=aS n):VV P c ⟨fr,bx,tk⟩ ⟨some d,.binOp .neq t x y t',ty,pos,aft,none⟩ (aB (!(m==n))) []:=
 fun st' kE kL=> .neqS U ((kE x oO).trans hx) ((kE y oO).trans hy)
def GQ{m n:List UInt8}(hx:St.ev ⟨fr,bx,tk⟩ x=aS m)(hy:St.ev ⟨fr,bx,tk⟩ y=aS n):VV P c ⟨fr,bx,tk⟩ ⟨some d,.binOp .lss t x y t',ty,pos,aft,none⟩ (aB (Op.bytesLess m n)) []:=
 fun st' kE kL=> .lssS U ((kE x oO).trans hx) ((kE y oO).trans hy)
def GS{m n:List UInt8}(hx:St.ev ⟨fr,bx,tk⟩ x=aS m)(hy:St.ev ⟨fr,bx,tk⟩ y=aS n):VV P c ⟨fr,bx,tk⟩ ⟨some d,.binOp .leq t x y t',ty,pos,aft,none⟩ (aB (Op.bytesLess m n||m==n)) []:=
 fun st' kE kL=> .leqS U ((kE x oO).trans hx) ((kE y oO).trans hy)
def GW{m n:List UInt8}(hx:St.ev ⟨fr,bx,tk⟩ x=aS m)(hy:St.ev ⟨fr,bx,tk⟩ y=aS n):VV P c ⟨fr,bx,tk⟩ ⟨some d,.binOp .gtr t x y t',ty,pos,aft,none⟩ (aB (!(Op.bytesLess m n||m==n))) []:=
 fun st' kE kL=> .gtrS U ((kE x oO).trans hx) ((kE y oO).trans hy)
def GY{m n:List UInt8}(hx:St.ev ⟨fr,bx,tk⟩ x=aS m)(hy:St.ev ⟨fr,bx,tk⟩ y=aS n):VV P c ⟨fr,bx,tk⟩ ⟨some d,.binOp .geq t x y t',ty,pos,aft,none⟩ (aB (!(Op.bytesLess m n))) []:=
 fun st' kE kL=> .geqS U ((kE x oO).trans hx) ((kE y oO).trans hy)
def Hd{m n:List UInt8}(hx:St.ev ⟨fr,bx,tk⟩ x=aS m)(hy:St.ev ⟨fr,bx,tk⟩ y=aS n)(hl:m.length+n.length≤9223372036854775807):VV P c ⟨fr,bx,tk⟩ ⟨some d,.binOp .add t x y t',ty,pos,aft,none⟩ (aS (m++n)) []:=
 fun st' kE kL=> .addS U ((kE x oO).trans hx) ((kE y oO).trans hy) hl
def Er(hx:St.ev ⟨fr,bx,tk⟩ x= .ptr id off)(hy:St.ev ⟨fr,bx,tk⟩ y=Nt)[ht:PtrTy P t]:VV P c ⟨fr,bx,tk⟩ ⟨some d,.binOp .eql t x y t',ty,pos,aft,none⟩ (aB false) []:=
 fun st' kE kL=> .eqlPP U ((kE x oO).trans hx) ((kE y oO).trans hy) ht.h
def Lu(hx:St.ev ⟨fr,bx,tk⟩ x=aB b):VV P c ⟨fr,bx,tk⟩ ⟨some d,.unOp .not t x,ty,pos,aft,none⟩ (aB (!b)) []:=
 fun st' kE kL=> .not U ((kE x oO).trans hx)
def yR(hx:St.ev ⟨fr,bx,tk⟩ x=aI m)(hlo: -9223372036854775808≤0 - m)(hhi:0 - m≤9223372036854775807):VV P c ⟨fr,bx,tk⟩ ⟨some d,.unOp .neg t x,ty,pos,aft,none⟩ (aI (0 - m)) []:=
 fun st' kE kL=> .negI U ((kE x oO).trans hx) hlo hhi
def CH(hx:St.ev ⟨fr,bx,tk⟩ x= .iv (.im (.int k m)))[ht:IntTy P t k'][hs:IntTy P s k0]:VV P c ⟨fr,bx,tk⟩ ⟨some d,.convert s t x,ty,pos,aft,none⟩ (.iv (.im (.int k' (k'.wrap m)))) []:=
 fun st' kE kL=> .conv U ((kE x oO).trans hx) ht.h (by rw[hs.h];rfl)
def GU{m:List UInt8}(hx:St.ev ⟨fr,bx,tk⟩ x=aS m)[ht:StrTy P t]:VV P c ⟨fr,bx,tk⟩ ⟨some d,.call {callee:= .builtin .len,args:= #[x],argTypes:= #[t]},ty,pos,aft,none⟩ (aI m.length) []:=
 fun st' kE kL=> .lenS U ((kE x oO).trans hx) ht.h
def Ep{k:Nat}(hx:(St.ev ⟨fr,bx,tk⟩ x).sl?=some es)[hs:SliceTy P t e k]:VV P c ⟨fr,bx,tk⟩ ⟨some d,.call {callee:= .builtin .len,args:= #[x],argTypes:= #[t]},ty,pos,aft,none⟩ (aI es.length) []:=
 fun st' kE kL=> .lenSl U hs.h ((congrArg AV.sl? (kE x oO)).trans hx)
def bF{m:List UInt8}{b:UInt8}(hx:St.ev ⟨fr,bx,tk⟩ x=aS m)(hn:St.ev ⟨fr,bx,tk⟩ i= .iv (.im (.int k n)))[ht:StrTy P t](h0:0≤n)(hb:m[n.toNat]?=some b):VV P c ⟨fr,bx,tk⟩ ⟨some d,.index t x i,ty,pos,aft,none⟩ (.iv (.im (.int .u8 b.toNat))) []:=
 fun st' kE kL=> .indexS U ((kE x oO).trans hx) ((kE i oO).trans hn) ht.h h0 hb
def An{m:List UInt8}(hx:St.ev ⟨fr,bx,tk⟩ x=aS m)(hn:St.ev ⟨fr,bx,tk⟩ i= .iv (.im (.int k n)))[ht:StrTy P t](h0:0≤n)(h1:n<m.length):VV P c ⟨fr,bx,tk⟩ ⟨some d,.index t x i,ty,pos,aft,none⟩ (.iv (.im (.int .u8 (m.getD n.toNat 0).toNat))) []:=
 fun st' kE kL=> .indexD U ((kE x oO).trans hx) ((kE i oO).trans hn) ht.h h0 h1
def Ap{f off':Nat}(hx:St.ev ⟨fr,bx,tk⟩ x= .ptr id off)[hf:FieldTy P s f fo](ho:off+fo=off'):VV P c ⟨fr,bx,tk⟩ ⟨some d,.fieldAddr s x f,ty,pos,aft,none⟩ (.ptr id off') []:=
 fun st' kE kL=>ho▸ .fieldP U ((kE x oO).trans hx) hf.h
def Aq{f:Nat}{cs cs':List IV}(hx:St.ev ⟨fr,bx,tk⟩ x= .el cs)[hf:FieldTy P s f fo](hc:cs.drop fo=cs'):VV P c ⟨fr,bx,tk⟩ ⟨some d,.fieldAddr s x f,ty,pos,aft,none⟩ (.el cs') []:=
 fun st' kE kL=>hc▸ .fieldE U ((kE x oO).trans hx) hf.h
def cd{k:Nat}{cs:List IV}(hx:(St.ev ⟨fr,bx,tk⟩ x).sl?=some es)(hn:St.ev ⟨fr,bx,tk⟩ i= .iv (.im (.int kd n)))[hs:SliceTy P t e k](h0:0≤n)(hc:es[n.toNat]?=some cs)(hl:cs.length=k):VV P c ⟨fr,bx,tk⟩ ⟨some d,.indexAddr t x i,ty,pos,aft,none⟩ (.el cs) []:=
 fun st' kE kL=> .indexAddr U hs.h ((congrArg AV.sl? (kE x oO)).trans hx) ((kE i oO).trans hn) h0 hc hl
def Aj{b:Box}(hx:St.ev ⟨fr,bx,tk⟩ x= .ptr id off)[ht:VarTy P t false 1](hb:bx.lookup id=some b)(hv:b.cs[off]?=some v):VV P c ⟨fr,bx,tk⟩ ⟨some d,.load t x,ty,pos,aft,none⟩ (v) [id]:=
 fun st' kE kL=> .load1P U ht.h ((kE x oO).trans hx) ((kL id sP).trans hb) hv
def cO{k:Nat}{b:Box}(hx:St.ev ⟨fr,bx,tk⟩ x= .ptr id off)[ht:VarTy P t true k](hb:bx.lookup id=some b)(hc:(b.cs.drop off).take k=cs)(hk:cs.length=k):VV P c ⟨fr,bx,tk⟩ ⟨some d,.load t x,ty,pos,aft,none⟩ (.agg cs) [id]:=
 fun st' kE kL=>hc▸ .loadAP U ht.h ((kE x oO).trans hx) ((kL id sP).trans hb) (hc.symm▸hk)
def Ak{y:IV}{cs:List IV}(hx:St.ev ⟨fr,bx,tk⟩ x= .el cs)[ht:VarTy P t false 1](hy:cs[0]?=some y):VV P c ⟨fr,bx,tk⟩ ⟨some d,.load t x,ty,pos,aft,none⟩ (.iv y) []:=
 fun st' kE kL=> .load1E U ht.h ((kE x oO).trans hx) hy
def Ai{k:Nat}{cs:List IV}(hx:St.ev ⟨fr,bx,tk⟩ x= .el cs)[ht:VarTy P t true k](hc:(cs.take k).map AV.iv=vs)(hk:vs.length=k):VV P c ⟨fr,bx,tk⟩ ⟨some d,.load t x,ty,pos,aft,none⟩ (.agg vs) []:=
 fun st' kE kL=>hc▸ .loadAE U ht.h ((kE x oO).trans hx) (by rw[←lM (f:=AV.iv),hc];exact hk)
def xq{i:Nat}(hx:St.ev ⟨fr,bx,tk⟩ x= .tup vs)(hv:vs[i]?=some v):VV P c ⟨fr,bx,tk⟩ ⟨some d,.extract x i,ty,pos,aft,none⟩ (v) []:=
 fun st' kE kL=> .extract U ((kE x oO).trans hx) hv
def GL(hx:St.ev ⟨fr,bx,tk⟩ x= .ptr id off):VV P c ⟨fr,bx,tk⟩ ⟨some d,.nilCheck x,ty,pos,aft,none⟩ (.ptr id off) []:=
 fun st' kE kL=> .nilCheckP U ((kE x oO).trans hx)
def Es{pl:List (Nat×Nat)}[hz:ZeroTy P t zs](h1:zs.all (·.oneCell')=true)[hp:PlacesTy P t pl](hf:lS (pl[·]?) (zs.map cz) (parts.toList.map fun x=>(x.1,St.ev ⟨fr,bx,tk⟩ x.2))=some cs):VV P c ⟨fr,bx,tk⟩ ⟨some d,.build t parts,ty,pos,aft,none⟩ (.agg cs) []:=
 fun st' kE kL=> .build U hz.h h1 hp.h (by rw[agP kE (fun x hx=>by simp only[Op.operands];exact List.mem_toArray.2 (List.mem_map.2 ⟨x,by simpa using hx,rfl⟩))];exact hf)
def Ar(hx:St.ev ⟨fr,bx,tk⟩ x= .agg cs)(hy:St.ev ⟨fr,bx,tk⟩ y= .agg ds)[hok:EqTy P t ks](hn:cs.map mv=ks)(hb:vW cs ds=some b):VV P c ⟨fr,bx,tk⟩ ⟨some d,.binOp .eql t x y t',ty,pos,aft,none⟩ (aB (b)) []:=
 fun st' kE kL=> .eqlAgg U ((kE x oO).trans hx) ((kE y oO).trans hy) hok.h hn hb
def Ah(hx:St.ev ⟨fr,bx,tk⟩ x= .agg cs)(hy:St.ev ⟨fr,bx,tk⟩ y= .agg ds)[hok:EqTy P t ks](hn:cs.map mv=ks)(hb:vW cs ds=some b):VV P c ⟨fr,bx,tk⟩ ⟨some d,.binOp .neq t x y t',ty,pos,aft,none⟩ (aB (!b)) []:=
 fun st' kE kL=> .neqAgg U ((kE x oO).trans hx) ((kE y oO).trans hy) hok.h hn hb
def GI(hx:St.ev ⟨fr,bx,tk⟩ x= .iv (.im (.int k m)))(hy:St.ev ⟨fr,bx,tk⟩ y= .iv (.im (.int k' n)))(h0:0≤n):VV P c ⟨fr,bx,tk⟩ ⟨some d,.binOp .shr t x y t',ty,pos,aft,none⟩ (.iv (.im (.int k (m.fdiv (2 ^ min n.toNat k.bits))))) []:=
 fun st' kE kL=> .shrI U ((kE x oO).trans hx) ((kE y oO).trans hy) h0
def xp{a:Int}(i:Nat)(hx:St.ev ⟨fr,bx,tk⟩ x=aI m)(hy:St.ev ⟨fr,bx,tk⟩ y=aI n)(hp:(2:Int)^ i=p)(hm:m=a*p)(ha:0≤a)(h1:a*p+p≤9223372036854775807)(hn:0≤n)(h2:n<p):VV P c ⟨fr,bx,tk⟩ ⟨some d,.binOp .or t x y t',ty,pos,aft,none⟩ (aI (m+n)) []:=
 fun st' kE kL=> .orA i U ((kE x oO).trans hx) ((kE y oO).trans hy) hp hm ha h1 hn h2
def rL(hx:St.ev ⟨fr,bx,tk⟩ x=aI m)(hy:St.ev ⟨fr,bx,tk⟩ y= .iv (.im (.int k' n)))(h0:0≤n)(hp:(2:Int)^ min n.toNat 64=p)(hlo: -9223372036854775808≤m*p)(hhi:m*p≤9223372036854775807):VV P c ⟨fr,bx,tk⟩ ⟨some d,.binOp .shl t x y t',ty,pos,aft,none⟩ (aI (m*p)) []:=
 fun st' kE kL=> .shlA U ((kE x oO).trans hx) ((kE y oO).trans hy) h0 hp hlo hhi
def As{b:UInt8}(hx:St.ev ⟨fr,bx,tk⟩ x= .iv (.im (.int .u8 (b.toNat:Int))))[ht:IntTy P t .i64][hs:IntTy P s k0]:VV P c ⟨fr,bx,tk⟩ ⟨some d,.convert s t x,ty,pos,aft,none⟩ (aI (b.toNat:Int)) []:=
 fun st' kE kL=> .convU8 U ((kE x oO).trans hx) ht.h (by rw[hs.h];rfl)
def GK(hx:St.ev ⟨fr,bx,tk⟩ x=aI m)(hy:St.ev ⟨fr,bx,tk⟩ y=aI n)(hn:0<n)(hlo: -9223372036854775808≤m)(hhi:m≤9223372036854775807):VV P c ⟨fr,bx,tk⟩ ⟨some d,.binOp .quo t x y t',ty,pos,aft,none⟩ (aI (m.tdiv n)) []:=
 fun st' kE kL=> .quoI U ((kE x oO).trans hx) ((kE y oO).trans hy) hn hlo hhi
def GJ(hx:St.ev ⟨fr,bx,tk⟩ x= .iv (.im (.int k m)))(hy:St.ev ⟨fr,bx,tk⟩ y= .iv (.im (.int k n)))(hn:0<n):VV P c ⟨fr,bx,tk⟩ ⟨some d,.binOp .rem t x y t',ty,pos,aft,none⟩ (.iv (.im (.int k (m.tmod n)))) []:=
 fun st' kE kL=> .remI U ((kE x oO).trans hx) ((kE y oO).trans hy) hn
def bq{m:List UInt8}(hx:St.ev ⟨fr,bx,tk⟩ x=aS m)(hy:St.ev ⟨fr,bx,tk⟩ y= .iv (.im (.int k n)))[ht:StrTy P t](h0:0≤n)(h1:n≤m.length)(hm:m.drop n.toNat=m'):VV P c ⟨fr,bx,tk⟩ ⟨some d,.slice t x (some y) none none,ty,pos,aft,none⟩ (aS m') []:=
 fun st' kE kL=>hm▸ .sliceSl U ((kE x oO).trans hx) ((kE y oO).trans hy) ht.h h0 h1
def eU{m:List UInt8}(hx:St.ev ⟨fr,bx,tk⟩ x=aS m)(hy:St.ev ⟨fr,bx,tk⟩ y= .iv (.im (.int k n)))[ht:StrTy P t](h0:0≤n)(h1:n≤m.length)(hm:m.take n.toNat=m'):VV P c ⟨fr,bx,tk⟩ ⟨some d,.slice t x none (some y) none,ty,pos,aft,none⟩ (aS m') []:=
 fun st' kE kL=>hm▸ .sliceSh U ((kE x oO).trans hx) ((kE y oO).trans hy) ht.h h0 h1
def uq{m:List UInt8}{j:Int}(hx:St.ev ⟨fr,bx,tk⟩ x=aS m)(hy:St.ev ⟨fr,bx,tk⟩ y= .iv (.im (.int k n)))(hz:St.ev ⟨fr,bx,tk⟩ z= .iv (.im (.int k' j)))[ht:StrTy P t](h0:0≤n)(h1:n≤j)(h2:j≤m.length)(hm:(m.drop n.toNat).take (j.toNat - n.toNat)=m'):VV P c ⟨fr,bx,tk⟩ ⟨some d,.slice t x (some y) (some z) none,ty,pos,aft,none⟩ (aS m') []:=
 fun st' kE kL=>hm▸ .sliceSlh U ((kE x oO).trans hx) ((kE y oO).trans hy) ((kE z oO).trans hz) ht.h h0 h1 h2
def jT{k:Nat}(hx:(St.ev ⟨fr,bx,tk⟩ x).sl?=some es)(hy:St.ev ⟨fr,bx,tk⟩ y= .iv (.im (.int kd n)))[hs:SliceTy P t e k](hk: ∀e∈es,e.length=k)(h0:0≤n)(h1:n≤es.length)(hm:es.drop n.toNat=es'):VV P c ⟨fr,bx,tk⟩ ⟨some d,.slice t x (some y) none none,ty,pos,aft,none⟩ (.iv (.sl es')) []:=
 fun st' kE kL=>hm▸ .sliceVl U ((congrArg AV.sl? (kE x oO)).trans hx) ((kE y oO).trans hy) hs.h hk h0 h1
def eA{k:Nat}(hx:(St.ev ⟨fr,bx,tk⟩ x).sl?=some es)(hy:St.ev ⟨fr,bx,tk⟩ y= .iv (.im (.int kd n)))[hs:SliceTy P t e k](hk: ∀e∈es,e.length=k)(h0:0≤n)(h1:n≤es.length)(hm:es.take n.toNat=es'):VV P c ⟨fr,bx,tk⟩ ⟨some d,.slice t x none (some y) none,ty,pos,aft,none⟩ (.iv (.sl es')) []:=
 fun st' kE kL=>hm▸ .sliceVh U ((congrArg AV.sl? (kE x oO)).trans hx) ((kE y oO).trans hy) hs.h hk h0 h1
def Au{bs:List UInt8}(hx:(St.ev ⟨fr,bx,tk⟩ x).sl?=some (bs.map cB))[hs:SliceTy P s e 1][he:IntTy P e .u8][ht:StrTy P t]:VV P c ⟨fr,bx,tk⟩ ⟨some d,.convert s t x,ty,pos,aft,none⟩ (aS bs) []:=
 fun st' kE kL=> .bytesS U ((congrArg AV.sl? (kE x oO)).trans hx) hs.h he.h ht.h
def MT(hlt:Nat.ble (d+1) c.nt=true)(hx:St.ev ⟨fr,bx,tk⟩ x=v)(hv:v.lays=true)(hc:v.cells=cs)(hf:St.fresh d ⟨fr,bx,tk⟩=true)(hm:AV.ments d cs=false)
 (h:LW P c ⟨(d,.ptr d 0)::fr,(d,⟨t,cs⟩)::bx,tk⟩ ops Q rest):LW P c ⟨fr,bx,tk⟩ ops Q (⟨some d,.box t x,ty,pos,aft,none⟩::rest):=
 L.make (st:=⟨fr,bx,tk⟩) U U hlt (hc▸ .box U hx hv hf (hc.symm▸hm)) h
def GV{m:List UInt8}[hok:IdxTy P f](hx:St.ev ⟨fr,bx,tk⟩ x=aS m)(hy:St.ev ⟨fr,bx,tk⟩ y= .iv (.im (.int .u8 n))):VV P c ⟨fr,bx,tk⟩ ⟨some d,.call {callee:= .value (.func f),args:= #[x,y],argTypes:=ats},ty,pos,aft,none⟩ (aI (Lib.indexByte m n.toNat.toUInt8)) []:=
 fun st' kE kL=> .idxB U hok.h ((kE x oO).trans hx) ((kE y oO).trans hy)
def Hc(hx:St.ev ⟨fr,bx,tk⟩ x=aI m)(hy:St.ev ⟨fr,bx,tk⟩ y=aI 1):VV P c ⟨fr,bx,tk⟩ ⟨some d,.binOp .and t x y t',ty,pos,aft,none⟩ (aI (m % 2)) []:=
 fun st' kE kL=> .and1 U ((kE x oO).trans hx) ((kE y oO).trans hy)
def GP(hx:St.ev ⟨fr,bx,tk⟩ x=aI m)(hy:St.ev ⟨fr,bx,tk⟩ y=aI n):VV P c ⟨fr,bx,tk⟩ ⟨some d,.call {callee:= .builtin .min,args:= #[x,y],argTypes:= #[t,t']},ty,pos,aft,none⟩ (aI (if n<m then n else m)) []:=
 fun st' kE kL=> .min2 U ((kE x oO).trans hx) ((kE y oO).trans hy)
def JI{g:Nat}{x:IV}[ht:VarTy P t false 1](hG:Glob gs c.E0 c.w0)(hmg:(g,[x])∈gs):VV P c ⟨fr,bx,tk⟩ ⟨some d,.load t (.global g),ty,pos,aft,none⟩ (.iv x) []:=
 fun st' kE kL=> .loadG U ht.h hG hmg
def fz{as1:List AV}{b b':Box}(hlt:Nat.ble (d+1) c.nt=true)[hok:CallTy P f](hG:Glob gs c.E0 c.w0)(hc:CallG gs P f as1 [(1000,b)] [(1000,b')] [] res)(ha:AV.pub.pubs (args.toList.map (St.ev ⟨fr,bx,tk⟩))=NJ)(h1:AV.rens (Abs.sws [(1000,q)]) as1=NJ)(hb:bx.lookup q=some b)(hbn:b.cs.isEmpty=false)(hm:AV.mentsIn [] b.cs=true)(hm':AV.mentsIn [] b'.cs=true)(hr:AV.mentIn [] res=true)
 (h:LW P c ⟨(d,res)::fr,(q,b')::bx,tk⟩ ops Q rest):LW P c ⟨fr,bx,tk⟩ ops Q (⟨some d,.call {callee:= .value (.func f),args:=args,argTypes:=ats},ty,pos,aft,none⟩::rest):=
 L.callG1 (st:=⟨fr,bx,tk⟩) U U hlt U hok.h hG hc ha h1 hb hbn hm hm' hr h
def kJ{b b':Box}(hlt:Nat.ble (d+1) c.nt=true)[hok:CallTy P f](hG:Glob gs c.E0 c.w0)(hc:CallG gs P f NJ [(q,b)] [(q,b')] [] res)(ha:AV.pub.pubs (args.toList.map (St.ev ⟨fr,bx,tk⟩))=NJ)(hb:bx.lookup q=some b)(hbn:b.cs.isEmpty=false)(hm':AV.mentsIn [] b'.cs=true)(hr:AV.mentIn [] res=true)
 (h:LW P c ⟨(d,res)::fr,(q,b')::bx,tk⟩ ops Q rest):LW P c ⟨fr,bx,tk⟩ ops Q (⟨some d,.call {callee:= .value (.func f),args:=args,argTypes:=ats},ty,pos,aft,none⟩::rest):=
 L.callQ1 (st:=⟨fr,bx,tk⟩) U U hlt U hok.h hG hc ha hb hbn hm' hr h
def dM(hlt:Nat.ble (d+1) c.nt=true)[hok:CallTy P f](hG:Glob gs c.E0 c.w0)(hc:CallG gs P f NJ [] [] [] res)(ha:AV.pub.pubs (args.toList.map (St.ev ⟨fr,bx,tk⟩))=NJ)
 (hmr:AV.mentIn [] res=true) (h:LW P c ⟨(d,res)::fr,bx,tk⟩ ops Q rest):
 LW P c ⟨fr,bx,tk⟩ ops Q (⟨some d,.call {callee:= .value (.func f),args:=args,argTypes:=ats},ty,pos,aft,none⟩::rest):=
 L.callG0 (st:=⟨fr,bx,tk⟩) U U hlt hG U hok.h hc (.of_pub ha) hmr h
def Ao{f:Nat}(hx:St.ev ⟨fr,bx,tk⟩ x= .agg cs)[hf:FldTy P s f fo](hv:cs[fo]?=some v):VV P c ⟨fr,bx,tk⟩ ⟨some d,.field s x f,ty,pos,aft,none⟩ (v) []:=
 fun st' kE kL=> .fieldV U hf.h ((kE x oO).trans hx) hv
def aA{caps:Array Operand}(hc:caps.toList.map (St.ev ⟨fr,bx,tk⟩)=cs):VV P c ⟨fr,bx,tk⟩ ⟨some d,.makeFunc (.func f) #[] caps,ty,pos,aft,none⟩ (.fn f cs) []:=
 fun st' kE kL=>(((Jx kE (fun x hx=>by simp[Op.operands,hx])).trans hc)▸ .makeFunc U)
def aY{avs caps:List AV}{bxi:List (Nat×Box)}(hlt:Nat.ble (d+1) c.nt=true)(hG:Glob gs c.E0 c.w0)(hx:St.ev ⟨fr,bx,tk⟩ x= .fn f caps)[hok:CallTy P f]
 (hc:CallG gs P f (avs++caps) bxi bxi [] res) (ha:AV.pub.pubs (args.toList.map (St.ev ⟨fr,bx,tk⟩))=avs) (hbi:WkB bx bxi) (hmb:bxi.all (fun p=> !p.2.cs.isEmpty && AV.mentsIn (keys bxi) p.2.cs)=true) (hmr:AV.mentIn (keys bxi) res=true)
 (h:LW P c ⟨(d,res)::fr,bxi++bx,tk⟩ ops Q rest):
 LW P c ⟨fr,bx,tk⟩ ops Q (⟨some d,.call {callee:= .value x,args:=args,argTypes:=ats},ty,pos,aft,none⟩::rest):=
 L.callFnG (st:=⟨fr,bx,tk⟩) U U hlt hG U hx hok.h hc (.of_pub ha) hbi hmb hmr h
def EH(hlt:Nat.ble (d+1) c.nt=true)[hz:ZeroTy P t zs](h1:zs.all (·.oneCell')=true)(hc:zs.map cz=cs)(hf:St.fresh d ⟨fr,bx,tk⟩=true)(hm:AV.ments d cs=false)
 (h:LW P c ⟨(d,.ptr d 0)::fr,(d,⟨t,cs⟩)::bx,tk⟩ ops Q rest):LW P c ⟨fr,bx,tk⟩ ops Q (⟨some d,.alloc t,ty,pos,aft,none⟩::rest):=by
 obtain⟨z,h2,h3⟩:=CC hz.h;subst h3;subst hc;exact L.make (st:=⟨fr,bx,tk⟩) U U hlt (.alloc (i:=default) U h2 h1 hf hm) h
def mB{n k:Nat}{xs:List IV}(hlt:Nat.ble (d+1) c.nt=true)[hs:SliceTy P t e k][hz:ZeroTy P e zs](h1:zs.all (·.oneCell')=true)(hzl:zs.length=k)(hn:Nat.ble (n*k) 16777216=true)(hnk:Nat.ble 1 k=true)(hf:lS (fun i=>some (i*k,k)) ((List.range (n*k)).map fun i=>cz (zs.getD (i % k) undef)) (parts.toList.map fun x=>(x.1,St.ev ⟨fr,bx,tk⟩ x.2))=some cs)(hx:tO cs=some xs)(hcl:cs.length=n*k)(he:cY k n xs=es)(hfr:St.fresh d ⟨fr,bx,tk⟩=true)
 (h:LW P c ⟨(d,.row d es)::fr,bx,(d,⟨e,k⟩)::tk⟩ ops Q rest):LW P c ⟨fr,bx,tk⟩ ops Q (⟨some d,.buildSlice t n parts,ty,pos,aft,none⟩::rest):=
 L.make (st:=⟨fr,bx,tk⟩) U U hlt (he▸ .buildSlice U hs.h hz.h h1 hzl (bT hn) (bT hnk) hf hx hcl hfr) h
def EE{k:Nat}{b:Box}{agg:Bool}(hx:St.ev ⟨fr,bx,tk⟩ x= .ptr id off)(hy:St.ev ⟨fr,bx,tk⟩ y=v)[ht:VarTy P t agg k](hb:bx.lookup id=some b)
 (hv:v.lays=true) (hk:v.cells.length=k) (hle:Nat.ble (off+k) b.cs.length=true) (hc:mb b.cs off v.cells=cs)
 (h:LW P c ⟨fr,(id,⟨b.ty,cs⟩)::bx,tk⟩ ops Q rest):LW P c ⟨fr,bx,tk⟩ ops Q (⟨none,.store t x y,ty,pos,aft,none⟩::rest):=by
 subst hc;exact L.does (st:=⟨fr,bx,tk⟩) U U (.store U ht.h hx hb hy hv hk (bT hle)) h
def bC{k:Nat}(hlt:Nat.ble (d+1) c.nt=true)
 (hx:St.ev ⟨fr,bx,tk⟩ x= .row id es) (htk:tk.lookup id=some ⟨e,k⟩) (hy:(St.ev ⟨fr,bx,tk⟩ y).sl?=some news) [ha:AppTy P t e k bytes] [hs:SliceTy P t' e k] (hes: ∀e∈es,e.length=k) (hnk: ∀e∈news,e.length=k)
 (hm:es.length+news.length≤maxLen) (hby:(es.length+news.length)*bytes≤225000000000000) (hf:St.fresh d ⟨fr,bx,tk⟩=true) (he:es++news=es')
 (h:LW P c ⟨(d,.row d es')::fr,bx,(d,⟨e,k⟩)::delTok id tk⟩ ops Q rest):
 LW P c ⟨fr,bx,tk⟩ ops Q (⟨some d,.call {callee:= .builtin .append,args:= #[x,y],argTypes:= #[t,t']},ty,pos,aft,none⟩::rest):=by
 obtain⟨ht,hk0,i,z,hi0,hik,hib,hiz,hzk,hbs⟩:=nc ha.h;subst he;exact L.make (st:=⟨fr,bx,tk⟩) U U hlt (.append U ht hi0 hik hib hiz hzk (aH hs.h).1 (.inl ⟨_,rfl⟩) hk0 (.inl ⟨hx,htk⟩) hes hnk (.slice hy hnk hk0) hm hby hbs hf) h
def th{k:Nat}(hlt:Nat.ble (d+1) c.nt=true)
 (hx:St.ev ⟨fr,bx,tk⟩ x= .nils) (hy:(St.ev ⟨fr,bx,tk⟩ y).sl?=some news) [ha:AppTy P t e k bytes] [hs:SliceTy P t' e k] (hnk: ∀e∈news,e.length=k)
 (hm:news.length≤maxLen) (hby:news.length*bytes≤225000000000000) (hf:St.fresh d ⟨fr,bx,tk⟩=true)
 (h:LW P c ⟨(d,.row d news)::fr,bx,(d,⟨e,k⟩)::delTok d tk⟩ ops Q rest):
 LW P c ⟨fr,bx,tk⟩ ops Q (⟨some d,.call {callee:= .builtin .append,args:= #[x,y],argTypes:= #[t,t']},ty,pos,aft,none⟩::rest):=by
 obtain⟨ht,hk0,i,z,hi0,hik,hib,hiz,hzk,hbs⟩:=nc ha.h;exact L.make (st:=⟨fr,bx,tk⟩) U U hlt (Makes.append (id:=d) U ht hi0 hik hib hiz hzk (aH hs.h).1 (.inl ⟨_,rfl⟩) hk0 (.inr (.inl ⟨hx,rfl⟩)) sP hnk (.slice hy hnk hk0) (by simpa using hm) (by simpa using hby) hbs hf) h
def xD{k:Nat}(hlt:Nat.ble (d+1) c.nt=true)
 (hx:St.ev ⟨fr,bx,tk⟩ x= .emp) (hy:(St.ev ⟨fr,bx,tk⟩ y).sl?=some news) [ha:AppTy P t e k bytes] [hs:SliceTy P t' e k] (hnk: ∀e∈news,e.length=k) (hne:news≠ [])
 (hm:news.length≤maxLen) (hby:news.length*bytes≤225000000000000) (hf:St.fresh d ⟨fr,bx,tk⟩=true)
 (h:LW P c ⟨(d,.row d news)::fr,bx,(d,⟨e,k⟩)::delTok d tk⟩ ops Q rest):
 LW P c ⟨fr,bx,tk⟩ ops Q (⟨some d,.call {callee:= .builtin .append,args:= #[x,y],argTypes:= #[t,t']},ty,pos,aft,none⟩::rest):=by
 obtain⟨ht,hk0,i,z,hi0,hik,hib,hiz,hzk,hbs⟩:=nc ha.h;exact L.make (st:=⟨fr,bx,tk⟩) U U hlt (Makes.append (id:=d) U ht hi0 hik hib hiz hzk (aH hs.h).1 (.inl ⟨_,rfl⟩) hk0 (.inr (.inr ⟨hx,rfl,hne⟩)) sP hnk (.slice hy hnk hk0) (by simpa using hm) (by simpa using hby) hbs hf) h
def FI{s:List UInt8}(hlt:Nat.ble (d+1) c.nt=true)
 (hx:St.ev ⟨fr,bx,tk⟩ x= .row id es) (htk:tk.lookup id=some ⟨e,1⟩) (hy:St.ev ⟨fr,bx,tk⟩ y=aS s) [ha:AppTy P t e 1 bytes] [hs:StrTy P t'] (hes: ∀e∈es,e.length=1)
 (hm:es.length+s.length≤maxLen) (hby:(es.length+s.length)*bytes≤225000000000000) (hf:St.fresh d ⟨fr,bx,tk⟩=true) (he:(es++s.map fun b=> [IV.im (.int .u8 b.toNat)])=es')
 (h:LW P c ⟨(d,.row d es')::fr,bx,(d,⟨e,1⟩)::delTok id tk⟩ ops Q rest):
 LW P c ⟨fr,bx,tk⟩ ops Q (⟨some d,.call {callee:= .builtin .append,args:= #[x,y],argTypes:= #[t,t']},ty,pos,aft,none⟩::rest):=by
 obtain⟨ht,hk0,i,z,hi0,hik,hib,hiz,hzk,hbs⟩:=nc ha.h;subst he;exact L.make (st:=⟨fr,bx,tk⟩) U U hlt (.append U ht hi0 hik hib hiz hzk hs.h (.inr U) hk0 (.inl ⟨hx,htk⟩) hes (fun e he=>by simp only[List.mem_map] at he;obtain⟨b,_,rfl⟩:=he;rfl) (.string hy) (by simpa using hm) (by simpa using hby) hbs hf) h
def gp(hlt:Nat.ble (d+1) c.nt=true)[hok:CallTy P f](hc:CallA P f NJ [] [] [] res)(ha:AV.pub.pubs (args.toList.map (St.ev ⟨fr,bx,tk⟩))=NJ)
 (hmr:AV.mentIn [] res=true) (h:LW P c ⟨(d,res)::fr,bx,tk⟩ ops Q rest):
 LW P c ⟨fr,bx,tk⟩ ops Q (⟨some d,.call {callee:= .value (.func f),args:=args,argTypes:=ats},ty,pos,aft,none⟩::rest):=
 L.call0 (st:=⟨fr,bx,tk⟩) U U hlt U hok.h hc (.of_pub ha) hmr h
def xC{t:Tok}(hlt:Nat.ble (d+1) c.nt=true)[hok:CallTy P f](hc:CallA P f NJ [] [] [(d,t)] (.row d es))(ha:AV.pub.pubs (args.toList.map (St.ev ⟨fr,bx,tk⟩))=NJ)
 (hf:St.fresh d ⟨fr,bx,tk⟩=true) (h:LW P c ⟨(d,.row d es)::fr,bx,(d,t)::tk⟩ ops Q rest):
 LW P c ⟨fr,bx,tk⟩ ops Q (⟨some d,.call {callee:= .value (.func f),args:=args,argTypes:=ats},ty,pos,aft,none⟩::rest):=
 js (st:=⟨fr,bx,tk⟩) [d] U U hlt U hok.h hc (.of_pub ha) .nil (by simp[hf]) U (by simp[keys]) U (by simp[AV.mentIn]) h
def MS{dst:Option Tmp}{s:Nat}(hj:(ops[j]?).bind (·.dst)=some s)(hb:st.ev (.tmp s)=aB b')(he:b'=b)
 (h:LW P c st ops Q (⟨dst,op,ty,pos,aft,none⟩::rest)):LW P c st ops Q (⟨dst,op,ty,pos,aft,some (j,b)⟩::rest):=L.guardDo hj (he▸hb) h
def AL{s:Nat}(hlt:Nat.ble (d+1) c.nt=true)(hj:(ops[j]?).bind (·.dst)=some s)(hb:St.ev ⟨fr,bx,tk⟩ (.tmp s)=aB b')(he:b'=false)
 (h:LW P c ⟨(d,.opt false .any)::fr,bx,tk⟩ ops Q rest):LW P c ⟨fr,bx,tk⟩ ops Q (⟨some d,op,ty,pos,aft,some (j,true)⟩::rest):=L.guardSkip (st:=⟨fr,bx,tk⟩) hlt hj hb (by rw[he];simp) h
def AM{s:Nat}(hlt:Nat.ble (d+1) c.nt=true)(hj:(ops[j]?).bind (·.dst)=some s)(hb:St.ev ⟨fr,bx,tk⟩ (.tmp s)=aB b')(he:b'=true)
 (h:LW P c ⟨(d,.opt false .any)::fr,bx,tk⟩ ops Q rest):LW P c ⟨fr,bx,tk⟩ ops Q (⟨some d,op,ty,pos,aft,some (j,false)⟩::rest):=L.guardSkip (st:=⟨fr,bx,tk⟩) hlt hj hb (by rw[he];simp) h
def AK{s:Nat}(hlt:Nat.ble (d+1) c.nt=true)(hj:(ops[j]?).bind (·.dst)=some s)(hb:St.ev ⟨fr,bx,tk⟩ (.tmp s)= .opt false .any)
 (h:LW P c ⟨(d,.opt false .any)::fr,bx,tk⟩ ops Q rest):LW P c ⟨fr,bx,tk⟩ ops Q (⟨some d,op,ty,pos,aft,some (j,b)⟩::rest):=L.guardSkipU (st:=⟨fr,bx,tk⟩) hlt hj hb h
def HF{o:Oper}{s:Nat}(hj:(ops[j]?).bind (·.dst)=some s)(hg:o.guard=some (j,b))(hb:st.ev (.tmp s)=aB b')(hT:b'=true→LW P c st ops Q (o::rest))(hF:b'=false→LW P c st ops Q (o::rest)):LW P c st ops Q (o::rest):=by
 cases b'
 · exact hF U
 · exact hT U
def En(hx:St.ev ⟨fr,bx,tk⟩ x=aB b)(hb:b=true)(hy:St.ev ⟨fr,bx,tk⟩ y=v):VV P c ⟨fr,bx,tk⟩ ⟨some d,.pick x y z,ty,pos,aft,none⟩ (v) []:=
 fun st' kE kL=>((kE y oO).trans hy)▸ .pickT U (hb▸((kE x oO).trans hx))
def Eo(hx:St.ev ⟨fr,bx,tk⟩ x=aB b)(hb:b=false)(hy:St.ev ⟨fr,bx,tk⟩ z=v):VV P c ⟨fr,bx,tk⟩ ⟨some d,.pick x y z,ty,pos,aft,none⟩ (v) []:=
 fun st' kE kL=>((kE z oO).trans hy)▸ .pickF U (hb▸((kE x oO).trans hx))
def Np{x y:Code}(h:L c st (x.wp P (Exit.then (y.wp P Q) Q))):L c st ((Code.seq x y).wp P Q):=fun a w hr=>wp_seq (h a w hr)
def Lb{y z:Code}(hx:st.ev x=aB b)(hb:b=true)(h:L c st (y.wp P Q)):L c st ((Code.cond x y z).wp P Q):=Lq (hb▸hx) h
def Lc{y z:Code}(hx:st.ev x=aB b)(hb:b=false)(h:L c st (z.wp P Q)):L c st ((Code.cond x y z).wp P Q):=Lr (hb▸hx) h
def Sub.of_eq{v':AV}(h:v=v'):Sub v v':=h▸Sub.refl v
def Lm(hi:c.ins= []):Wk c st ⟨[],[],[]⟩:=Wk.mk' (by rw[hi];intro id h;cases h) .nil .nil .nil
def HE{l:List Oper}(h:LW P c st l.toArray Q l):L c st ((Code.region id l.toArray false).wp P Q):=L.region h
def EF(h:L c st (Q .normal)):LW P c st ops Q []:=h
end
end
def HK(P:Program)(t:TypeId)(e:TypeId)(k bytes:Nat):Bool:=
 Fm P t e k bytes && (match P.info? e with|some i=>(match i.zero with|some z=>z.cells.toList.all (·.oneCell')|none=>false)|none=>false)
def gT{P:Program}{t e:TypeId}{k bytes:Nat}(h:HK P t e k bytes=true):
 P.underlying t=some (.slice e)∧0<k∧ ∃(i:TypeInfo) (z:Value),P.info? e=some i∧i.size=k∧i.bytes=bytes∧i.zero=some z∧z.cells.size=k∧ ∀u∈z.cells.toList,u.oneCell'=true:=by
 unfold HK at h;simp only[aE] at h;obtain⟨h1,h2⟩:=h;obtain⟨hu,hk,i,z,hi,hs,hb,hz,hzk,_⟩:=nc h1;rw[hi] at h2;simp only[hz] at h2;exact⟨hu,hk,i,z,hi,hs,hb,hz,hzk,fun u hu=>aT h2 u hu⟩
class RowTy (P:Program) (t:TypeId) (e:outParam TypeId) (k bytes:outParam Nat):Prop where
 h:HK P t e k bytes=true
class OvlTy (P:Program) (f:FuncId) (t tr:outParam TypeId):Prop where
 h:tB P f (Extern.SlicesOverlaps.overlaps #[t,t] #[tr])
section
variable {P:Program}{c:Ctx}{fr:List (Nat×AV)}{bx:List (Nat×Box)}{tk:List (Nat×Tok)}{ops:Array Oper}{Q:Exit→Act→World→Prop}{rest:List Oper}
 {d:Nat} {ty:TypeId} {pos:String} {aft:Array Edge}
section
variable {a bytes cap cap' i i' id id' k k' m mm mm' mr n n' off off':Nat}{args:Array Operand}{NJ:List AV}{ats:Array TypeId}{bt bt' e e' t t':TypeId}{er es es':List (List IV)}{f:FuncId}{j:Int}{kd kd':IntKind}{x y z:Operand}{xs ys:List IV}{zs:List Value}
def Al(hx:St.ev ⟨fr,bx,tk⟩ x= .bsl id off n cap)[hs:SliceTy P t e k]:VV P c ⟨fr,bx,tk⟩ ⟨some d,.call {callee:= .builtin .len,args:= #[x],argTypes:= #[t]},ty,pos,aft,none⟩ (aI n) []:=
 fun st' kE kL=> .lenBsl U hs.h ((kE x oO).trans hx)
def Am(hx:St.ev ⟨fr,bx,tk⟩ x= .bsh id off n k')[hs:SliceTy P t e k]:VV P c ⟨fr,bx,tk⟩ ⟨some d,.call {callee:= .builtin .len,args:= #[x],argTypes:= #[t]},ty,pos,aft,none⟩ (aI n) []:=
 fun st' kE kL=> .lenBsh U hs.h ((kE x oO).trans hx)
def At(hx:St.ev ⟨fr,bx,tk⟩ x= .bsl id off n cap)[hs:SliceTy P t e k]:VV P c ⟨fr,bx,tk⟩ ⟨some d,.call {callee:= .builtin .cap,args:= #[x],argTypes:= #[t]},ty,pos,aft,none⟩ (aI cap) []:=
 fun st' kE kL=> .capBsl U hs.h ((kE x oO).trans hx)
def cF{i:Operand}(hx:St.ev ⟨fr,bx,tk⟩ x= .bsl id off n cap)(hj:St.ev ⟨fr,bx,tk⟩ i= .iv (.im (.int kd j)))[hs:SliceTy P t e k](h0:0≤j)(h1:j<n)(ho:off+j.toNat*k=off'):VV P c ⟨fr,bx,tk⟩ ⟨some d,.indexAddr t x i,ty,pos,aft,none⟩ (.ptr id off') []:=
 fun st' kE kL=>ho▸ .indexBsl U hs.h ((kE x oO).trans hx) ((kE i oO).trans hj) h0 h1
def az{i:Operand}(hx:St.ev ⟨fr,bx,tk⟩ x= .bsh id off n k)(hj:St.ev ⟨fr,bx,tk⟩ i= .iv (.im (.int kd j)))[hs:SliceTy P t e k](h0:0≤j)(h1:j<n)(ho:(off+j.toNat)*k=off'):VV P c ⟨fr,bx,tk⟩ ⟨some d,.indexAddr t x i,ty,pos,aft,none⟩ (.ptr id off') []:=
 fun st' kE kL=>ho▸ .indexBsh U hs.h ((kE x oO).trans hx) ((kE i oO).trans hj) h0 h1
def cy(hx:St.ev ⟨fr,bx,tk⟩ x= .bsl id off n cap)(hy:St.ev ⟨fr,bx,tk⟩ y= .iv (.im (.int kd j)))[hs:SliceTy P t e k](h0:0≤j)(h1:j≤n)(e1:off+j.toNat*k=off')(e2:n - j.toNat=n')(e3:cap - j.toNat=cap'):VV P c ⟨fr,bx,tk⟩ ⟨some d,.slice t x (some y) none none,ty,pos,aft,none⟩ (.bsl id off' n' cap') []:=
 fun st' kE kL=>e1▸e2▸e3▸ .slBl U ((kE x oO).trans hx) ((kE y oO).trans hy) hs.h h0 h1
def fg(hx:St.ev ⟨fr,bx,tk⟩ x= .bsl id off n cap)(hy:St.ev ⟨fr,bx,tk⟩ y= .iv (.im (.int kd j)))[hs:SliceTy P t e k](h0:0≤j)(h1:j≤cap)(e2:j.toNat=n'):VV P c ⟨fr,bx,tk⟩ ⟨some d,.slice t x none (some y) none,ty,pos,aft,none⟩ (.bsl id off n' cap) []:=
 fun st' kE kL=>e2▸ .slBh U ((kE x oO).trans hx) ((kE y oO).trans hy) hs.h h0 h1
def tY{i:Int}(hx:St.ev ⟨fr,bx,tk⟩ x= .bsl id off n cap)(hy:St.ev ⟨fr,bx,tk⟩ y= .iv (.im (.int kd i)))(hz:St.ev ⟨fr,bx,tk⟩ z= .iv (.im (.int kd' j)))[hs:SliceTy P t e k](h0:0≤i)(h1:i≤j)(h2:j≤cap)(e1:off+i.toNat*k=off')(e2:j.toNat - i.toNat=n')(e3:cap - i.toNat=cap'):VV P c ⟨fr,bx,tk⟩ ⟨some d,.slice t x (some y) (some z) none,ty,pos,aft,none⟩ (.bsl id off' n' cap') []:=
 fun st' kE kL=>e1▸e2▸e3▸ .slBlh U ((kE x oO).trans hx) ((kE y oO).trans hy) ((kE z oO).trans hz) hs.h h0 h1 h2
def yP{u:Operand}{kd'':IntKind}{i m:Int}(hx:St.ev ⟨fr,bx,tk⟩ x= .bsl id off n cap)(hy:St.ev ⟨fr,bx,tk⟩ y= .iv (.im (.int kd i)))(hz:St.ev ⟨fr,bx,tk⟩ z= .iv (.im (.int kd' j)))(hu:St.ev ⟨fr,bx,tk⟩ u= .iv (.im (.int kd'' m)))[hs:SliceTy P t e k](h0:0≤i)(h1:i≤j)(h2:j≤m)(h3:m≤cap):VV P c ⟨fr,bx,tk⟩ ⟨some d,.slice t x (some y) (some z) (some u),ty,pos,aft,none⟩ (.bsl id (off+i.toNat*k) (j.toNat - i.toNat) (m.toNat - i.toNat)) []:=
 fun st' kE kL=> .slB3 U ((kE x oO).trans hx) ((kE y oO).trans hy) ((kE z oO).trans hz) ((kE u oO).trans hu) hs.h h0 h1 h2 h3
def ju(hx:(St.ev ⟨fr,bx,tk⟩ x).sl?=some es)(hy:St.ev ⟨fr,bx,tk⟩ y= .nils)[hs:SliceTy P t e k](hne:es≠ []):VV P c ⟨fr,bx,tk⟩ ⟨some d,.binOp .eql t x y t',ty,pos,aft,none⟩ (aB false) []:=
 fun st' kE kL=> .eqlNil U ((congrArg AV.sl? (kE x oO)).trans hx) ((kE y oO).trans hy) hs.h hne
def LN(hx:(St.ev ⟨fr,bx,tk⟩ x).sl?=some [])(hy:(St.ev ⟨fr,bx,tk⟩ y).sl?=some [])[hs:SliceTy P t e k][hs2:SliceTy P t' e' k']:VV P c ⟨fr,bx,tk⟩ ⟨some d,.call {callee:= .builtin .append,args:= #[x,y],argTypes:= #[t,t']},ty,pos,aft,none⟩ (.iv (.sl [])) []:=
 fun st' kE kL=> .app0 U hs.h hs2.h ((congrArg AV.sl? (kE x oO)).trans hx) ((congrArg AV.sl? (kE y oO)).trans hy)
def aZ{f:Nat}{e:List IV}{y:IV}(hx:St.ev ⟨fr,bx,tk⟩ x= .ptr id off)[ht:VarTy P t false 1](hb:bx.lookup id=some ⟨bt,.r es.flatten mm⟩)(hk: ∀e∈es,e.length=k)(ho:off=i*k+f)(he:es[i]?=some e)(hf:e[f]?=some y):VV P c ⟨fr,bx,tk⟩ ⟨some d,.load t x,ty,pos,aft,none⟩ (.iv y) [id]:=
 fun st' kE kL=> .load1R U ht.h ((kE x oO).trans hx) ((kL id sP).trans hb) hk ho he hf
def jt{e:List IV}{vs:List AV}(hx:St.ev ⟨fr,bx,tk⟩ x= .ptr id off)[ht:VarTy P t true k](hb:bx.lookup id=some ⟨bt,.r es.flatten mm⟩)(hk: ∀e∈es,e.length=k)(ho:off=i*k)(he:es[i]?=some e)(hv:e.map AV.iv=vs):VV P c ⟨fr,bx,tk⟩ ⟨some d,.load t x,ty,pos,aft,none⟩ (.agg vs) [id]:=
 fun st' kE kL=> .loadAR U ht.h ((kE x oO).trans hx) ((kL id sP).trans hb) hk ho he hv
def lz{tr:TypeId}{j offi offj capj:Nat}(hx:St.ev ⟨fr,bx,tk⟩ x= .bsl i offi n cap)(hy:St.ev ⟨fr,bx,tk⟩ y= .bsl j offj m capj)[hok:OvlTy P f t tr][hs:SliceTy P t e k](hij:(i==j)=false)(hb:bx.lookup i=some ⟨bt,.r xs mm⟩)(hb2:bx.lookup j=some ⟨bt',.r ys mm'⟩)(hoff:cap≠0)(hin:offi<xs.length)(hne:ys≠ []):VV P c ⟨fr,bx,tk⟩ ⟨some d,.call {callee:= .value (.func f),args:= #[x,y],argTypes:=ats},ty,pos,aft,none⟩ (aB false) [i,j]:=
 fun st' kE kL=> .overlapsR U hok.h hs.h ((kE x oO).trans hx) ((kE y oO).trans hy) (by simpa using hij) ((kL i sP).trans hb) ((kL j sP).trans hb2) hoff hin hne
def ii{cnt:Nat}(hlt:Nat.ble (d+1) c.nt=true)(hx:St.ev ⟨fr,bx,tk⟩ x= .bsl id off n cap)(hy:St.ev ⟨fr,bx,tk⟩ y= .bsl id' off' n' cap')[hs:SliceTy P t e k](hb:bx.lookup id=some ⟨bt,.r es.flatten mm⟩)(hb2:bx.lookup id'=some ⟨bt',.r es'.flatten mm'⟩)(hk: ∀e∈es,e.length=k)(hk2: ∀e∈es',e.length=k)(hk0:0<k)(hoff:off=i*k)(hoff2:off'=i'*k)(hcnt:Nat.min n' n=cnt)(hpos:0<cnt)(hle:(i'+n')*k≤es'.length*k+mm')(hin:i'+cnt≤es'.length)(hi:i≤es.length)(hm:(i+cnt)*k≤es.length*k+mm)(her:es.take i++((es'.drop i').take cnt++es.drop (i+cnt))=er)(hmr:mm - (i+cnt - es.length)*k=mr)
 (h:LW P c ⟨(d,aI cnt)::fr,(id,⟨bt,.r er.flatten mr⟩)::bx,tk⟩ ops Q rest):LW P c ⟨fr,bx,tk⟩ ops Q (⟨some d,.call {callee:= .builtin .copy,args:= #[x,y],argTypes:= #[t,t']},ty,pos,aft,none⟩::rest):=
 L.make (st:=⟨fr,bx,tk⟩) U U hlt (her▸hmr▸ .copyRR U hs.h hx hb hy hb2 hk hk2 hk0 hoff hoff2 hcnt hpos hle hin hi hm) h
def oc{k2 nr:Nat}(hlt:Nat.ble (d+1) c.nt=true)(hx:St.ev ⟨fr,bx,tk⟩ x= .bsl id 0 n cap)(hy:St.ev ⟨fr,bx,tk⟩ y= .bsl id' off' n' cap')[hr:RowTy P t e k bytes][hs2:SliceTy P t' e' k2](hb:bx.lookup id=some ⟨bt,.r es.flatten mm⟩)(hb2:bx.lookup id'=some ⟨bt',.r es'.flatten mm'⟩)(hbn:es.flatten≠ [] ∨0<mm)(hk: ∀e∈es,e.length=k)(hk2: ∀e∈es',e.length=k)(hoff2:off'=i'*k)(hin:i'+n'≤es'.length)(hc0:0<cap)(hroom:n+n'≤cap)(hi:n≤es.length)(hm:(n+n')*k≤es.length*k+mm)(her:es.take n++((es'.drop i').take n'++es.drop (n+n'))=er)(hmr:mm - (n+n' - es.length)*k=mr)(hnr:n+n'=nr)
 (h:LW P c ⟨(d,.bsl id 0 nr cap)::fr,(id,⟨bt,.r er.flatten mr⟩)::bx,tk⟩ ops Q rest):LW P c ⟨fr,bx,tk⟩ ops Q (⟨some d,.call {callee:= .builtin .append,args:= #[x,y],argTypes:= #[t,t']},ty,pos,aft,none⟩::rest):=by
 obtain⟨ht,hk0,i0,z,hi0,hik,hib,hiz,hzk,hz1⟩:=gT hr.h;subst her;subst hmr;subst hnr;exact L.make (st:=⟨fr,bx,tk⟩) U U hlt (.roomRR U ht hi0 hik (aH hs2.h).1 (.inl ⟨_,rfl⟩) hx hb (Go.Abs.row_ne hbn) hy hb2 hk hk2 hoff2 hin hc0 hroom hi hm) h
def qM(N:Nat){t t' e e':TypeId}{x y:Operand}{k k2 bytes n id cap mm nr id' off' n' cap' mm' i':Nat}{bt bt':TypeId}{es es' er:List (List IV)}(hlt:Nat.ble (d+1) c.nt=true)(hx:St.ev ⟨fr,bx,tk⟩ x= .bsl id 0 n cap)(hy:St.ev ⟨fr,bx,tk⟩ y= .bsl id' off' n' cap')[hr:RowTy P t e k bytes][hs2:SliceTy P t' e' k2](hb:bx.lookup id=some ⟨bt,.r es.flatten mm⟩)(hb2:bx.lookup id'=some ⟨bt',.r es'.flatten mm'⟩)(hk: ∀e∈es,e.length=k)(hk2: ∀e∈es',e.length=k)(hoff2:off'=i'*k)(hn0:0<n')(hin:i'+n'≤es'.length)(hi:n≤es.length)(hcap:cap<n+n')(hm:n+n'≤maxLen)(hby:(n+n')*bytes≤140737488355328)(hf:St.fresh N ⟨fr,bx,tk⟩=true)(her:es.take n++(es'.drop i').take n'=er)(hnr:n+n'=nr)
 (h:LW P c ⟨(d,.bsh N 0 nr k)::fr,(N,⟨e,.r er.flatten 0⟩)::bx,tk⟩ ops Q rest):LW P c ⟨fr,bx,tk⟩ ops Q (⟨some d,.call {callee:= .builtin .append,args:= #[x,y],argTypes:= #[t,t']},ty,pos,aft,none⟩::rest):=by
 obtain⟨ht,hk0,i0,z,hi0,hik,hib,hiz,hzk,hz1⟩:=gT hr.h;have hnl:((es'.drop i').take n').length=n':=by rw[lT,lD];omega
 have hM:=Makes.growR (P:=P) (c:=c) (st:=⟨fr,bx,tk⟩) (o:=⟨some d,.call {callee:= .builtin .append,args:= #[x,y],argTypes:= #[t,t']},ty,pos,aft,none⟩) (id':=N) U ht hi0 hik hib hiz hzk hz1 (aH hs2.h).1 (.inl ⟨_,rfl⟩) hk0 hx hb hk hi (by rw[hnl];exact hcap) (bw (bO hk2)) (.row hy hb2 hk2 hk0 hoff2 hn0 hin) (fun e=>by rw[e] at hnl;simp at hnl;omega) (by rw[hnl];exact hm) (by rw[hnl];exact hby) hf;rw[hnl] at hM;subst her;subst hnr;exact L.make (st:=⟨fr,bx,tk⟩) U U hlt hM h
def qL(N:Nat){t t' e:TypeId}{kd kd':IntKind}{x y:Operand}{m k bytes n id cap mm nr mr:Nat}{j:Int}{bt:TypeId}{es er:List (List IV)}(hlt:Nat.ble (d+1) c.nt=true)(hx:St.ev ⟨fr,bx,tk⟩ x= .bsl id 0 n cap)(hy:St.ev ⟨fr,bx,tk⟩ y= .iv (.im (.int kd' j)))(hj:j=(m:Int))[hr:RowTy P t e k bytes][hd2:IntTy P t' kd](hb:bx.lookup id=some ⟨bt,.r es.flatten mm⟩)(hk: ∀e∈es,e.length=k)(hi:n≤es.length)(hcap:cap<n+m)(hpos:0<m)(hm:n+m≤maxLen)(hby:(n+m)*bytes≤140737488355328)(hf:St.fresh N ⟨fr,bx,tk⟩=true)(her:es.take n=er)(hnr:n+m=nr)(hmr:m*k=mr)
 (h:LW P c ⟨(d,.bsh N 0 nr k)::fr,(N,⟨e,.r er.flatten mr⟩)::bx,tk⟩ ops Q rest):LW P c ⟨fr,bx,tk⟩ ops Q (⟨some d,.call {callee:= .builtin .append,args:= #[x,y],argTypes:= #[t,t']},ty,pos,aft,none⟩::rest):=by
 obtain⟨ht,hk0,i0,z,hi0,hik,hib,hiz,hzk,hz1⟩:=gT hr.h;subst her;subst hnr;subst hmr;subst hj;exact L.make (st:=⟨fr,bx,tk⟩) U U hlt (.growRZ U ht hi0 hik hib hiz hzk hz1 hd2.h hk0 hx hb hk hi hcap hy hpos hm hby hf) h
def jv(N:Nat){t t' e e':TypeId}{x y:Operand}{k k2 bytes id off:Nat}{news:List (List IV)}(hlt:Nat.ble (d+1) c.nt=true)(hx:St.ev ⟨fr,bx,tk⟩ x= .bsl id off 0 0)(hy:(St.ev ⟨fr,bx,tk⟩ y).sl?=some news)[hr:RowTy P t e k bytes][hs2:SliceTy P t' e' k2](hk2: ∀e∈news,e.length=k)(hne:news≠ [])(hm:news.length≤maxLen)(hby:news.length*bytes≤140737488355328)(hf:St.fresh N ⟨fr,bx,tk⟩=true)
 (h:LW P c ⟨(d,.bsh N 0 news.length k)::fr,(N,⟨e,.r news.flatten 0⟩)::bx,tk⟩ ops Q rest):LW P c ⟨fr,bx,tk⟩ ops Q (⟨some d,.call {callee:= .builtin .append,args:= #[x,y],argTypes:= #[t,t']},ty,pos,aft,none⟩::rest):=by
 obtain⟨ht,hk0,i0,z,hi0,hik,hib,hiz,hzk,hz1⟩:=gT hr.h;exact L.make (st:=⟨fr,bx,tk⟩) U U hlt (.cloneR U ht hi0 hik hib hiz hzk hz1 (aH hs2.h).1 (.inl ⟨_,rfl⟩) hk0 hx hk2 (.slice hy hk2 hk0) hne hm hby hf) h
def od(N:Nat){t t' e e':TypeId}{x y:Operand}{k k2 bytes:Nat}{news:List (List IV)}(hlt:Nat.ble (d+1) c.nt=true)(hx:St.ev ⟨fr,bx,tk⟩ x= .nils)(hy:(St.ev ⟨fr,bx,tk⟩ y).sl?=some news)[hr:RowTy P t e k bytes][hs2:SliceTy P t' e' k2](hk2: ∀e∈news,e.length=k)(hne:news≠ [])(hm:news.length≤maxLen)(hby:news.length*bytes≤140737488355328)(hf:St.fresh N ⟨fr,bx,tk⟩=true)
 (h:LW P c ⟨(d,.bsh N 0 news.length k)::fr,(N,⟨e,.r news.flatten 0⟩)::bx,tk⟩ ops Q rest):LW P c ⟨fr,bx,tk⟩ ops Q (⟨some d,.call {callee:= .builtin .append,args:= #[x,y],argTypes:= #[t,t']},ty,pos,aft,none⟩::rest):=by
 obtain⟨ht,hk0,i0,z,hi0,hik,hib,hiz,hzk,hz1⟩:=gT hr.h;exact L.make (st:=⟨fr,bx,tk⟩) U U hlt (.nilR U ht hi0 hik hib hiz hzk hz1 (aH hs2.h).1 (.inl ⟨_,rfl⟩) hk0 hx hk2 (.slice hy hk2 hk0) hne hm hby hf) h
def nV(hx:St.ev ⟨fr,bx,tk⟩ x= .nils)[hs:SliceTy P t e k]:VV P c ⟨fr,bx,tk⟩ ⟨some d,.call {callee:= .builtin .cap,args:= #[x],argTypes:= #[t]},ty,pos,aft,none⟩ (aI 0) []:=
 fun st' kE kL=> .capNil U hs.h ((kE x oO).trans hx)
def yO(hx:St.ev ⟨fr,bx,tk⟩ x= .nils)(hy:St.ev ⟨fr,bx,tk⟩ y= .iv (.im (.int kd j)))[hs:SliceTy P t e k](h0:j=0):VV P c ⟨fr,bx,tk⟩ ⟨some d,.slice t x none (some y) none,ty,pos,aft,none⟩ (.nils) []:=
 fun st' kE kL=> .slNil U ((kE x oO).trans hx) ((kE y oO).trans hy) hs.h h0
def ur(hx:St.ev ⟨fr,bx,tk⟩ x= .bsh id 0 n k)(hy:St.ev ⟨fr,bx,tk⟩ y= .iv (.im (.int kd j)))[hs:SliceTy P t e k](h0:0≤j)(h1:j≤n)(e2:j.toNat=n'):VV P c ⟨fr,bx,tk⟩ ⟨some d,.slice t x none (some y) none,ty,pos,aft,none⟩ (.bsh id 0 n' k) []:=
 fun st' kE kL=>e2▸ .slBshH U ((kE x oO).trans hx) ((kE y oO).trans hy) hs.h h0 h1
def uO(N:Nat){t t' e:TypeId}{kd kd':IntKind}{x y:Operand}{m k bytes mr:Nat}{j:Int}(hlt:Nat.ble (d+1) c.nt=true)(hx:St.ev ⟨fr,bx,tk⟩ x= .nils)(hy:St.ev ⟨fr,bx,tk⟩ y= .iv (.im (.int kd' j)))(hj:j=(m:Int))[hr:RowTy P t e k bytes][hd2:IntTy P t' kd](hpos:0<m)(hm:m≤maxLen)(hby:m*bytes≤140737488355328)(hf:St.fresh N ⟨fr,bx,tk⟩=true)(hmr:m*k=mr)
 (h:LW P c ⟨(d,.bsh N 0 m k)::fr,(N,⟨e,.r [] mr⟩)::bx,tk⟩ ops Q rest):LW P c ⟨fr,bx,tk⟩ ops Q (⟨some d,.call {callee:= .builtin .append,args:= #[x,y],argTypes:= #[t,t']},ty,pos,aft,none⟩::rest):=by
 obtain⟨ht,hk0,i0,z,hi0,hik,hib,hiz,hzk,hz1⟩:=gT hr.h;subst hmr;subst hj;exact L.make (st:=⟨fr,bx,tk⟩) U U hlt (.growNZ U ht hi0 hik hib hiz hzk hz1 hd2.h hk0 hx hy hpos hm hby hf) h
def eY(N:Nat){t t' e e':TypeId}{x y:Operand}{k k2 bytes n id mm nr:Nat}{es news er:List (List IV)}(hlt:Nat.ble (d+1) c.nt=true)(hx:St.ev ⟨fr,bx,tk⟩ x= .bsh id 0 n k)(hy:(St.ev ⟨fr,bx,tk⟩ y).sl?=some news)[hr:RowTy P t e k bytes][hs2:SliceTy P t' e' k2](hb:bx.lookup id=some ⟨e,.r es.flatten mm⟩)(hbn:es.flatten≠ [] ∨0<mm)(hk: ∀e∈es,e.length=k)(hk2: ∀e∈news,e.length=k)(hi:n≤es.length)(hne:news≠ [])(hm:n+news.length≤maxLen)(hby:(n+news.length)*bytes≤140737488355328)(hf:St.fresh N ⟨fr,bx,tk⟩=true)(her:es.take n++news=er)(hnr:n+news.length=nr)
 (h:LW P c ⟨(d,.bsh N 0 nr k)::fr,(N,⟨e,.r er.flatten 0⟩)::(id,⟨e,.l []⟩)::bx,tk⟩ ops Q rest):LW P c ⟨fr,bx,tk⟩ ops Q (⟨some d,.call {callee:= .builtin .append,args:= #[x,y],argTypes:= #[t,t']},ty,pos,aft,none⟩::rest):=by
 obtain⟨ht,hk0,i0,z,hi0,hik,hib,hiz,hzk,hz1⟩:=gT hr.h;subst her;subst hnr;exact L.appendH (st:=⟨fr,bx,tk⟩) N U U hlt U ht hi0 hik hib hiz hzk hz1 (aH hs2.h).1 (.inl ⟨_,rfl⟩) hk0 hx hb hbn hk hi hk2 (.slice hy hk2 hk0) hne hm hby hf h
def EG(N:Nat){f:FuncId}{args:Array Operand}{ats:Array TypeId}{NJ:List AV}{q a k n n':Nat}{t1 t2:TypeId}{xs ys:List IV}{res:AV}(hlt:Nat.ble (d+1) c.nt=true)[hok:CallTy P f]
 (hc:CallA P f (.ptr 1000 0::NJ) [(1000,⟨t1,.l [.bsh 1001 0 n k]⟩),(1001,⟨t2,.r xs 0⟩)] [(1000,⟨t1,.l [.bsh 1002 0 n' k]⟩),(1002,⟨t2,.r ys 0⟩),(1001,⟨t2,.l []⟩)] [] res)
 (ha:AV.pub.pubs (args.toList.map (St.ev ⟨fr,bx,tk⟩))= .ptr q 0::NJ) (hb:bx.lookup q=some ⟨t1,.l [.bsh a 0 n k]⟩) (hb2:bx.lookup a=some ⟨t2,.r xs 0⟩) (hxs:xs≠ []) (hqa:(q==a)=false) (hm:AV.mentsIn [] NJ=true) (hr:AV.mentIn [] res=true) (hf:St.fresh N ⟨fr,bx,tk⟩=true)
 (h:LW P c ⟨(d,res)::fr,(q,⟨t1,.l [.bsh N 0 n' k]⟩)::(N,⟨t2,.r ys 0⟩)::(a,⟨t2,.l []⟩)::bx,tk⟩ ops Q rest):LW P c ⟨fr,bx,tk⟩ ops Q (⟨some d,.call {callee:= .value (.func f),args:=args,argTypes:=ats},ty,pos,aft,none⟩::rest):=
 L.callJ (st:=⟨fr,bx,tk⟩) N U U hlt U hok.h hc ha hb hb2 hxs hqa hm hr hf h
def FH(hlt:Nat.ble (d+1) c.nt=true)[hok:CallTy P f](hc:CallA P f NJ [] [(1000,⟨bt,.r xs m⟩)] [] (.bsh 1000 0 n k))(ha:args.toList.map (St.ev ⟨fr,bx,tk⟩)=NJ)(hm:AV.mentsIn [] NJ=true)(hf:St.fresh d ⟨fr,bx,tk⟩=true)
 (h:LW P c ⟨(d,.bsh d 0 n k)::fr,(d,⟨bt,.r xs m⟩)::bx,tk⟩ ops Q rest):LW P c ⟨fr,bx,tk⟩ ops Q (⟨some d,.call {callee:= .value (.func f),args:=args,argTypes:=ats},ty,pos,aft,none⟩::rest):=
 L.call01N (st:=⟨fr,bx,tk⟩) U U hlt U hok.h hc ha hm hf h
def dA(hlt:Nat.ble (d+1) c.nt=true)[hs:SliceTy P t e k][hz:ZeroTy P e zs](h1:zs.all (·.oneCell')=true)(hzl:zs.length=k)(hnk:Nat.ble 1 k=true)(hfr:St.fresh d ⟨fr,bx,tk⟩=true)
 (h:LW P c ⟨(d,.bsl d 0 0 0)::fr,(d,⟨e,.l []⟩)::bx,tk⟩ ops Q rest):LW P c ⟨fr,bx,tk⟩ ops Q (⟨some d,.buildSlice t 0 #[],ty,pos,aft,none⟩::rest):=
 L.make (st:=⟨fr,bx,tk⟩) U U hlt (.buildBox (cs:= []) U hs.h hz.h h1 hzl sP (bT hnk) (by simp[lS]) sP U hfr) h
def og{parts:Array (Nat×Operand)}{cs:List AV}(hlt:Nat.ble (d+1) c.nt=true)[hs:SliceTy P t e k][hz:ZeroTy P e zs](h1:zs.all (·.oneCell')=true)(hzl:zs.length=k)(hn:Nat.ble (n*k) 16777216=true)(hnk:Nat.ble 1 k=true)(hf:lS (fun i=>some (i*k,k)) ((List.range (n*k)).map fun i=>cz (zs.getD (i % k) undef)) (parts.toList.map fun x=>(x.1,St.ev ⟨fr,bx,tk⟩ x.2))=some cs)(hcs:cs=es.flatten.map AV.iv)(hcl:es.flatten.length=n*k)(hfr:St.fresh d ⟨fr,bx,tk⟩=true)
 (h:LW P c ⟨(d,.bsl d 0 n n)::fr,(d,⟨e,.r es.flatten 0⟩)::bx,tk⟩ ops Q rest):LW P c ⟨fr,bx,tk⟩ ops Q (⟨some d,.buildSlice t n parts,ty,pos,aft,none⟩::rest):=
 L.make (st:=⟨fr,bx,tk⟩) U U hlt (.buildR U hs.h hz.h h1 hzl (bT hn) (bT hnk) hf hcs hcl hfr) h
def dS{e:List IV}{v:AV}{agg:Bool}(hx:St.ev ⟨fr,bx,tk⟩ x= .ptr id off)(hy:St.ev ⟨fr,bx,tk⟩ y=v)[ht:VarTy P t agg k](hb:bx.lookup id=some ⟨bt,.r es.flatten mm⟩)
 (hv:v.lays=true) (hc:v.cells=e.map AV.iv) (he:e.length=k) (hk: ∀e∈es,e.length=k) (ho:off=i*k) (hi:i<es.length) (her:es.set i e=er)
 (h:LW P c ⟨fr,(id,⟨bt,.r er.flatten mm⟩)::bx,tk⟩ ops Q rest):LW P c ⟨fr,bx,tk⟩ ops Q (⟨none,.store t x y,ty,pos,aft,none⟩::rest):=by
 subst her;exact L.does (st:=⟨fr,bx,tk⟩) U U (.storeR U ht.h hx hb hy hv hc he hk ho hi) h
def gf{j:Nat}(hx:St.ev ⟨fr,bx,tk⟩ x= .bsl id off n cap)[hr:RowTy P t e k bytes](hb:bx.lookup id=some ⟨bt,.r es.flatten mm⟩)(hk: ∀e∈es,e.length=k)(hoff:off=j*k)(hj:j≤es.length)(hn0:0<n)(hle:(j+n)*k≤es.length*k+mm)(her:es.take j=er)(hmr:es.length*k+mm - j*k=mr)
 (h:LW P c ⟨fr,(id,⟨bt,.r er.flatten mr⟩)::bx,tk⟩ ops Q rest):LW P c ⟨fr,bx,tk⟩ ops Q (⟨none,.call {callee:= .builtin .clear,args:= #[x],argTypes:= #[t]},ty,pos,aft,none⟩::rest):=by
 obtain⟨ht,hk0,i0,z,hi0,hik,hib,hiz,hzk,hz1⟩:=gT hr.h;subst her;subst hmr;exact L.clearR (st:=⟨fr,bx,tk⟩) U U U ht hi0 hiz hzk hz1 hk0 hx hb hk hoff hj hn0 hle h
def jw(hlt:Nat.ble (d+1) c.nt=true)[hok:CallTy P f](hc:CallA P f NJ [] [(1000,⟨bt,.r xs 0⟩)] [] (.bsh 1000 0 n k))(ha:AV.pub.pubs (args.toList.map (St.ev ⟨fr,bx,tk⟩))=NJ)(hm:AV.mentsIn [] NJ=true)(hf:St.fresh d ⟨fr,bx,tk⟩=true)
 (h:LW P c ⟨(d,.bsh d 0 n k)::fr,(d,⟨bt,.r xs 0⟩)::bx,tk⟩ ops Q rest):LW P c ⟨fr,bx,tk⟩ ops Q (⟨some d,.call {callee:= .value (.func f),args:=args,argTypes:=ats},ty,pos,aft,none⟩::rest):=
 L.call01 (st:=⟨fr,bx,tk⟩) U U hlt U hok.h hc ha hm hf h
def mz{xs':List IV}(hlt:Nat.ble (d+1) c.nt=true)[hok:CallTy P f](hc:CallA P f NJ [] [(1000,⟨bt,.r xs 0⟩),(1001,⟨bt',.r xs' 0⟩)] [] (.agg [.bsh 1000 0 n k,.bsh 1001 0 n' k']))(ha:AV.pub.pubs (args.toList.map (St.ev ⟨fr,bx,tk⟩))=NJ)(hm:AV.mentsIn [] NJ=true)(hf:St.fresh d ⟨fr,bx,tk⟩=true)(hf2:St.fresh (d+2000) ⟨fr,bx,tk⟩=true)
 (h:LW P c ⟨(d,.agg [.bsh d 0 n k,.bsh (d+2000) 0 n' k'])::fr,(d,⟨bt,.r xs 0⟩)::(d+2000,⟨bt',.r xs' 0⟩)::bx,tk⟩ ops Q rest):LW P c ⟨fr,bx,tk⟩ ops Q (⟨some d,.call {callee:= .value (.func f),args:=args,argTypes:=ats},ty,pos,aft,none⟩::rest):=
 L.call02 (st:=⟨fr,bx,tk⟩) U U hlt U hok.h hc ha hm hf hf2 h
def uQ(hlt:Nat.ble (d+1) c.nt=true)[hok:CallTy P f](hc:CallA P f (.bsh 1000 0 n k::NJ) [(1000,⟨bt,.r xs 0⟩)] [(1001,⟨bt,.r ys 0⟩),(1000,⟨bt,.l []⟩)] [] (.bsh 1001 0 n' k))(ha:AV.pub.pubs (args.toList.map (St.ev ⟨fr,bx,tk⟩))= .bsh a 0 n k::NJ)(hb:bx.lookup a=some ⟨bt,.r xs 0⟩)(hxs:xs≠ [])(hm:AV.mentsIn [] NJ=true)(hf:St.fresh d ⟨fr,bx,tk⟩=true)
 (h:LW P c ⟨(d,.bsh d 0 n' k)::fr,(d,⟨bt,.r ys 0⟩)::(a,⟨bt,.l []⟩)::bx,tk⟩ ops Q rest):LW P c ⟨fr,bx,tk⟩ ops Q (⟨some d,.call {callee:= .value (.func f),args:=args,argTypes:=ats},ty,pos,aft,none⟩::rest):=
 L.call11 (st:=⟨fr,bx,tk⟩) U U hlt U hok.h hc ha hb hxs hm hf h
def AN{res:IV}(hlt:Nat.ble (d+1) c.nt=true)[hok:CallTy P f](hc:CallA P f (.bsh 1000 0 n k::NJ) [(1000,⟨bt,.r xs 0⟩)] [(1000,⟨bt,.l []⟩)] [] (.iv res))(ha:AV.pub.pubs (args.toList.map (St.ev ⟨fr,bx,tk⟩))= .bsh a 0 n k::NJ)(hb:bx.lookup a=some ⟨bt,.r xs 0⟩)(hxs:xs≠ [])(hm:AV.mentsIn [] NJ=true)
 (h:LW P c ⟨(d,.iv res)::fr,(a,⟨bt,.l []⟩)::bx,tk⟩ ops Q rest):LW P c ⟨fr,bx,tk⟩ ops Q (⟨some d,.call {callee:= .value (.func f),args:=args,argTypes:=ats},ty,pos,aft,none⟩::rest):=
 L.call10 (st:=⟨fr,bx,tk⟩) U U hlt U hok.h hc ha hb hxs hm h
def oe{i:AV}{v:Nat}{vs:List IV}(hlt:Nat.ble (d+1) c.nt=true)[hok:CallTy P f](hc:CallA P f [.bsh 1000 0 n k,i,.bsl 1001 0 m m] [(1000,⟨bt,.r xs 0⟩),(1001,⟨bt',.r vs 0⟩)] [(1002,⟨bt,.r ys 0⟩),(1000,⟨bt,.l []⟩),(1001,⟨bt',.l []⟩)] [] (.bsh 1002 0 n' k))(ha:AV.pub.pubs (args.toList.map (St.ev ⟨fr,bx,tk⟩))= [.bsh a 0 n k,i,.bsl v 0 m m])
 (hb:bx.lookup a=some ⟨bt,.r xs 0⟩) (hb2:bx.lookup v=some ⟨bt',.r vs 0⟩) (hxs:xs≠ []) (hvs:vs≠ []) (hav:(a==v)=false) (hm:AV.mentIn [] i=true) (hf:St.fresh d ⟨fr,bx,tk⟩=true)
 (h:LW P c ⟨(d,.bsh d 0 n' k)::fr,(d,⟨bt,.r ys 0⟩)::(a,⟨bt,.l []⟩)::(v,⟨bt',.l []⟩)::bx,tk⟩ ops Q rest):LW P c ⟨fr,bx,tk⟩ ops Q (⟨some d,.call {callee:= .value (.func f),args:=args,argTypes:=ats},ty,pos,aft,none⟩::rest):=
 L.call21 (st:=⟨fr,bx,tk⟩) U U hlt U hok.h hc ha hb hb2 hxs hvs hav hm hf h
def jW(hlt:Nat.ble (d+1) c.nt=true)(hx:(St.ev ⟨fr,bx,tk⟩ x).sl?=some [])(hy:St.ev ⟨fr,bx,tk⟩ y= .nils)[hs:SliceTy P t e k]
 (h: ∀b,LW P c ⟨(d,aB b)::fr,bx,tk⟩ ops Q rest):LW P c ⟨fr,bx,tk⟩ ops Q (⟨some d,.binOp .eql t x y t',ty,pos,aft,none⟩::rest):=
 Gv (st:=⟨fr,bx,tk⟩) U U hlt U hx hy hs.h h
end
end
attribute [irreducible] LW VV
structure Eff where
 val:Option (Nat×AV)
 nb:List (Nat×Box)
 nt:List (Nat×Tok)
 dt:List Nat
 tb:List Nat
 tt:List Nat
 fs:List Nat
def DO:List Nat→List (Nat×Tok)→List (Nat×Tok)
 | [],tk=>tk
 |id::l,tk=>DO l (delTok id tk)
def Eff.on(e:Eff)(st:St):St:=⟨e.val.toList++st.fr,e.nb++st.bx,e.nt++DO e.dt st.tk⟩
def Eff.writes(e:Eff):List Nat:=e.val.toList.map (fun p=>3*p.1)++(e.nb.map (fun p=>3*p.1+1)++(e.nt.map (fun p=>3*p.1+2)++e.dt.map (fun n=>3*n+2)))
def lF(o:Oper)(ops:Array Oper):List Nat:=
 (o.op.operands.toList.filterMap fun| .tmp t=>some (3*t)|_=>none)++(match o.guard with|some (j,_)=>((ops[j]?).bind (·.dst)).toList.map (3* ·)|none=> [])
def Eff.reads(e:Eff):List Nat:=e.tb.map (3* · +1)++e.tt.map (3* · +2)
def St.look(st:St)(κ:Nat):Option (AV ⊕ Box ⊕ Tok):=
 if κ % 3=0 then(st.fr.lookup (κ / 3)).map .inl else if κ % 3=1 then(st.bx.lookup (κ / 3)).map (.inr∘ .inl) else(st.tk.lookup (κ / 3)).map (.inr∘ .inr)
def jC(st:St)(s:Nat):st.look (3*s)=(st.fr.lookup s).map .inl:=by
 simp[St.look,Nat.mul_div_cancel_left]
def jB(st:St)(s:Nat):st.look (3*s+1)=(st.bx.lookup s).map (.inr∘ .inl):=by
 have h1:(3*s+1) % 3=1:=C;have h2:(3*s+1) / 3=s:=C;simp[St.look,h1,h2]
def jA(st:St)(s:Nat):st.look (3*s+2)=(st.tk.lookup s).map (.inr∘ .inr):=by
 have h1:(3*s+2) % 3=2:=C;have h2:(3*s+2) / 3=s:=C;simp[St.look,h1,h2]
section
variable {P:Program}{Q:Exit→Act→World→Prop}{S:Nat→Prop}{a:Act}{c:Ctx}{f:Nat→Bool}{i n κ:Nat}{l:List Oper}{o:Oper}{ops:Array Oper}{st st':St}{w:World}{β:Type}
def iw: ∀{l:List (Nat×β)} {s:Nat},s∉l.map (·.1)→l.lookup s=none
 | [],s,h=>rfl
 |(t,u)::l,s,h=>by
  simp only[List.map_cons,List.mem_cons,not_or] at h;rw[aa h.1];exact iw h.2
def iu: ∀{l:List (Nat×β)} {s:Nat},s∈l.map (·.1)→ ∃v,l.lookup s=some v
 | [],s,h=>by simp at h
 |(t,u)::l,s,h=>by
  by_cases e:s=t
  · exact⟨u,by rw[e];exact aj⟩
  · rw[aa e];exact iu (by simp only[List.map_cons,List.mem_cons] at h;exact h.resolve_left e)
def tF(id:Nat): ∀(tk:List (Nat×Tok)) (s:Nat),(delTok id tk).lookup s=if s=id then none else tk.lookup s
 | [],s=>by simp[delTok]
 |(t,u)::tk,s=>by
  have ih:=tF id tk s;unfold delTok at ih⊢;by_cases e:t=id
  · subst e;simp only[List.filter_cons,bne_self_eq_false,Bool.false_eq_true,if_false];rw[ih];by_cases h:s=t
    · simp[h]
    · rw[aa h]
  · have hb:(t !=id)=true:=by simpa[bne] using e
    simp only[List.filter_cons,hb,if_true];by_cases h:s=t
    · subst h;rw[aj,aj,if_neg e]
    · rw[aa h,aa h,ih]
def sM: ∀(l:List Nat) (tk:List (Nat×Tok)) (s:Nat),(DO l tk).lookup s=if l.contains s then none else tk.lookup s
 | [],tk,s=>by simp[DO]
 |id::l,tk,s=>by
  rw[DO,sM l,tF];by_cases h:s=id
  · subst h;simp
  · simp[h]
def BZ: ∀(l:List Nat) (tk:List (Nat×Tok)) {p:Nat×Tok},p∈DO l tk→p∈tk
 | [],tk,p,h=>h
 |id::l,tk,p,h=>by
  have:=BZ l _ h;unfold delTok at this;exact(List.mem_filter.1 this).1
def fH{e:Eff}(h:κ∉e.writes):(e.on st).look κ=st.look κ:=by
 simp only[Eff.writes,List.mem_append,List.mem_map,not_or,not_exists,not_and] at h;obtain⟨h0,h1,h2,h3⟩:=h;rcases(by omega:κ=3*(κ / 3)∨κ=3*(κ / 3)+1∨κ=3*(κ / 3)+2) with hk|hk|hk
 · rw[hk,jC,jC];simp only[Eff.on,List.lookup_append];rw[iw (l:=e.val.toList) (fun hm=>by
    simp only[List.mem_map] at hm;obtain⟨p,hp,he⟩:=hm;exact h0 p hp C)]
   simp
 · rw[hk,jB,jB];simp only[Eff.on,List.lookup_append];rw[iw (l:=e.nb) (fun hm=>by
    simp only[List.mem_map] at hm;obtain⟨p,hp,he⟩:=hm;exact h1 p hp C)]
   simp
 · rw[hk,jA,jA];simp only[Eff.on,List.lookup_append];rw[iw (l:=e.nt) (fun hm=>by
    simp only[List.mem_map] at hm;obtain⟨p,hp,he⟩:=hm;exact h2 p hp C),sM,if_neg (fun hm=>h3 (κ / 3) (by simpa using hm) C)]
   simp
def pb{e:Eff}(h:κ∈e.writes∨st'.look κ=st.look κ):(e.on st').look κ=(e.on st).look κ:=by
 by_cases hw:κ∈e.writes
 · clear h;simp only[Eff.writes,List.mem_append,List.mem_map] at hw;rcases(by omega:κ=3*(κ / 3)∨κ=3*(κ / 3)+1∨κ=3*(κ / 3)+2) with hk|hk|hk
   · rw[hk,jC,jC];simp only[Eff.on,List.lookup_append];have:κ / 3∈e.val.toList.map (·.1):=by
      rcases hw with⟨p,hp,he⟩|⟨p,hp,he⟩|⟨p,hp,he⟩|⟨p,hp,he⟩
      · exact List.mem_map.2 ⟨p,hp,by omega⟩
      all_goals omega
     obtain⟨v,hv⟩:=iu this;rw[hv];simp
   · rw[hk,jB,jB];simp only[Eff.on,List.lookup_append];have:κ / 3∈e.nb.map (·.1):=by
      rcases hw with⟨p,hp,he⟩|⟨p,hp,he⟩|⟨p,hp,he⟩|⟨p,hp,he⟩
      · omega
      · exact List.mem_map.2 ⟨p,hp,by omega⟩
      all_goals omega
     obtain⟨v,hv⟩:=iu this;rw[hv];simp
   · rw[hk,jA,jA];simp only[Eff.on,List.lookup_append,sM];by_cases hn:κ / 3∈e.nt.map (·.1)
     · obtain⟨v,hv⟩:=iu hn;rw[hv];simp
     · have:e.dt.contains (κ / 3)=true:=by
        rcases hw with⟨p,hp,he⟩|⟨p,hp,he⟩|⟨p,hp,he⟩|⟨p,hp,he⟩
        · omega
        · omega
        · exact(hn (List.mem_map.2 ⟨p,hp,by omega⟩)).elim
        · have:p=κ / 3:=C;subst this;simpa using hp
       rw[this];simp
 · rw[fH hw,fH hw];exact h.resolve_left hw
def R.look(h:R c st a w)(he: ∀κ,st'.look κ=st.look κ):R c st' a w:=by
 have h0: ∀s,st'.fr.lookup s=st.fr.lookup s:=fun s=>by
  have:=he (3*s);rw[jC,jC] at this;exact Option.map_injective (fun _ _ h=>by injection h) this
 have h1: ∀s,st'.bx.lookup s=st.bx.lookup s:=fun s=>by
  have:=he (3*s+1);rw[jB,jB] at this;exact Option.map_injective (fun _ _ h=>by simpa using h) this
 have h2: ∀s,st'.tk.lookup s=st.tk.lookup s:=fun s=>by
  have:=he (3*s+2);rw[jA,jA] at this;exact Option.map_injective (fun _ _ h=>by simpa using h) this
 have hh:=h;obtain⟨E,hi⟩:=hh;refine h.wk ⟨fun id hid=>by rw[h1];exact(hi.heap.ins id hid).2.2,fun s v hv=>⟨v,by rw[←h0];exact hv,Sub.refl _⟩,fun id b hb=>⟨b,by rw[←h1];exact hb,rfl,Subs.refl _⟩,fun id t ht=>by rw[←h2];exact ht⟩
def xU:(Nat→Bool)→List Eff→St→St
 |_,[],st=>st
 |f,e::r,st=>xU (fun j=>f (j+1)) r (if f 0 then e.on st else st)
def mO: ∀(es:List Eff) (f g:Nat→Bool) (st st':St),(∀(i:Nat) (e:Eff),es[i]?=some e→f i=g i∨κ∉e.writes)→st.look κ=st'.look κ→(xU f es st).look κ=(xU g es st').look κ
 | [],_,_,_,_,_,h=>h
 |e::r,f,g,st,st',h,hs=>by
  simp only[xU];refine mO r _ _ _ _ (fun i e' he=>h (i+1) e' (by simpa using he)) ?_;rcases h 0 e rfl with hb|hw
  · rw[hb];cases g 0
    · exact hs
    · exact pb (.inr hs)
  · have h1:(if f 0=true then e.on st else st).look κ=st.look κ:=by cases f 0;rfl;exact fH hw
    have h2:(if g 0=true then e.on st' else st').look κ=st'.look κ:=by cases g 0;rfl;exact fH hw
    rw[h1,h2,hs]
def Bh: ∀(es:List Eff) (f:Nat→Bool) (st X:St) (i:Nat) (e:Eff),es[i]?=some e→f i=true→κ∈e.writes→(∀(j:Nat) (e':Eff),i<j→es[j]?=some e'→f j=true→κ∉e'.writes)→(xU f es st).look κ=(e.on X).look κ
 | [],_,_,_,_,_,h,_,_,_=>by simp at h
 |e0::r,f,st,X,0,e,h,hf,hw,hl=>by
  simp only[List.getElem?_cons_zero,Option.some.injEq] at h;subst h;simp only[xU,hf,if_true];have:=mO (κ:=κ) r (fun j=>f (j+1)) (fun _=>false) (e0.on st) (e0.on X) (fun j e' he=>by
   cases hb:f (j+1)
   · exact .inl U
   · exact .inr (hl (j+1) e' C (by simpa using he) hb)) (pb (.inl hw))
  rw[this];exact onF_none r _
 |e0::r,f,st,X,i+1,e,h,hf,hw,hl=>by
  simp only[xU];exact Bh r _ _ X i e (by simpa using h) hf hw (fun j e' hj he hb=>hl (j+1) e' C (by simpa using he) hb)
 where onF_none {κ:Nat}: ∀(es:List Eff) (st:St),(xU (fun _=>false) es st).look κ=st.look κ
  | [],_=>rfl
  |e::r,st=>by simp only[xU];exact onF_none r st
def sj: ∀(es:List Eff) (st:St),xU (fun _=>false) es st=st
 | [],_=>rfl
 |e::r,st=>by simp only[xU];exact sj r st
def Eff.ment(n:Nat)(e:Eff):Bool:=e.val.toList.any (fun p=>AV.ment n p.2)||(e.nb.any (fun p=>p.1==n||p.2.ment n)||e.nt.any (fun p=>p.1==n))
def Iz{e:Eff}(h:st.fresh n=true)(he:e.ment n=false):(e.on st).fresh n=true:=by
 simp only[St.fresh,aE,List.all_eq_true] at h⊢;simp only[Eff.ment,Bool.or_eq_false_iff,List.any_eq_false] at he;obtain⟨⟨h1,h2⟩,h3⟩:=h;obtain⟨e1,e2,e3⟩:=he;refine⟨⟨fun p hp=> ?_,fun p hp=> ?_⟩,fun p hp=> ?_⟩
 · simp only[Eff.on,List.mem_append] at hp;rcases hp with hp|hp
   · simpa using e1 p hp
   · exact h1 p hp
 · simp only[Eff.on,List.mem_append] at hp;rcases hp with hp|hp
   · have:=e2 p hp;simp only[Bool.or_eq_true,not_or,Bool.not_eq_true] at this;simp[bne,this.1,this.2]
   · exact h2 p hp
 · simp only[Eff.on,List.mem_append] at hp;rcases hp with hp|hp
   · have:=e3 p hp;simp only[Bool.not_eq_true] at this;simp[bne,this]
   · exact h3 p (BZ _ _ hp)
def yp: ∀(es:List Eff) (f:Nat→Bool) (st:St),st.fresh n=true→(∀(i:Nat) (e:Eff),es[i]?=some e→f i=true→e.ment n=false)→(xU f es st).fresh n=true
 | [],_,_,h,_=>h
 |e::r,f,st,h,he=>by
  simp only[xU];refine yp r _ _ ?_ (fun i e' h1 h2=>he (i+1) e' (by simpa using h1) h2);cases hf:f 0
  · simpa using h
  · simpa using Iz h (he 0 e U hf)
def pP(ops:Array Oper):List (List Nat):=ops.toList.map fun o=>(o.after.toList.filter (Region.binds .any)).map (·.on)
def om:List (List Nat)→List Nat→List Nat
 | [],acc=>acc
 |d::r,acc=>om r (acc++ [d.foldl (fun m j=>m|||(acc.getD j 0|||1<<<j)) 0])
def wA(g:Nat→Nat)(hg: ∀j,S j→ ∀x,(g j).testBit x=true→S x): ∀(d:List Nat) (m:Nat),(∀j∈d,S j)→(∀x,m.testBit x=true→S x)→ ∀x,(d.foldl (fun m j=>m|||(g j|||1<<<j)) m).testBit x=true→S x
 | [],m,_,hm,x,h=>hm x h
 |j::d,m,hd,hm,x,h=>by
  refine wA g hg d _ (fun k hk=>hd k (List.mem_cons_of_mem _ hk)) (fun y hy=> ?_) x h;simp only[Nat.testBit_or,Bool.or_eq_true] at hy;rcases hy with hy|hy|hy
  · exact hm y hy
  · exact hg j (hd j List.mem_cons_self) y hy
  · have:y=j:=by
     rw[Nat.one_shiftLeft,Nat.testBit_two_pow] at hy;simpa[eq_comm] using hy
    subst this;exact hd y List.mem_cons_self
def rc{ds:List (List Nat)}: ∀(r:List (List Nat)) (pre:List (List Nat)) (acc:List Nat),ds=pre++r→acc.length=pre.length→
 (∀(i:Nat) (d:List Nat),ds[i]?=some d→S i→ ∀j∈d,S j)→
 (∀i,(∀(d:List Nat),ds[i]?=some d→ ∀j∈d,S j)→ ∀x,(acc.getD i 0).testBit x=true→S x)→
 ∀i,(∀(d:List Nat),ds[i]?=some d→ ∀j∈d,S j)→ ∀x,((om r acc).getD i 0).testBit x=true→S x
 | [],pre,acc,_,_,_,h=>h
 |d::r,pre,acc,hds,hl,hS,h=>by
  refine rc r (pre++ [d]) _ (by simp[hds]) (by simp[hl]) hS (fun i hi x hx=> ?_);rcases Nat.lt_trichotomy i acc.length with hlt|heq|hgt
  · refine h i hi x ?_;simpa[List.getD_eq_getElem?_getD,List.getElem?_append,hlt] using hx
  · have hdi:ds[i]?=some d:=by rw[hds,heq,hl];simp
    have hd:=hi d hdi;have hx':((d.foldl (fun m j=>m|||(acc.getD j 0|||1<<<j)) 0)).testBit x=true:=by
     rw[heq] at hx;simpa[List.getD_eq_getElem?_getD,List.getElem?_append] using hx
    exact wA (fun j=>acc.getD j 0) (fun j hj y hy=>h j (fun d' hd'=>hS j d' hd' hj) y hy) d 0 hd (fun y hy=>by simp at hy) x hx'
  · exfalso;have: ¬i<acc.length:=C;have h2:i - acc.length≠0:=C;obtain⟨k,hk⟩: ∃k,i - acc.length=k+1:=⟨i - acc.length - 1,by omega⟩
    simp[List.getD_eq_getElem?_getD,List.getElem?_append,this,hk] at hx
def oR(l m:List Nat):Bool:=l.any fun x=>m.contains x
def sU{l m:List Nat}(h:oR l m=false){x:Nat}(hl:x∈l)(hm:x∈m):False:=by
 simp only[oR,List.any_eq_false] at h;exact h x hl (by simpa using hm)
structure Row where
 ws:List Nat
 ls:List Nat
 ms:Nat
 e:Eff
def zg(ops:Array Oper)(es:List Eff):List Row:=
 (((ops.toList.zip es).zip (om (pP ops) [])).map fun p=>⟨p.1.2.writes,lF p.1.1 ops++(p.1.2.reads++p.1.2.writes),p.2,p.1.2⟩)
def De(j:Nat)(x y:Row):Bool:=
 (y.ms.testBit j||(!(oR x.ws y.ls) && !(oR y.ws x.ls) && x.e.fs.all (fun n=> !(y.e.ment n)))) && y.e.fs.all (fun n=> !(x.e.ment n))
def EQ:List Row→List (Nat×Row)→Bool
 | [],_=>true
 |y::r,acc=>acc.all (fun p=>De p.1 p.2 y) && EQ r ((acc.length,y)::acc)
def Ab:Nat→List (List Nat)→Bool
 |_,[] =>true
 |i,d::r=>d.all (fun j=>Nat.blt j i) && Ab (i+1) r
def Bf(ops:Array Oper)(es:List Eff)(st0:St):Bool:=
 Ab 0 (pP ops) && (EQ (zg ops es) [] && es.all (fun e=>e.fs.all (fun n=>st0.fresh n)))
def xS: ∀(r pre:List Row) (acc:List (Nat×Row)),acc.length=pre.length→(∀(j:Nat) (x:Row),pre[j]?=some x→(j,x)∈acc)→EQ r acc=true→
 ∀(i j:Nat) (x y:Row),j<i→pre.length≤i→(pre++r)[j]?=some x→(pre++r)[i]?=some y→De j x y=true
 | [],pre,acc,_,_,_,i,j,x,y,_,hi,_,hy=>by
   rw[List.append_nil] at hy;have:=(gS hy).1;omega
 |z::r,pre,acc,hl,hacc,h,i,j,x,y,hji,hi,hx,hy=>by
  simp only[EQ,aE,List.all_eq_true] at h;by_cases he:i=pre.length
  · subst he;have hyz:y=z:=by simpa using hy.symm
    subst hyz;have hx':pre[j]?=some x:=by rw[gL hji] at hx;exact hx
    exact h.1 (j,x) (hacc j x hx')
  · refine xS r (pre++ [z]) _ (by simp[hl]) (fun k u hu=> ?_) h.2 i j x y hji (by simp;omega) (by simpa using hx) (by simpa using hy);by_cases hk:k<pre.length
    · rw[gL hk] at hu;exact List.mem_cons_of_mem _ (hacc k u hu)
    · have:k=pre.length:=by
       have:=(gS hu).1;simp at this;omega
      subst this;simp at hu;subst hu;rw[hl];exact List.mem_cons_self
def rb: ∀(r:List (List Nat)) (acc:List Nat),(om r acc).length=acc.length+r.length
 | [],acc=>rfl
 |d::r,acc=>by rw[om,rb r];simp;omega
def wD: ∀(ds:List (List Nat)) (k:Nat),Ab k ds=true→ ∀(i:Nat) (d:List Nat),ds[i]?=some d→ ∀j∈d,j<k+i
 | [],k,_,i,d,h,_,_=>by simp at h
 |d0::r,k,h,i,d,hd,j,hj=>by
  simp only[Ab,aE,List.all_eq_true] at h;cases i with
  |zero=>simp at hd;subst hd;exact bT (h.1 j hj)
  |succ i=>have:=wD r (k+1) h.2 i d (by simpa using hd) j hj;omega
structure Agr (ops:Array Oper) (o:Oper) (e:Eff) (st st':St):Prop where
 ev: ∀x∈o.op.operands,st'.ev x=st.ev x
 gd: ∀(j s:Nat) (b:Bool),o.guard=some (j,b)→(ops[j]?).bind (·.dst)=some s→st'.ev (.tmp s)=st.ev (.tmp s)
 bx: ∀id∈e.tb,st'.bx.lookup id=st.bx.lookup id
 tk: ∀id∈e.tt,st'.tk.lookup id=st.tk.lookup id
 fs: ∀n∈e.fs,st'.fresh n=true
def Ff{t:Nat}(h:st'.look (3*t)=st.look (3*t)):st'.ev (.tmp t)=st.ev (.tmp t):=by
 rw[jC,jC] at h;have h':st'.fr.lookup t=st.fr.lookup t:=Option.map_injective (fun _ _ h=>by injection h) h;simp only[St.ev,h']
def Agr.of_look{e:Eff}(h: ∀κ∈lF o ops++e.reads,st'.look κ=st.look κ)(hf: ∀n∈e.fs,st'.fresh n=true):Agr ops o e st st' where
 ev x hx:=by
  cases x with
  |tmp t=>
   refine Ff (h _ (List.mem_append_left _ (List.mem_append_left _ ?_)));exact List.mem_filterMap.2 ⟨.tmp t,by simpa using hx,rfl⟩
  |const v=>rfl
  |func f=>rfl
  |global g=>rfl
 gd j s b hg hj:=by
  refine Ff (h _ (List.mem_append_left _ (List.mem_append_right _ ?_)));simp[hg,hj]
 bx id hid:=by
  have:=h (3*id+1) (List.mem_append_right _ (List.mem_append_left _ (List.mem_map.2 ⟨id,hid,rfl⟩)));rw[jB,jB] at this;exact Option.map_injective (fun _ _ h=>by simpa using h) this
 tk id hid:=by
  have:=h (3*id+2) (List.mem_append_right _ (List.mem_append_right _ (List.mem_map.2 ⟨id,hid,rfl⟩)));rw[jA,jA] at this;exact Option.map_injective (fun _ _ h=>by simpa using h) this
 fs:=hf
def LV(P:Program)(c:Ctx)(ops:Array Oper)(st:St)(o:Oper)(e:Eff):Prop:=
 ∀st',Agr ops o e st st'→ ∀Q:Exit→Act→World→Prop,L c (e.on st') (Q .normal)→L c st' (wpList P ops Q [o])
def Ey(K:Act→World→Prop)(Q:Exit→Act→World→Prop):Exit→Act→World→Prop
 | .normal=>K
 |x=>Q x
def yM{K:Act→World→Prop}(ho:ops[i]?=some o)(h:wpList P ops (Ey K Q) [o] a w):wpOp P ops Q i K a w:=by
 unfold wpList at h;unfold wpOp;simp only[ho];have hl:LetsOut (Ey K Q)=LetsOut Q:=rfl;split
 · rename_i hw;rw[if_pos hw] at h;rw[hl] at h;refine h.imp (fun h=> ?_) id;unfold Oper.wp at h⊢;have hK:wpList P ops (Ey K Q) [] =K:=rfl;rw[hK] at h;generalize (execOp a.eval o).run P w=r at h⊢;cases r with
   |ok n w'=>cases n<;>exact h
   |halt x w'=>cases x<;>exact h
 · rename_i hw;rw[if_neg hw] at h;exact h
inductive Chain (P:Program) (c:Ctx) (ops:Array Oper):St→List Oper→List Eff→Prop
 |nil {st:St}:Chain P c ops st [] []
 |cons {st:St} {o:Oper} {e:Eff} {l:List Oper} {es:List Eff} (h:LV P c ops st o e) (t:Chain P c ops (e.on st) l es):Chain P c ops st (o::l) (e::es)
def Chain.length{es:List Eff}(h:Chain P c ops st l es):es.length=l.length:=by
 induction h with
 |nil=>rfl
 |cons _ _ ih=>simp[ih]
def Chain.get{es:List Eff}(h:Chain P c ops st l es):
 ∀(i:Nat) (o:Oper) (e:Eff),l[i]?=some o→es[i]?=some e→LV P c ops (xU (fun j=>decide (j<i)) es st) o e:=by
 induction h with
 |nil=>intro i o e h;simp at h
 | @cons st o0 e0 l es h0 _ ih=>
   intro i o e ho he;cases i with
   |zero=>
    simp at ho he;subst ho;subst he;have:(fun j:Nat=>decide (j<0))=fun _=>false:=by funext j;simp
    rw[this,sj];exact h0
   |succ i=>
    have:=ih i o e (by simpa using ho) (by simpa using he);simpa[xU] using this
def left(f:Nat→Bool)(n:Nat):Nat:=(List.range n).countP fun i=> !f i
def FS(h:left f n=0): ∀i,i<n→f i=true:=fun i hi=>by
 have:=List.countP_eq_zero.1 h i (List.mem_range.2 hi);simpa using this
def Im{g:Nat→Bool}(hi:i<n)(hf:f i=false)(hg: ∀j,g j=if j=i then true else f j):left f n=left g n+1:=by
 unfold left;induction n with
 |zero=>omega
 |succ n ih=>
  simp only[List.range_succ,List.countP_append];by_cases e:i=n
  · subst e;have:(List.range i).countP (fun j=> !f j)=(List.range i).countP (fun j=> !g j):=by
     refine List.countP_congr (fun j hj=> ?_);have:j≠i:=by have:=List.mem_range.1 hj;omega
     simp[hg,this]
    rw[this];simp[hf,hg]
  · have:=ih C;have hn:n≠i:=fun h=>e h.symm
    rw[this];simp[hg,hn];omega
def BQ(h:ops[i]?=some o):(pP ops)[i]?=some ((o.after.toList.filter (Region.binds .any)).map (·.on)):=by
 simp[pP,h]
def sy{listed:Array Bool}(h:i<listed.size):listed.getD i true=listed.getD i false:=by
 simp[h]
def AR{es:List Eff}(hl:es.length=ops.size){i:Nat}{o:Oper}{e:Eff}(ho:ops[i]?=some o)(he:es[i]?=some e):
 (zg ops es)[i]?=some ⟨e.writes,lF o ops++(e.reads++e.writes),(om (pP ops) []).getD i 0,e⟩:=by
 have hi:i<ops.size:=(Array.getElem?_eq_some_iff.1 ho).1;have hm:i<(om (pP ops) []).length:=by rw[rb];simp[pP];exact hi
 have ho':ops.toList[i]?=some o:=by simpa using ho
 simp only[zg,gP];have:((ops.toList.zip es).zip (om (pP ops) []))[i]?=some ((o,e),(om (pP ops) [])[i]):=
  List.getElem?_zip_eq_some.2 ⟨List.getElem?_zip_eq_some.2 ⟨ho',he⟩,gG hm⟩
 rw[this];simp[List.getD_eq_getElem?_getD,gG hm]
def Jw{st0:St}{es:List Eff}(hch:Chain P c ops st0 ops.toList es)(hok:Bf ops es st0=true)
 (hQ:L c (xU (fun _=>true) es st0) (Q .normal)):
 ∀(fuel:Nat) (listed:Array Bool),listed.size=ops.size→left (fun i=>listed.getD i false) ops.size≤fuel→
  (∀i,listed.getD i false=true→ ∀d,(pP ops)[i]?=some d→ ∀j∈d,listed.getD j false=true)→
  ∀a w,R c (xU (fun i=>listed.getD i false) es st0) a w→wpAny P .any ops Q fuel listed a w:=by
 have hlen:es.length=ops.size:=by rw[hch.length];simp
 simp only[Bf,aE,List.all_eq_true] at hok;obtain⟨hback,hord,hfb⟩:=hok;have hback:=wD (pP ops) 0 hback;have hpair: ∀(i j:Nat) (o o':Oper) (e e':Eff),j<i→ops[j]?=some o→es[j]?=some e→ops[i]?=some o'→es[i]?=some e'→
  (((om (pP ops) []).getD i 0).testBit j=true∨(oR e.writes (lF o' ops++(e'.reads++e'.writes))=false∧oR e'.writes (lF o ops++(e.reads++e.writes))=false∧ ∀n∈e.fs,e'.ment n=false))∧ ∀n∈e'.fs,e.ment n=false:=by
  intro i j o o' e e' hji ho he ho' he';have:=xS (zg ops es) [] [] U (fun j x h=>by simp at h) hord i j _ _ hji (Nat.zero_le _) (by simpa using AR hlen ho he) (by simpa using AR hlen ho' he');simp only[De,aE,Bool.or_eq_true,Bool.not_eq_true',List.all_eq_true] at this;obtain⟨h1,h2⟩:=this;exact⟨h1.imp id (fun h=>⟨h.1.1,h.1.2,h.2⟩),h2⟩
 have hopsget: ∀i,i<ops.size→ ∃o e,ops[i]?=some o∧es[i]?=some e:=fun i hi=>⟨_,_,Array.getElem?_eq_getElem hi,gG (by rw[hlen];exact hi)⟩
 intro fuel;induction fuel with
 |zero=>
  intro listed hsz hleft hcl a w hr;have hall:=FS (Nat.le_zero.1 hleft);have hr0:Region.ready .any ops listed= []:=by
   refine List.eq_nil_iff_forall_not_mem.2 (fun i hi=> ?_);rw[mem_ready] at hi;obtain⟨h0,o,ho,_⟩:=hi;have hlt:i<ops.size:=(Array.getElem?_eq_some_iff.1 ho).1;rw[sy C] at h0;have:=hall i hlt;rw[h0] at this;cases this
  refine⟨hr0,hQ a w (hr.look (fun κ=>mO es _ _ _ _ (fun i e he=> .inl ?_) U))⟩;have hlt:i<ops.size:=by rw[←hlen];exact(gS he).1
  exact(hall i hlt).symm
 |succ fuel ih=>
  intro listed hsz hleft hcl a w hr;refine⟨fun hr0=> ?_,fun i hi=> ?_⟩
  · have hall: ∀i,i<ops.size→listed.getD i false=true:=by
     intro i;induction i using Nat.strongRecOn with
     |_ i ihi=>
      intro hlt;cases hb:listed.getD i false
      · exfalso;obtain⟨o,e,ho,he⟩:=hopsget i hlt;have:i∈Region.ready .any ops listed:=by
         rw[mem_ready];refine⟨by rw[sy C];exact hb,o,ho,fun x hx hbx=> ?_⟩;have hxd:x.on∈(o.after.toList.filter (Region.binds .any)).map (·.on):=List.mem_map.2 ⟨x,List.mem_filter.2 ⟨by simpa using hx,hbx⟩,rfl⟩;have hlt':=hback i _ (BQ ho) _ hxd;exact ihi x.on C C
        rw[hr0] at this;simp at this
      · rfl
    refine hQ a w (hr.look (fun κ=>mO es _ _ _ _ (fun i e he=> .inl ?_) U));have hlt:i<ops.size:=by rw[←hlen];exact(gS he).1
    exact(hall i hlt).symm
  · rw[mem_ready] at hi;obtain⟨h0,o,ho,hdir⟩:=hi;have hlt:i<ops.size:=(Array.getElem?_eq_some_iff.1 ho).1;rw[sy C] at h0;obtain⟨o',e,ho',he⟩:=hopsget i hlt;obtain rfl:o'=o:=by rw[ho] at ho';cases ho';rfl
    have hdi: ∀d,(pP ops)[i]?=some d→ ∀j∈d,listed.getD j false=true:=by
     intro d hd j hj;rw[BQ ho] at hd;cases hd;obtain⟨x,hx,rfl⟩:=mM hj;obtain⟨hx1,hx2⟩:=List.mem_filter.1 hx;exact hdir x (by simpa using hx1) hx2
    have hmask: ∀k,(∀d,(pP ops)[k]?=some d→ ∀j∈d,listed.getD j false=true)→ ∀x,((om (pP ops) []).getD k 0).testBit x=true→listed.getD x false=true:=
     rc (S:=fun j=>listed.getD j false=true) (pP ops) [] [] U U (fun k d hd hk j hj=>hcl k hk d hd j hj) (fun k _ x hx=>by simp at hx)
    have hlate: ∀(j:Nat) (ej:Eff),i<j→es[j]?=some ej→listed.getD j false=true→oR ej.writes (lF o' ops++(e.reads++e.writes))=false∧ ∀n∈e.fs,ej.ment n=false:=by
     intro j ej hij hej hj;have hjl:j<ops.size:=by rw[←hlen];exact(gS hej).1
     obtain⟨oj,_,hoj,_⟩:=hopsget j hjl;rcases(hpair j i o' oj e ej hij ho he hoj hej).1 with h|h
     · have:=hmask j (fun d hd=>hcl j hj d hd) i h;rw[h0] at this;cases this
     · exact⟨h.2.1,h.2.2⟩
    have hearly: ∀(j:Nat) (ej:Eff),j<i→es[j]?=some ej→listed.getD j false=false→oR ej.writes (lF o' ops++(e.reads++e.writes))=false:=by
     intro j ej hji hej hj;have hjl:j<ops.size:=C;obtain⟨oj,_,hoj,_⟩:=hopsget j hjl;rcases(hpair i j oj o' ej e hji hoj hej ho he).1 with h|h
     · have:=hmask i hdi j h;rw[hj] at this;cases this
     · exact h.1
    have hag:Agr ops o' e (xU (fun j=>decide (j<i)) es st0) (xU (fun i=>listed.getD i false) es st0):=by
     refine Agr.of_look (fun κ hκ=> ?_) (fun n hn=> ?_)
     · have hmem:κ∈lF o' ops++(e.reads++e.writes):=by
        rcases mA hκ with h|h
        · exact List.mem_append_left _ h
        · exact List.mem_append_right _ (List.mem_append_left _ h)
       refine mO es _ _ _ _ (fun j ej hej=> ?_) U;rcases Nat.lt_trichotomy j i with hji|rfl|hij
       · cases hb:listed.getD j false
         · exact .inr (fun hw=>sU (hearly j ej hji hej hb) hw hmem)
         · exact .inl (by simp[hji])
       · exact .inl (by simp[h0])
       · cases hb:listed.getD j false
         · exact .inl (by simp;omega)
         · exact .inr (fun hw=>sU (hlate j ej hij hej hb).1 hw hmem)
     · refine yp es _ st0 (hfb e (gE he) n hn) (fun j ej hej hj=> ?_);rcases Nat.lt_trichotomy j i with hji|rfl|hij
       · have hjl:j<ops.size:=C;obtain⟨oj,_,hoj,_⟩:=hopsget j hjl;exact(hpair i j oj o' ej e hji hoj hej ho he).2 n hn
       · rw[h0] at hj;cases hj
       · exact(hlate j ej hij hej hj).2 n hn
    refine yM ho (hch.get i o' e (by simpa using ho) he _ hag (Ey _ Q) (fun a' w' hr'=> ?_) a w hr);have hset: ∀j,(listed.setIfInBounds i true).getD j false=if j=i then true else listed.getD j false:=by
     intro j;by_cases hji:j=i
     · subst hji;simp[hsz,hlt]
     · have:i≠j:=fun h=>hji h.symm
       simp only[hji,if_false];exact getD_set_ne false this
    refine ih _ (by simpa using hsz) ?_ ?_ a' w' (hr'.look (fun κ=> ?_))
    · have:=Im (f:=fun i=>listed.getD i false) (g:=fun j=>(listed.setIfInBounds i true).getD j false) (n:=ops.size) hlt h0 hset;omega
    · intro k hk d hd j hj;simp only[hset] at hk⊢;by_cases hji:j=i
      · simp[hji]
      · simp only[hji,if_false];by_cases hki:k=i
        · subst hki;exact hdi d hd j hj
        · simp only[hki,if_false] at hk;exact hcl k hk d hd j hj
    · by_cases hw:κ∈e.writes
      · refine Bh es _ st0 _ i e he (by simp only[hset];simp) hw (fun j ej hij hej hj hwj=> ?_);simp only[hset] at hj;have hne:j≠i:=C;simp only[hne,if_false] at hj;exact sU (hlate j ej hij hej hj).1 hwj (List.mem_append_right _ (List.mem_append_right _ hw))
      · rw[fH hw];refine mO es _ _ _ _ (fun j ej hej=> ?_) U;by_cases hji:j=i
        · subst hji;rw[he] at hej;cases hej;exact .inr hw
        · exact .inl (by simp only[hset,hji,if_false])
def DR(P:Program)(c:Ctx)(ops:Array Oper)(Q:Exit→Act→World→Prop)(st0:St)(done:List Eff)(st:St)(l:List Oper):Prop:=
 ∃es:List Eff,Chain P c ops st l es∧Bf ops (done.reverse++es) st0=true∧L c (xU (fun _=>true) es st) (Q .normal)
end
section
variable {P:Program}{c:Ctx}{ops:Array Oper}{Q:Exit→Act→World→Prop}{st0 st:St}{done:List Eff}{rest:List Oper}{o:Oper}
def DR.nil(hok:Bf ops done.reverse st0=true)(h:L c st (Q .normal)):DR P c ops Q st0 done st []:=⟨[],.nil,by simpa using hok,h⟩
def DR.cons{e:Eff}(hv:LV P c ops st o e)(h:DR P c ops Q st0 (e::done) (e.on st) rest):DR P c ops Q st0 done st (o::rest):=by
 obtain⟨es,hc,hok,hl⟩:=h;exact⟨e::es,.cons hv hc,by simpa using hok,hl⟩
def DR.region(hm:P.follows .mixedOrders=true){id:Nat}{l:List Oper}(h:DR P c l.toArray Q st [] st l):L c st ((Code.region id l.toArray true).wp P Q):=by
 obtain⟨es,hc,hok,hl⟩:=h;intro a w hr;have hc':Chain P c l.toArray st l.toArray.toList es:=by simpa using hc
 have hfalse:(fun i=>(Array.replicate l.toArray.size false).getD i false)=fun _=>false:=by
  funext i
  simp only[Array.getD_eq_getD_getElem?,Array.getElem?_replicate];split<;>rfl
 refine wp_region_any hm (Jw hc' (by simpa using hok) hl _ _ sP ?_ ?_ a _ ?_)
 · rw[hfalse];exact Nat.le_trans List.countP_le_length sP
 · intro i hi;have:=congrFun hfalse i;rw[this] at hi;cases hi
 · rw[hfalse,sj];obtain⟨E,hi⟩:=hr;exact⟨E,hi.drew⟩
def DR.of_plain{dst:Option Tmp}{op:Op}{ty:TypeId}{pos:String}{aft:Array Edge}{g:Option (Nat×Bool)}(hl: ∀e,LV P c ops st ⟨dst,op,ty,pos,aft,none⟩ e→LV P c ops st ⟨dst,op,ty,pos,aft,g⟩ e)
 (h:DR P c ops Q st0 done st (⟨dst,op,ty,pos,aft,none⟩::rest)):DR P c ops Q st0 done st (⟨dst,op,ty,pos,aft,g⟩::rest):=by
 obtain⟨es,hc,hok,hL⟩:=h;cases hc with
 |cons hv t=>exact⟨_,.cons (hl _ hv) t,hok,hL⟩
end
attribute [irreducible] DR
def LW.out{P:Program}{c:Ctx}{st:St}{ops:Array Oper}{Q:Exit→Act→World→Prop}{l:List Oper}(h:LW P c st ops Q l):L c st (wpList P ops Q l):=by unfold LW at h;exact h
section
variable {P:Program}{c:Ctx}{fr:List (Nat×AV)}{bx:List (Nat×Box)}{tk:List (Nat×Tok)}{ops:Array Oper}{Q:Exit→Act→World→Prop}{rest:List Oper}
 {d:Nat} {ty:TypeId} {pos:String} {aft:Array Edge} {st0:St} {done:List Eff}
section
variable {P:Program}{Q:Exit→Act→World→Prop}{a bytes cap cap' i i' id id' j k mm mm' mr n n' off off' s:Nat}{agg b b':Bool}{args:Array Operand}{NJ cs:List AV}{ats:Array TypeId}{bt bt' e t t':TypeId}{c:Ctx}{done:List Eff}{er es es':List (List IV)}{f:FuncId}{gs:au}{l:List Oper}{o:Oper}{op:Op}{ops:Array Oper}{parts:Array (Nat×Operand)}{res v:AV}{st st0:St}{x y:Operand}{xs ys:List IV}{zs:List Value}
def LW.is(h:LW P c st ops Q l):LW P c st ops Q l:=h
def dC{e:Eff}(h:DR P c ops Q st0 (e::done) (e.on st) l)(f: ∀{Q:Exit→Act→World→Prop} (x:St),Agr ops o e st ⟨x.fr,x.bx,x.tk⟩→LW P c (e.on ⟨x.fr,x.bx,x.tk⟩) ops Q [] →LW P c ⟨x.fr,x.bx,x.tk⟩ ops Q [o]):DR P c ops Q st0 done st (o::l):=DR.cons (fun x a _ hL=>LW.out (f x a (EF hL))) h
def DR.is(h:DR P c ops Q st0 done st l):DR P c ops Q st0 done st l:=h
def bk{tb:List Nat}(hlt:Nat.ble (d+1) c.nt=true)(hv:VV P c ⟨fr,bx,tk⟩ ⟨some d,op,ty,pos,aft,none⟩ v tb)
 (h:DR P c ops Q st0 (⟨some (d,v),[],[],[],tb,[],[]⟩::done) ⟨(d,v)::fr,bx,tk⟩ rest):DR P c ops Q st0 done ⟨fr,bx,tk⟩ (⟨some d,op,ty,pos,aft,none⟩::rest):=
 DR.cons (e:=⟨some (d,v),[],[],[],tb,[],[]⟩) (fun st' hag Q' hL=>L.val (st:=st') U U hlt (hv.out st' hag.ev hag.bx) (L.nil hL)) h
def Ji{q:Nat}{b b':Box}(hlt:Nat.ble (d+1) c.nt=true)[hok:CallTy P f](hG:Glob gs c.E0 c.w0)(hc:CallG gs P f NJ [(q,b)] [(q,b')] [] res)(ha:AV.pub.pubs (args.toList.map (St.ev ⟨fr,bx,tk⟩))=NJ)(hb:bx.lookup q=some b)(hbn:b.cs.isEmpty=false)(hm':AV.mentsIn [] b'.cs=true)(hr:AV.mentIn [] res=true)
 (h:DR P c ops Q st0 (⟨some (d,res),((q,b'):: []),[],[],[q],[],[]⟩::done) ⟨(d,res)::fr,(q,b')::bx,tk⟩ rest):DR P c ops Q st0 done ⟨fr,bx,tk⟩ (⟨some d,.call {callee:= .value (.func f),args:=args,argTypes:=ats},ty,pos,aft,none⟩::rest):=
 dC h fun _ hag hL=>kJ hlt hG hc ((by rw[Jx hag.ev (fun x hx=>by simp[Op.operands,Call.operands,hx])];exact ha)) ((hag.bx q sP).trans hb) hbn hm' hr hL
def um(hlt:Nat.ble (d+1) c.nt=true)[hok:CallTy P f](hG:Glob gs c.E0 c.w0)(hc:CallG gs P f NJ [] [] [] res)(ha:AV.pub.pubs (args.toList.map (St.ev ⟨fr,bx,tk⟩))=NJ)(hmr:AV.mentIn [] res=true)
 (h:DR P c ops Q st0 (⟨some (d,res),[],[],[],[],[],[]⟩::done) ⟨(d,res)::fr,bx,tk⟩ rest):DR P c ops Q st0 done ⟨fr,bx,tk⟩ (⟨some d,.call {callee:= .value (.func f),args:=args,argTypes:=ats},ty,pos,aft,none⟩::rest):=
 dC h fun _ hag hL=>dM hlt hG hc ((by rw[Jx hag.ev (fun x hx=>by simp[Op.operands,Call.operands,hx])];exact ha)) hmr hL
def KX(hlt:Nat.ble (d+1) c.nt=true)[hz:ZeroTy P t zs](h1:zs.all (·.oneCell')=true)(hc:zs.map cz=cs)(hf:St.fresh d ⟨fr,bx,tk⟩=true)(hm:AV.ments d cs=false)
 (h:DR P c ops Q st0 (⟨some (d,.ptr d 0),((d,⟨t,cs⟩):: []),[],[],[],[],[d]⟩::done) ⟨(d,.ptr d 0)::fr,(d,⟨t,cs⟩)::bx,tk⟩ rest):DR P c ops Q st0 done ⟨fr,bx,tk⟩ (⟨some d,.alloc t,ty,pos,aft,none⟩::rest):=
 dC h fun _ hag hL=>EH hlt h1 hc (hag.fs d sP) hm hL
def Jj(hlt:Nat.ble (d+1) c.nt=true)[hs:SliceTy P t e k][hz:ZeroTy P e zs](h1:zs.all (·.oneCell')=true)(hzl:zs.length=k)(hn:Nat.ble (n*k) 16777216=true)(hnk:Nat.ble 1 k=true)(hf:lS (fun i=>some (i*k,k)) ((List.range (n*k)).map fun i=>cz (zs.getD (i % k) undef)) (parts.toList.map fun x=>(x.1,St.ev ⟨fr,bx,tk⟩ x.2))=some cs)(hx:tO cs=some xs)(hcl:cs.length=n*k)(he:cY k n xs=es)(hfr:St.fresh d ⟨fr,bx,tk⟩=true)
 (h:DR P c ops Q st0 (⟨some (d,.row d es),[],[(d,⟨e,k⟩)],[],[],[],[d]⟩::done) ⟨(d,.row d es)::fr,bx,(d,⟨e,k⟩)::tk⟩ rest):DR P c ops Q st0 done ⟨fr,bx,tk⟩ (⟨some d,.buildSlice t n parts,ty,pos,aft,none⟩::rest):=
 dC h fun _ hag hL=>mB hlt h1 hzl hn hnk ((by rw[agP hag.ev (fun x hx=>by simp only[Op.operands];exact List.mem_toArray.2 (List.mem_map.2 ⟨x,by simpa using hx,rfl⟩))];exact hf)) hx hcl he (hag.fs d sP) hL
def KW{b:Box}(hx:St.ev ⟨fr,bx,tk⟩ x= .ptr id off)(hy:St.ev ⟨fr,bx,tk⟩ y=v)[ht:VarTy P t agg k](hb:bx.lookup id=some b)(hv:v.lays=true)(hk:v.cells.length=k)(hle:Nat.ble (off+k) b.cs.length=true)(hc:mb b.cs off v.cells=cs)
 (h:DR P c ops Q st0 (⟨none,((id,⟨b.ty,cs⟩):: []),[],[],[id],[],[]⟩::done) ⟨fr,(id,⟨b.ty,cs⟩)::bx,tk⟩ rest):DR P c ops Q st0 done ⟨fr,bx,tk⟩ (⟨none,.store t x y,ty,pos,aft,none⟩::rest):=
 dC h fun _ hag hL=>EE ((hag.ev x oO).trans hx) ((hag.ev y oO).trans hy) ((hag.bx id sP).trans hb) hv hk hle hc hL
def rA{news:List (List IV)}(hlt:Nat.ble (d+1) c.nt=true)(hx:St.ev ⟨fr,bx,tk⟩ x= .row id es)(htk:tk.lookup id=some ⟨e,k⟩)(hy:(St.ev ⟨fr,bx,tk⟩ y).sl?=some news)[ha:AppTy P t e k bytes][hs:SliceTy P t' e k](hes: ∀e∈es,e.length=k)(hnk: ∀e∈news,e.length=k)(hm:es.length+news.length≤maxLen)(hby:(es.length+news.length)*bytes≤225000000000000)(hf:St.fresh d ⟨fr,bx,tk⟩=true)(he:es++news=es')
 (h:DR P c ops Q st0 (⟨some (d,.row d es'),[],[(d,⟨e,k⟩)],[id],[],[id],[d]⟩::done) ⟨(d,.row d es')::fr,bx,(d,⟨e,k⟩)::DO [id] tk⟩ rest):DR P c ops Q st0 done ⟨fr,bx,tk⟩ (⟨some d,.call {callee:= .builtin .append,args:= #[x,y],argTypes:= #[t,t']},ty,pos,aft,none⟩::rest):=
 dC h fun _ hag hL=>bC hlt ((hag.ev x oO).trans hx) ((hag.tk id sP).trans htk) ((congrArg AV.sl? (hag.ev y oO)).trans hy) hes hnk hm hby (hag.fs d sP) he hL
def ry(hlt:Nat.ble (d+1) c.nt=true)[hok:CallTy P f](hc:CallA P f NJ [] [] [] res)(ha:AV.pub.pubs (args.toList.map (St.ev ⟨fr,bx,tk⟩))=NJ)(hmr:AV.mentIn [] res=true)
 (h:DR P c ops Q st0 (⟨some (d,res),[],[],[],[],[],[]⟩::done) ⟨(d,res)::fr,bx,tk⟩ rest):DR P c ops Q st0 done ⟨fr,bx,tk⟩ (⟨some d,.call {callee:= .value (.func f),args:=args,argTypes:=ats},ty,pos,aft,none⟩::rest):=
 dC h fun _ hag hL=>gp hlt hc ((by rw[Jx hag.ev (fun x hx=>by simp[Op.operands,Call.operands,hx])];exact ha)) hmr hL
def Gl{t:Tok}(hlt:Nat.ble (d+1) c.nt=true)[hok:CallTy P f](hc:CallA P f NJ [] [] [(d,t)] (.row d es))(ha:AV.pub.pubs (args.toList.map (St.ev ⟨fr,bx,tk⟩))=NJ)(hf:St.fresh d ⟨fr,bx,tk⟩=true)
 (h:DR P c ops Q st0 (⟨some (d,.row d es),[],[(d,t)],[],[],[],[d]⟩::done) ⟨(d,.row d es)::fr,bx,(d,t)::tk⟩ rest):DR P c ops Q st0 done ⟨fr,bx,tk⟩ (⟨some d,.call {callee:= .value (.func f),args:=args,argTypes:=ats},ty,pos,aft,none⟩::rest):=
 dC h fun _ hag hL=>xC hlt hc ((by rw[Jx hag.ev (fun x hx=>by simp[Op.operands,Call.operands,hx])];exact ha)) (hag.fs d sP) hL
def jz{cnt:Nat}(hlt:Nat.ble (d+1) c.nt=true)(hx:St.ev ⟨fr,bx,tk⟩ x= .bsl id off n cap)(hy:St.ev ⟨fr,bx,tk⟩ y= .bsl id' off' n' cap')[hs:SliceTy P t e k](hb:bx.lookup id=some ⟨bt,.r es.flatten mm⟩)(hb2:bx.lookup id'=some ⟨bt',.r es'.flatten mm'⟩)(hk: ∀e∈es,e.length=k)(hk2: ∀e∈es',e.length=k)(hk0:0<k)(hoff:off=i*k)(hoff2:off'=i'*k)(hcnt:Nat.min n' n=cnt)(hpos:0<cnt)(hle:(i'+n')*k≤es'.length*k+mm')(hin:i'+cnt≤es'.length)(hi:i≤es.length)(hm:(i+cnt)*k≤es.length*k+mm)(her:es.take i++((es'.drop i').take cnt++es.drop (i+cnt))=er)(hmr:mm - (i+cnt - es.length)*k=mr)
 (h:DR P c ops Q st0 (⟨some (d,aI cnt),((id,⟨bt,.r er.flatten mr⟩):: []),[],[],[id,id'],[],[]⟩::done) ⟨(d,aI cnt)::fr,(id,⟨bt,.r er.flatten mr⟩)::bx,tk⟩ rest):DR P c ops Q st0 done ⟨fr,bx,tk⟩ (⟨some d,.call {callee:= .builtin .copy,args:= #[x,y],argTypes:= #[t,t']},ty,pos,aft,none⟩::rest):=
 dC h fun _ hag hL=>ii hlt ((hag.ev x oO).trans hx) ((hag.ev y oO).trans hy) ((hag.bx id sP).trans hb) ((hag.bx id' sP).trans hb2) hk hk2 hk0 hoff hoff2 hcnt hpos hle hin hi hm her hmr hL
def rt{e':TypeId}{k2 nr:Nat}(hlt:Nat.ble (d+1) c.nt=true)(hx:St.ev ⟨fr,bx,tk⟩ x= .bsl id 0 n cap)(hy:St.ev ⟨fr,bx,tk⟩ y= .bsl id' off' n' cap')[hr:RowTy P t e k bytes][hs2:SliceTy P t' e' k2](hb:bx.lookup id=some ⟨bt,.r es.flatten mm⟩)(hb2:bx.lookup id'=some ⟨bt',.r es'.flatten mm'⟩)(hbn:es.flatten≠ [] ∨0<mm)(hk: ∀e∈es,e.length=k)(hk2: ∀e∈es',e.length=k)(hoff2:off'=i'*k)(hin:i'+n'≤es'.length)(hc0:0<cap)(hroom:n+n'≤cap)(hi:n≤es.length)(hm:(n+n')*k≤es.length*k+mm)(her:es.take n++((es'.drop i').take n'++es.drop (n+n'))=er)(hmr:mm - (n+n' - es.length)*k=mr)(hnr:n+n'=nr)
 (h:DR P c ops Q st0 (⟨some (d,.bsl id 0 nr cap),((id,⟨bt,.r er.flatten mr⟩):: []),[],[],[id,id'],[],[]⟩::done) ⟨(d,.bsl id 0 nr cap)::fr,(id,⟨bt,.r er.flatten mr⟩)::bx,tk⟩ rest):DR P c ops Q st0 done ⟨fr,bx,tk⟩ (⟨some d,.call {callee:= .builtin .append,args:= #[x,y],argTypes:= #[t,t']},ty,pos,aft,none⟩::rest):=
 dC h fun _ hag hL=>oc hlt ((hag.ev x oO).trans hx) ((hag.ev y oO).trans hy) ((hag.bx id sP).trans hb) ((hag.bx id' sP).trans hb2) hbn hk hk2 hoff2 hin hc0 hroom hi hm her hmr hnr hL
def zV(N:Nat){t t' e e':TypeId}{x y:Operand}{k k2 bytes:Nat}{news:List (List IV)}(hlt:Nat.ble (d+1) c.nt=true)(hx:St.ev ⟨fr,bx,tk⟩ x= .nils)(hy:(St.ev ⟨fr,bx,tk⟩ y).sl?=some news)[hr:RowTy P t e k bytes][hs2:SliceTy P t' e' k2](hk2: ∀e∈news,e.length=k)(hne:news≠ [])(hm:news.length≤maxLen)(hby:news.length*bytes≤140737488355328)(hf:St.fresh N ⟨fr,bx,tk⟩=true)
 (h:DR P c ops Q st0 (⟨some (d,.bsh N 0 news.length k),((N,⟨e,.r news.flatten 0⟩):: []),[],[],[],[],[N]⟩::done) ⟨(d,.bsh N 0 news.length k)::fr,(N,⟨e,.r news.flatten 0⟩)::bx,tk⟩ rest):DR P c ops Q st0 done ⟨fr,bx,tk⟩ (⟨some d,.call {callee:= .builtin .append,args:= #[x,y],argTypes:= #[t,t']},ty,pos,aft,none⟩::rest):=
 dC h fun _ hag hL=>od N hlt ((hag.ev x oO).trans hx) ((congrArg AV.sl? (hag.ev y oO)).trans hy) hk2 hne hm hby (hag.fs N sP) hL
def pH(N:Nat){t t' e e':TypeId}{x y:Operand}{k k2 bytes n id mm nr:Nat}{es news er:List (List IV)}(hlt:Nat.ble (d+1) c.nt=true)(hx:St.ev ⟨fr,bx,tk⟩ x= .bsh id 0 n k)(hy:(St.ev ⟨fr,bx,tk⟩ y).sl?=some news)[hr:RowTy P t e k bytes][hs2:SliceTy P t' e' k2](hb:bx.lookup id=some ⟨e,.r es.flatten mm⟩)(hbn:es.flatten≠ [] ∨0<mm)(hk: ∀e∈es,e.length=k)(hk2: ∀e∈news,e.length=k)(hi:n≤es.length)(hne:news≠ [])(hm:n+news.length≤maxLen)(hby:(n+news.length)*bytes≤140737488355328)(hf:St.fresh N ⟨fr,bx,tk⟩=true)(her:es.take n++news=er)(hnr:n+news.length=nr)
 (h:DR P c ops Q st0 (⟨some (d,.bsh N 0 nr k),((N,⟨e,.r er.flatten 0⟩)::(id,⟨e,.l []⟩):: []),[],[],[id],[],[N]⟩::done) ⟨(d,.bsh N 0 nr k)::fr,(N,⟨e,.r er.flatten 0⟩)::(id,⟨e,.l []⟩)::bx,tk⟩ rest):DR P c ops Q st0 done ⟨fr,bx,tk⟩ (⟨some d,.call {callee:= .builtin .append,args:= #[x,y],argTypes:= #[t,t']},ty,pos,aft,none⟩::rest):=
 dC h fun _ hag hL=>eY N hlt ((hag.ev x oO).trans hx) ((congrArg AV.sl? (hag.ev y oO)).trans hy) ((hag.bx id sP).trans hb) hbn hk hk2 hi hne hm hby (hag.fs N sP) her hnr hL
def rz(hlt:Nat.ble (d+1) c.nt=true)[hs:SliceTy P t e k][hz:ZeroTy P e zs](h1:zs.all (·.oneCell')=true)(hzl:zs.length=k)(hn:Nat.ble (n*k) 16777216=true)(hnk:Nat.ble 1 k=true)(hf:lS (fun i=>some (i*k,k)) ((List.range (n*k)).map fun i=>cz (zs.getD (i % k) undef)) (parts.toList.map fun x=>(x.1,St.ev ⟨fr,bx,tk⟩ x.2))=some cs)(hcs:cs=es.flatten.map AV.iv)(hcl:es.flatten.length=n*k)(hfr:St.fresh d ⟨fr,bx,tk⟩=true)
 (h:DR P c ops Q st0 (⟨some (d,.bsl d 0 n n),((d,⟨e,.r es.flatten 0⟩):: []),[],[],[],[],[d]⟩::done) ⟨(d,.bsl d 0 n n)::fr,(d,⟨e,.r es.flatten 0⟩)::bx,tk⟩ rest):DR P c ops Q st0 done ⟨fr,bx,tk⟩ (⟨some d,.buildSlice t n parts,ty,pos,aft,none⟩::rest):=
 dC h fun _ hag hL=>og hlt h1 hzl hn hnk ((by rw[agP hag.ev (fun x hx=>by simp only[Op.operands];exact List.mem_toArray.2 (List.mem_map.2 ⟨x,by simpa using hx,rfl⟩))];exact hf)) hcs hcl (hag.fs d sP) hL
def dV{e:List IV}(hx:St.ev ⟨fr,bx,tk⟩ x= .ptr id off)(hy:St.ev ⟨fr,bx,tk⟩ y=v)[ht:VarTy P t agg k](hb:bx.lookup id=some ⟨bt,.r es.flatten mm⟩)(hv:v.lays=true)(hc:v.cells=e.map AV.iv)(he:e.length=k)(hk: ∀e∈es,e.length=k)(ho:off=i*k)(hi:i<es.length)(her:es.set i e=er)
 (h:DR P c ops Q st0 (⟨none,((id,⟨bt,.r er.flatten mm⟩):: []),[],[],[id],[],[]⟩::done) ⟨fr,(id,⟨bt,.r er.flatten mm⟩)::bx,tk⟩ rest):DR P c ops Q st0 done ⟨fr,bx,tk⟩ (⟨none,.store t x y,ty,pos,aft,none⟩::rest):=
 dC h fun _ hag hL=>dS ((hag.ev x oO).trans hx) ((hag.ev y oO).trans hy) ((hag.bx id sP).trans hb) hv hc he hk ho hi her hL
def li(hlt:Nat.ble (d+1) c.nt=true)[hok:CallTy P f](hc:CallA P f NJ [] [(1000,⟨bt,.r xs 0⟩)] [] (.bsh 1000 0 n k))(ha:AV.pub.pubs (args.toList.map (St.ev ⟨fr,bx,tk⟩))=NJ)(hm:AV.mentsIn [] NJ=true)(hf:St.fresh d ⟨fr,bx,tk⟩=true)
 (h:DR P c ops Q st0 (⟨some (d,.bsh d 0 n k),((d,⟨bt,.r xs 0⟩):: []),[],[],[],[],[d]⟩::done) ⟨(d,.bsh d 0 n k)::fr,(d,⟨bt,.r xs 0⟩)::bx,tk⟩ rest):DR P c ops Q st0 done ⟨fr,bx,tk⟩ (⟨some d,.call {callee:= .value (.func f),args:=args,argTypes:=ats},ty,pos,aft,none⟩::rest):=
 dC h fun _ hag hL=>jw hlt hc ((by rw[Jx hag.ev (fun x hx=>by simp[Op.operands,Call.operands,hx])];exact ha)) hm (hag.fs d sP) hL
def Ca(hlt:Nat.ble (d+1) c.nt=true)[hok:CallTy P f](hc:CallA P f (.bsh 1000 0 n k::NJ) [(1000,⟨bt,.r xs 0⟩)] [(1001,⟨bt,.r ys 0⟩),(1000,⟨bt,.l []⟩)] [] (.bsh 1001 0 n' k))(ha:AV.pub.pubs (args.toList.map (St.ev ⟨fr,bx,tk⟩))= .bsh a 0 n k::NJ)(hb:bx.lookup a=some ⟨bt,.r xs 0⟩)(hxs:xs≠ [])(hm:AV.mentsIn [] NJ=true)(hf:St.fresh d ⟨fr,bx,tk⟩=true)
 (h:DR P c ops Q st0 (⟨some (d,.bsh d 0 n' k),((d,⟨bt,.r ys 0⟩)::(a,⟨bt,.l []⟩):: []),[],[],[a],[],[d]⟩::done) ⟨(d,.bsh d 0 n' k)::fr,(d,⟨bt,.r ys 0⟩)::(a,⟨bt,.l []⟩)::bx,tk⟩ rest):DR P c ops Q st0 done ⟨fr,bx,tk⟩ (⟨some d,.call {callee:= .value (.func f),args:=args,argTypes:=ats},ty,pos,aft,none⟩::rest):=
 dC h fun _ hag hL=>uQ hlt hc ((by rw[Jx hag.ev (fun x hx=>by simp[Op.operands,Call.operands,hx])];exact ha)) ((hag.bx a sP).trans hb) hxs hm (hag.fs d sP) hL
def rv{res:IV}(hlt:Nat.ble (d+1) c.nt=true)[hok:CallTy P f](hc:CallA P f (.bsh 1000 0 n k::NJ) [(1000,⟨bt,.r xs 0⟩)] [(1000,⟨bt,.l []⟩)] [] (.iv res))(ha:AV.pub.pubs (args.toList.map (St.ev ⟨fr,bx,tk⟩))= .bsh a 0 n k::NJ)(hb:bx.lookup a=some ⟨bt,.r xs 0⟩)(hxs:xs≠ [])(hm:AV.mentsIn [] NJ=true)
 (h:DR P c ops Q st0 (⟨some (d,.iv res),((a,⟨bt,.l []⟩):: []),[],[],[a],[],[]⟩::done) ⟨(d,.iv res)::fr,(a,⟨bt,.l []⟩)::bx,tk⟩ rest):DR P c ops Q st0 done ⟨fr,bx,tk⟩ (⟨some d,.call {callee:= .value (.func f),args:=args,argTypes:=ats},ty,pos,aft,none⟩::rest):=
 dC h fun _ hag hL=>AN hlt hc ((by rw[Jx hag.ev (fun x hx=>by simp[Op.operands,Call.operands,hx])];exact ha)) ((hag.bx a sP).trans hb) hxs hm hL
def ru{i:AV}{v m:Nat}{vs:List IV}(hlt:Nat.ble (d+1) c.nt=true)[hok:CallTy P f](hc:CallA P f [.bsh 1000 0 n k,i,.bsl 1001 0 m m] [(1000,⟨bt,.r xs 0⟩),(1001,⟨bt',.r vs 0⟩)] [(1002,⟨bt,.r ys 0⟩),(1000,⟨bt,.l []⟩),(1001,⟨bt',.l []⟩)] [] (.bsh 1002 0 n' k))(ha:AV.pub.pubs (args.toList.map (St.ev ⟨fr,bx,tk⟩))= [.bsh a 0 n k,i,.bsl v 0 m m])(hb:bx.lookup a=some ⟨bt,.r xs 0⟩)(hb2:bx.lookup v=some ⟨bt',.r vs 0⟩)(hxs:xs≠ [])(hvs:vs≠ [])(hav:(a==v)=false)(hm:AV.mentIn [] i=true)(hf:St.fresh d ⟨fr,bx,tk⟩=true)
 (h:DR P c ops Q st0 (⟨some (d,.bsh d 0 n' k),((d,⟨bt,.r ys 0⟩)::(a,⟨bt,.l []⟩)::(v,⟨bt',.l []⟩):: []),[],[],[a,v],[],[d]⟩::done) ⟨(d,.bsh d 0 n' k)::fr,(d,⟨bt,.r ys 0⟩)::(a,⟨bt,.l []⟩)::(v,⟨bt',.l []⟩)::bx,tk⟩ rest):DR P c ops Q st0 done ⟨fr,bx,tk⟩ (⟨some d,.call {callee:= .value (.func f),args:=args,argTypes:=ats},ty,pos,aft,none⟩::rest):=
 dC h fun _ hag hL=>oe hlt hc ((by rw[Jx hag.ev (fun x hx=>by simp[Op.operands,Call.operands,hx])];exact ha)) ((hag.bx a sP).trans hb) ((hag.bx v sP).trans hb2) hxs hvs hav hm (hag.fs d sP) hL
def No{dst:Option Tmp}(hj:(ops[j]?).bind (·.dst)=some s)(hb:st.ev (.tmp s)=aB b')(he:b'=b)
 (h:DR P c ops Q st0 done st (⟨dst,op,ty,pos,aft,none⟩::rest)):DR P c ops Q st0 done st (⟨dst,op,ty,pos,aft,some (j,b)⟩::rest):=
 DR.of_plain (fun e hv st' hag Q' hL=>L.guardDo hj ((hag.gd j s b U hj).trans (he▸hb)) (hv st' ⟨hag.ev,fun j s b hg=>(by simp at hg),hag.bx,hag.tk,hag.fs⟩ Q' hL)) h
def Jg(hlt:Nat.ble (d+1) c.nt=true)(hj:(ops[j]?).bind (·.dst)=some s)(hb:St.ev ⟨fr,bx,tk⟩ (.tmp s)=aB b')(he:b'=false)
 (h:DR P c ops Q st0 (⟨some (d,.opt false .any),[],[],[],[],[],[]⟩::done) ⟨(d,.opt false .any)::fr,bx,tk⟩ rest):DR P c ops Q st0 done ⟨fr,bx,tk⟩ (⟨some d,op,ty,pos,aft,some (j,true)⟩::rest):=
 dC h fun _ hag hL=>AL hlt hj ((hag.gd j s true U hj).trans hb) he hL
def Jh(hlt:Nat.ble (d+1) c.nt=true)(hj:(ops[j]?).bind (·.dst)=some s)(hb:St.ev ⟨fr,bx,tk⟩ (.tmp s)=aB b')(he:b'=true)
 (h:DR P c ops Q st0 (⟨some (d,.opt false .any),[],[],[],[],[],[]⟩::done) ⟨(d,.opt false .any)::fr,bx,tk⟩ rest):DR P c ops Q st0 done ⟨fr,bx,tk⟩ (⟨some d,op,ty,pos,aft,some (j,false)⟩::rest):=
 dC h fun _ hag hL=>AM hlt hj ((hag.gd j s false U hj).trans hb) he hL
def Jf(hlt:Nat.ble (d+1) c.nt=true)(hj:(ops[j]?).bind (·.dst)=some s)(hb:St.ev ⟨fr,bx,tk⟩ (.tmp s)= .opt false .any)
 (h:DR P c ops Q st0 (⟨some (d,.opt false .any),[],[],[],[],[],[]⟩::done) ⟨(d,.opt false .any)::fr,bx,tk⟩ rest):DR P c ops Q st0 done ⟨fr,bx,tk⟩ (⟨some d,op,ty,pos,aft,some (j,b)⟩::rest):=
 dC h fun _ hag hL=>AK hlt hj ((hag.gd j s b U hj).trans hb) hL
def Je(hj:(ops[j]?).bind (·.dst)=some s)(hg:o.guard=some (j,b))(hb:st.ev (.tmp s)=aB b')(hT:b'=true→DR P c ops Q st0 done st (o::rest))(hF:b'=false→DR P c ops Q st0 done st (o::rest)):DR P c ops Q st0 done st (o::rest):=by
 cases b'
 · exact hF U
 · exact hT U
def Jd[hm:MixTy P](h:DR P c l.toArray Q st [] st l):L c st ((Code.region id l.toArray true).wp P Q):=DR.region hm.h h
def Nn(hok:Bf ops done.reverse st0=true)(h:L c st (Q .normal)):DR P c ops Q st0 done st []:=DR.nil hok h
end
end
end Go.Abs
namespace Go.Abs
section
variable [Dr]{P:Program}{c:Ctx}{fr:List (Nat×AV)}{bx:List (Nat×Box)}{tk:List (Nat×Tok)}{ops:Array Oper}{Q:Exit→Act→World→Prop}{rest:List Oper}{d:Nat}{ty:TypeId}{pos:String}{aft:Array Edge}{st0:St}{done:List Eff}
def s_Q{gs:au}{f:FuncId}{args:Array Operand}{ats:Array TypeId}{b b':Box}{res:AV}(h:LW P c ⟨(d,res)::fr,(1000,b')::bx,tk⟩ ops Q rest)[hok:CallTy P f](hb:bx.lookup 1000=some b:=by exact rfl)(hc:CallG gs P f (AV.pub.pubs (args.toList.map (St.ev ⟨fr,bx,tk⟩))) [(1000,b)] [(1000,b')] [] res:=by assumption)(hG:Glob gs c.E0 c.w0:=by assumption)(hlt:Nat.ble (d+1) c.nt=true:=by exact rfl)(hbn:b.cs.isEmpty=false:=by exact rfl)(hm':AV.mentsIn [] b'.cs=true:=by exact rfl)(hr:AV.mentIn [] res=true:=by exact rfl):LW P c ⟨fr,bx,tk⟩ ops Q (⟨some d,.call {callee:= .value (.func f),args:=args,argTypes:=ats},ty,pos,aft,none⟩::rest):=kJ hlt hG hc rfl hb hbn hm' hr h
def d_Q{gs:au}{f:FuncId}{args:Array Operand}{ats:Array TypeId}{b b':Box}{res:AV}(h:DR P c ops Q st0 (⟨some (d,res),((1000,b'):: []),[],[],[1000],[],[]⟩::done) ⟨(d,res)::fr,(1000,b')::bx,tk⟩ rest)[hok:CallTy P f](hb:bx.lookup 1000=some b:=by exact rfl)(hc:CallG gs P f (AV.pub.pubs (args.toList.map (St.ev ⟨fr,bx,tk⟩))) [(1000,b)] [(1000,b')] [] res:=by assumption)(hG:Glob gs c.E0 c.w0:=by assumption)(hlt:Nat.ble (d+1) c.nt=true:=by exact rfl)(hbn:b.cs.isEmpty=false:=by exact rfl)(hm':AV.mentsIn [] b'.cs=true:=by exact rfl)(hr:AV.mentIn [] res=true:=by exact rfl):DR P c ops Q st0 done ⟨fr,bx,tk⟩ (⟨some d,.call {callee:= .value (.func f),args:=args,argTypes:=ats},ty,pos,aft,none⟩::rest):=Ji hlt hG hc rfl hb hbn hm' hr h
end
section
variable [Dr]{P:Program}{c:Ctx}{fr:List (Nat×AV)}{bx:List (Nat×Box)}{tk:List (Nat×Tok)}{ops:Array Oper}{Q:Exit→Act→World→Prop}{rest:List Oper}{d:Nat}{ty:TypeId}{pos:String}{aft:Array Edge}{st0:St}{done:List Eff}
def iG{gs:au}{f:FuncId}{fn:Func}{code:Code}{args:List AV}{bx bx':List (Nat×Box)}{tk':List (Nat×Tok)}{res:AV}{nt:Nat}(hf:P.funcs[f]?=some fn)(hnt:fn.ntmps=nt)(h: ∀(w0:World) (E0:Env),Glob gs E0 w0→L ⟨nt,w0,E0,keys bx⟩ ⟨enter 0 args,bx,[]⟩ (code.wp P (bodyPost P fn (lp ⟨nt,w0,E0,keys bx⟩ bx' tk' res))))(hb:fn.body=some code:=by exact rfl)(hn:Nat.ble args.length nt=true:=by exact rfl):CallG gs P f args bx bx' tk' res:=CallG.intro nt hf hb hnt hn h
def s_C{f:FuncId}{args:Array Operand}{ats:Array TypeId}{res:AV}(hc:CallA P f (AV.pub.pubs (args.toList.map (St.ev ⟨fr,bx,tk⟩))) [] [] [] res)(h:LW P c ⟨(d,res)::fr,bx,tk⟩ ops Q rest)[hok:CallTy P f](hlt:Nat.ble (d+1) c.nt=true:=by exact rfl)(hmr:AV.mentIn [] res=true:=by exact rfl):LW P c ⟨fr,bx,tk⟩ ops Q (⟨some d,.call {callee:= .value (.func f),args:=args,argTypes:=ats},ty,pos,aft,none⟩::rest):=gp hlt hc rfl hmr h
def d_C{f:FuncId}{args:Array Operand}{ats:Array TypeId}{res:AV}(hc:CallA P f (AV.pub.pubs (args.toList.map (St.ev ⟨fr,bx,tk⟩))) [] [] [] res)(h:DR P c ops Q st0 (⟨some (d,res),[],[],[],[],[],[]⟩::done) ⟨(d,res)::fr,bx,tk⟩ rest)[hok:CallTy P f](hlt:Nat.ble (d+1) c.nt=true:=by exact rfl)(hmr:AV.mentIn [] res=true:=by exact rfl):DR P c ops Q st0 done ⟨fr,bx,tk⟩ (⟨some d,.call {callee:= .value (.func f),args:=args,argTypes:=ats},ty,pos,aft,none⟩::rest):=ry hlt hc rfl hmr h
end
def bb:(∀b,(true && b)=b)∧(∀b,(b && true)=b)∧(∀b,(false||b)=b)∧(∀b,(b||false)=b)∧(∀b,(b||true)=true)∧(∀b,(true||b)=true)∧(∀b,(false && b)=false)∧(∀b,(b && false)=false)∧((!true)=false)∧((!false)=true)∧(∀ [Decidable True],decide True=true)∧(∀ [Decidable False],decide False=false):=⟨Bool.true_and,Bool.and_true,Bool.false_or,Bool.or_false,Bool.or_true,Bool.true_or,Bool.false_and,Bool.and_false,rfl,rfl,by intro i;simp,by intro i;simp⟩
end Go.Abs
