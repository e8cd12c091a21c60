/- Lemmas towards the law. Conditions: each one says its own. -/
import Derived.Test.YtnhmohbhgocbjaaGreatDoorZU2
import Derived.KernelRfl
import Derived.Test.YtnhmohbhgocbjaaGreatDoorChecked
import Derived.Test.YtnhmohbhgocbjaaGreatDoorRows
set_option linter.all false
set_option maxHeartbeats 64000000
set_option maxRecDepth 100000
namespace Go.Abs
variable [Dr]
class C1 (P:Program) (t:TypeId) (agg:outParam Bool) (k:outParam Nat):Prop where
 h:nB P t agg k=true
class B7 (P:Program) (s:TypeId) (f:Nat) (fo:outParam Nat):Prop where
 h:qY P s f fo=true
class A8 (P:Program) (t:TypeId) (e:outParam TypeId) (k:outParam Nat):Prop where
 h:bH P t e k=true
class E7 (P:Program) (t:TypeId):Prop where
 h:P.underlying t=some .string
class I6 (P:Program) (t:TypeId):Prop where
 h:P.underlying t=some .bool
class D9 (P:Program) (t:TypeId) (k:outParam IntKind):Prop where
 h:P.underlying t=some (.int k)
class C2 (P:Program) (t:TypeId) (zs:outParam (List Value)):Prop where
 h:dy P t=some zs
class D0 (P:Program) (t:TypeId) (pl:outParam (List (Nat×Nat))):Prop where
 h:uN P t=some pl
class A0 (P:Program) (f:FuncId):Prop where
 h:dP P f=true
class G7 (P:Program) (t:TypeId) (ks:outParam (List Nat)):Prop where
 h:In P t ks=true
class H3 (P:Program) (f:FuncId):Prop where
 h:sY P f Extern.BytealgIndexByte.indexByte
class ArrTy (P:Program) (t:TypeId) (e:outParam TypeId) (n:outParam Nat):Prop where
 h:IU P t e n=true
class E9 (P:Program) (s:TypeId) (f:Nat) (fo:outParam Nat):Prop where
 h:Ic P s f fo=true
class H4 (P:Program) (t:TypeId):Prop where
 h:P.underlying t=some (.pointer (P.pointee t))
class H5 (P:Program):Prop where
 h:P.follows .mixedOrders=true
def EN(P:Program)(t:TypeId)(e:TypeId)(k bytes:Nat):Bool:=
 bH P t e k && (match P.info? e with|some i=>i.bytes==bytes && (match i.zero with|some z=>z.cells.size==k|none=>false)|none=>false) && (Nat.ble 1 k && Nat.ble bytes 100000)
class D7 (P:Program) (t:TypeId) (e:outParam TypeId) (k bytes:outParam Nat):Prop where
 h:EN P t e k bytes=true
def mW{P:Program}{t e:TypeId}{k bytes:Nat}(h:EN P t e k bytes=true):
 P.underlying t=some (.slice e)/\0<k/\ ∃(i:TypeInfo) (z:Value),P.info? e=some i/\i.size=k/\i.bytes=bytes/\i.zero=some z/\z.cells.size=k/\bytes<=100000:=by
 unfold EN at h;simp only[aE] at h;obtain⟨⟨h1,h2⟩,h3,h6⟩:=h;obtain⟨hu,i,hi,hs⟩:=aH h1;rw[hi] at h2;simp only[aE,beq_iff_eq] at h2;obtain⟨h4,h5⟩:=h2;cases T:i.zero with
 |none=>rw[T] at h5;simp at h5
 |some z=>rw[T] at h5;exact⟨hu,bT h3,i,z,hi,hs,h4,T,by simpa using h5,bT h6⟩
def Cf{P:Program}{t:TypeId}{zs:List Value}(h:dy P t=some zs): ∃z,(P.info? t).bind (·.zero)=some z/\z.cells.toList=zs:=by
 unfold dy at h;exact Option.map_eq_some_iff.1 h
def LW(P:Program)(c:C7)(st:St)(ops:Array Oper)(Q:Exit->Act->World->Prop)(l:List Oper):Prop:=L c st (wpList P ops Q l)
def VV(P:Program)(c:C7)(st:St)(o:Oper)(v:AV)(tb:List Nat):Prop:=
 ∀st':St,(∀x∈o.op.operands,st'.ev x=st.ev x)->(∀id∈tb,st'.bx.lookup id=st.bx.lookup id)->Yields P c st' o v
def VV.out{P:Program}{c:C7}{st:St}{o:Oper}{v:AV}{tb:List Nat}(h:VV P c st o v tb): ∀st':St,(∀x∈o.op.operands,st'.ev x=st.ev x)->(∀id∈tb,st'.bx.lookup id=st.bx.lookup id)->Yields P c st' o v:=h
def agP{st st':St}{ps:Array Operand}(he: ∀x∈ps,st'.ev x=st.ev x){parts:Array (Nat×Operand)}(h: ∀x∈parts,x.2∈ps):
 (parts.toList.map fun x=>(x.1,st'.ev x.2))=parts.toList.map fun x=>(x.1,st.ev x.2):=
 List.map_congr_left fun x T=>by rw[he x.2 (h x (by simpa using T))]
def IY{st st':St}{ps:Array Operand}(he: ∀x∈ps,st'.ev x=st.ev x){args:Array Operand}(h: ∀x∈args,x∈ps):
 (args.toList.map st'.ev)=args.toList.map st.ev:=
 List.map_congr_left fun x T=>he x (h x (by simpa using T))
section
variable {P:Program}{c:C7}{fr:List (Nat×AV)}{bx:List (Nat×A5)}{tk:List (Nat×C9)}{ops:Array Oper}{Q:Exit->Act->World->Prop}{rest:List Oper}
 {d:Nat} {ty:TypeId} {pos:String} {aft:Array Edge}
section
variable {args:Array Operand}{Nh cs ds vs:List AV}{ats:Array TypeId}{b b':Bool}{bytes fo id j off q:Nat}{e s t t':TypeId}{es es' news:List (List IV)}{f:FuncId}{gs:aw}{i x y z:Operand}{k k' k0 kd:IntKind}{ks:List Nat}{m n p:Int}{m':List UInt8}{op:Op}{parts:Array (Nat×Operand)}{res v:AV}{st:St}{zs:List Value}
def ag{tb:List Nat}(T:Nat.ble (d+1) c.nt=true)(hv:VV P c ⟨fr,bx,tk⟩ ⟨some d,op,ty,pos,aft,none⟩ v tb)(h:LW P c ⟨(d,v)::fr,bx,tk⟩ ops Q rest):
 LW P c ⟨fr,bx,tk⟩ ops Q (⟨some d,op,ty,pos,aft,none⟩::rest):=L.val (st:=⟨fr,bx,tk⟩) U U T (hv _ (fun _ _=>rfl) (fun _ _=>rfl)) h
def Ml(T:St.ev ⟨fr,bx,tk⟩ x=v):VV P c ⟨fr,bx,tk⟩ ⟨some d,.move x,ty,pos,aft,none⟩ (v) []:=
 fun st' kE kL=>((kE x oO).trans T)▸ .move U
def Mm(T:St.ev ⟨fr,bx,tk⟩ x=v):VV P c ⟨fr,bx,tk⟩ ⟨some d,.assign x,ty,pos,aft,none⟩ (v) []:=
 fun st' kE kL=>((kE x oO).trans T)▸ .assign U
def iU(hx:St.ev ⟨fr,bx,tk⟩ x=aI m)(hy:St.ev ⟨fr,bx,tk⟩ y=aI n)(T: -9223372036854775808<=m+n)(ad:m+n<=9223372036854775807):VV P c ⟨fr,bx,tk⟩ ⟨some d,.binOp .add t x y t',ty,pos,aft,none⟩ (aI (m+n)) []:=
 fun st' kE kL=> .addI U ((kE x oO).trans hx) ((kE y oO).trans hy) T ad
def pS(hx:St.ev ⟨fr,bx,tk⟩ x=aI m)(hy:St.ev ⟨fr,bx,tk⟩ y=aI n)(T: -9223372036854775808<=m - n)(ad:m - n<=9223372036854775807):VV P c ⟨fr,bx,tk⟩ ⟨some d,.binOp .sub t x y t',ty,pos,aft,none⟩ (aI (m - n)) []:=
 fun st' kE kL=> .subI U ((kE x oO).trans hx) ((kE y oO).trans hy) T ad
def Gp(hx:St.ev ⟨fr,bx,tk⟩ x=aI m)(hy:St.ev ⟨fr,bx,tk⟩ y=aI n)(T: -9223372036854775808<=m*n)(ad:m*n<=9223372036854775807):VV P c ⟨fr,bx,tk⟩ ⟨some d,.binOp .mul t x y t',ty,pos,aft,none⟩ (aI (m*n)) []:=
 fun st' kE kL=> .mulI U ((kE x oO).trans hx) ((kE y oO).trans hy) T ad
def GC(hx:St.ev ⟨fr,bx,tk⟩ x= .iv (.im (.int k m)))(hy:St.ev ⟨fr,bx,tk⟩ y= .iv (.im (.int k n))):VV P c ⟨fr,bx,tk⟩ ⟨some d,.binOp .eql t x y t',ty,pos,aft,none⟩ (aB (m==n)) []:=
 fun st' T kL=> .eqlI U ((T x oO).trans hx) ((T y oO).trans hy)
def Gn(hx:St.ev ⟨fr,bx,tk⟩ x= .iv (.im (.int k m)))(hy:St.ev ⟨fr,bx,tk⟩ y= .iv (.im (.int k n))):VV P c ⟨fr,bx,tk⟩ ⟨some d,.binOp .neq t x y t',ty,pos,aft,none⟩ (aB (m !=n)) []:=
 fun st' T kL=> .neqI U ((T x oO).trans hx) ((T y oO).trans hy)
def Gs(hx:St.ev ⟨fr,bx,tk⟩ x= .iv (.im (.int k m)))(hy:St.ev ⟨fr,bx,tk⟩ y= .iv (.im (.int k n))):VV P c ⟨fr,bx,tk⟩ ⟨some d,.binOp .lss t x y t',ty,pos,aft,none⟩ (aB (decide (m<n))) []:=
 fun st' T kL=> .lssI U ((T x oO).trans hx) ((T y oO).trans hy)
def Gu(hx:St.ev ⟨fr,bx,tk⟩ x= .iv (.im (.int k m)))(hy:St.ev ⟨fr,bx,tk⟩ y= .iv (.im (.int k n))):VV P c ⟨fr,bx,tk⟩ ⟨some d,.binOp .leq t x y t',ty,pos,aft,none⟩ (aB (decide (m<=n))) []:=
 fun st' T kL=> .leqI U ((T x oO).trans hx) ((T y oO).trans hy)
def Gy(hx:St.ev ⟨fr,bx,tk⟩ x= .iv (.im (.int k m)))(hy:St.ev ⟨fr,bx,tk⟩ y= .iv (.im (.int k n))):VV P c ⟨fr,bx,tk⟩ ⟨some d,.binOp .gtr t x y t',ty,pos,aft,none⟩ (aB (decide (n<m))) []:=
 fun st' T kL=> .gtrI U ((T x oO).trans hx) ((T y oO).trans hy)
def GA(hx:St.ev ⟨fr,bx,tk⟩ x= .iv (.im (.int k m)))(hy:St.ev ⟨fr,bx,tk⟩ y= .iv (.im (.int k n))):VV P c ⟨fr,bx,tk⟩ ⟨some d,.binOp .geq t x y t',ty,pos,aft,none⟩ (aB (decide (n<=m))) []:=
 fun st' T kL=> .geqI U ((T x oO).trans hx) ((T y oO).trans hy)
def GB{m n:List UInt8}(hx:St.ev ⟨fr,bx,tk⟩ x=aS m)(hy:St.ev ⟨fr,bx,tk⟩ y=aS n):VV P c ⟨fr,bx,tk⟩ ⟨some d,.binOp .eql t x y t',ty,pos,aft,none⟩ (aB (m==n)) []:=
 fun st' T kL=> .eqlS U ((T x oO).trans hx) ((T y oO).trans hy)
def Gm{m n:List UInt8}(hx:St.ev ⟨fr,bx,tk⟩ x=aS m)(hy:St.ev ⟨fr,bx,tk⟩ y=aS n):VV P c ⟨fr,bx,tk⟩ ⟨some d,.binOp .neq t x y t',ty,pos,aft,none⟩ (aB (!(m==n))) []:=
 fun st' T kL=> .neqS U ((T x oO).trans hx) ((T y oO).trans hy)
def Gr{m n:List UInt8}(hx:St.ev ⟨fr,bx,tk⟩ x=aS m)(hy:St.ev ⟨fr,bx,tk⟩ y=aS n):VV P c ⟨fr,bx,tk⟩ ⟨some d,.binOp .lss t x y t',ty,pos,aft,none⟩ (aB (Op.bytesLess m n)) []:=
 fun st' T kL=> .lssS U ((T x oO).trans hx) ((T y oO).trans hy)
def Gt{m n:List UInt8}(hx:St.ev ⟨fr,bx,tk⟩ x=aS m)(hy:St.ev ⟨fr,bx,tk⟩ y=aS n):VV P c ⟨fr,bx,tk⟩ ⟨some d,.binOp .leq t x y t',ty,pos,aft,none⟩ (aB (Op.bytesLess m n||m==n)) []:=
 fun st' T kL=> .leqS U ((T x oO).trans hx) ((T y oO).trans hy)
def Gx{m n:List UInt8}(hx:St.ev ⟨fr,bx,tk⟩ x=aS m)(hy:St.ev ⟨fr,bx,tk⟩ y=aS n):VV P c ⟨fr,bx,tk⟩ ⟨some d,.binOp .gtr t x y t',ty,pos,aft,none⟩ (aB (!(Op.bytesLess m n||m==n))) []:=
 fun st' T kL=> .gtrS U ((T x oO).trans hx) ((T y oO).trans hy)
def Gz{m n:List UInt8}(hx:St.ev ⟨fr,bx,tk⟩ x=aS m)(hy:St.ev ⟨fr,bx,tk⟩ y=aS n):VV P c ⟨fr,bx,tk⟩ ⟨some d,.binOp .geq t x y t',ty,pos,aft,none⟩ (aB (!(Op.bytesLess m n))) []:=
 fun st' T kL=> .geqS U ((T x oO).trans hx) ((T y oO).trans hy)
def GF{m n:List UInt8}(hx:St.ev ⟨fr,bx,tk⟩ x=aS m)(hy:St.ev ⟨fr,bx,tk⟩ y=aS n)(hl:m.length+n.length<=9223372036854775807):VV P c ⟨fr,bx,tk⟩ ⟨some d,.binOp .add t x y t',ty,pos,aft,none⟩ (aS (m++n)) []:=
 fun st' T kL=> .addS U ((T x oO).trans hx) ((T y oO).trans hy) hl
def DO(hx:St.ev ⟨fr,bx,tk⟩ x= .ptr id off)(hy:St.ev ⟨fr,bx,tk⟩ y=MQ)[ht:H4 P t]:VV P c ⟨fr,bx,tk⟩ ⟨some d,.binOp .eql t x y t',ty,pos,aft,none⟩ (aB false) []:=
 fun st' T kL=> .eqlPP U ((T x oO).trans hx) ((T y oO).trans hy) ht.h
def KR(T:St.ev ⟨fr,bx,tk⟩ x=aB b):VV P c ⟨fr,bx,tk⟩ ⟨some d,.unOp .not t x,ty,pos,aft,none⟩ (aB (!b)) []:=
 fun st' kE kL=> .not U ((kE x oO).trans T)
def yu(hx:St.ev ⟨fr,bx,tk⟩ x=aI m)(T: -9223372036854775808<=0 - m)(ad:0 - m<=9223372036854775807):VV P c ⟨fr,bx,tk⟩ ⟨some d,.unOp .neg t x,ty,pos,aft,none⟩ (aI (0 - m)) []:=
 fun st' kE kL=> .negI U ((kE x oO).trans hx) T ad
def Ck(T:St.ev ⟨fr,bx,tk⟩ x= .iv (.im (.int k m)))[ht:D9 P t k'][hs:D9 P s k0]:VV P c ⟨fr,bx,tk⟩ ⟨some d,.convert s t x,ty,pos,aft,none⟩ (.iv (.im (.int k' (k'.wrap m)))) []:=
 fun st' kE kL=> .conv U ((kE x oO).trans T) ht.h (by rw[hs.h];rfl)
def Gv{m:List UInt8}(T:St.ev ⟨fr,bx,tk⟩ x=aS m)[ht:E7 P t]:VV P c ⟨fr,bx,tk⟩ ⟨some d,.call {callee:= .builtin .len,args:= #[x],argTypes:= #[t]},ty,pos,aft,none⟩ (aI m.length) []:=
 fun st' kE kL=> .lenS U ((kE x oO).trans T) ht.h
def DN{k:Nat}(T:(St.ev ⟨fr,bx,tk⟩ x).sl?=some es)[hs:A8 P t e k]:VV P c ⟨fr,bx,tk⟩ ⟨some d,.call {callee:= .builtin .len,args:= #[x],argTypes:= #[t]},ty,pos,aft,none⟩ (aI es.length) []:=
 fun st' kE kL=> .lenSl U hs.h ((congrArg AV.sl? (kE x oO)).trans T)
def bE{m:List UInt8}{b:UInt8}(hx:St.ev ⟨fr,bx,tk⟩ x=aS m)(hn:St.ev ⟨fr,bx,tk⟩ i= .iv (.im (.int k n)))[ht:E7 P t](h0:0<=n)(hb:m[n.toNat]?=some b):VV P c ⟨fr,bx,tk⟩ ⟨some d,.index t x i,ty,pos,aft,none⟩ (.iv (.im (.int .u8 b.toNat))) []:=
 fun st' T kL=> .indexS U ((T x oO).trans hx) ((T i oO).trans hn) ht.h h0 hb
def zM{m:List UInt8}(hx:St.ev ⟨fr,bx,tk⟩ x=aS m)(hn:St.ev ⟨fr,bx,tk⟩ i= .iv (.im (.int k n)))[ht:E7 P t](h0:0<=n)(h1:n<m.length):VV P c ⟨fr,bx,tk⟩ ⟨some d,.index t x i,ty,pos,aft,none⟩ (.iv (.im (.int .u8 (m.getD n.toNat 0).toNat))) []:=
 fun st' T kL=> .indexD U ((T x oO).trans hx) ((T i oO).trans hn) ht.h h0 h1
def zO{f off':Nat}(T:St.ev ⟨fr,bx,tk⟩ x= .ptr id off)[hf:B7 P s f fo](ho:off+fo=off'):VV P c ⟨fr,bx,tk⟩ ⟨some d,.fieldAddr s x f,ty,pos,aft,none⟩ (.ptr id off') []:=
 fun st' kE kL=>ho▸ .fieldP U ((kE x oO).trans T) hf.h
def zP{f:Nat}{cs T:List IV}(hx:St.ev ⟨fr,bx,tk⟩ x= .el cs)[hf:B7 P s f fo](hc:cs.drop fo=T):VV P c ⟨fr,bx,tk⟩ ⟨some d,.fieldAddr s x f,ty,pos,aft,none⟩ (.el T) []:=
 fun st' kE kL=>hc▸ .fieldE U ((kE x oO).trans hx) hf.h
def cd{k:Nat}{cs:List IV}(hx:(St.ev ⟨fr,bx,tk⟩ x).sl?=some es)(hn:St.ev ⟨fr,bx,tk⟩ i= .iv (.im (.int kd n)))[hs:A8 P t e k](h0:0<=n)(hc:es[n.toNat]?=some cs)(hl:cs.length=k):VV P c ⟨fr,bx,tk⟩ ⟨some d,.indexAddr t x i,ty,pos,aft,none⟩ (.el cs) []:=
 fun st' T kL=> .indexAddr U hs.h ((congrArg AV.sl? (T x oO)).trans hx) ((T i oO).trans hn) h0 hc hl
def zH{b:A5}(T:St.ev ⟨fr,bx,tk⟩ x= .ptr id off)[ht:C1 P t false 1](hb:bx.lookup id=some b)(hv:b.cs[off]?=some v):VV P c ⟨fr,bx,tk⟩ ⟨some d,.load t x,ty,pos,aft,none⟩ (v) [id]:=
 fun st' kE kL=> .load1P U ht.h ((kE x oO).trans T) ((kL id sP).trans hb) hv
def cO{k:Nat}{b:A5}(T:St.ev ⟨fr,bx,tk⟩ x= .ptr id off)[ht:C1 P t true k](hb:bx.lookup id=some b)(hc:(b.cs.drop off).take k=cs)(hk:cs.length=k):VV P c ⟨fr,bx,tk⟩ ⟨some d,.load t x,ty,pos,aft,none⟩ (.agg cs) [id]:=
 fun st' kE kL=>hc▸ .loadAP U ht.h ((kE x oO).trans T) ((kL id sP).trans hb) (hc.symm▸hk)
def zJ{y:IV}{cs:List IV}(T:St.ev ⟨fr,bx,tk⟩ x= .el cs)[ht:C1 P t false 1](hy:cs[0]?=some y):VV P c ⟨fr,bx,tk⟩ ⟨some d,.load t x,ty,pos,aft,none⟩ (.iv y) []:=
 fun st' kE kL=> .load1E U ht.h ((kE x oO).trans T) hy
def zG{k:Nat}{cs:List IV}(T:St.ev ⟨fr,bx,tk⟩ x= .el cs)[ht:C1 P t true k](hc:(cs.take k).map AV.iv=vs)(hk:vs.length=k):VV P c ⟨fr,bx,tk⟩ ⟨some d,.load t x,ty,pos,aft,none⟩ (.agg vs) []:=
 fun st' kE kL=>hc▸ .loadAE U ht.h ((kE x oO).trans T) (by rw[<-lM (f:=AV.iv),hc];exact hk)
def wU{i:Nat}(T:St.ev ⟨fr,bx,tk⟩ x= .tup vs)(hv:vs[i]?=some v):VV P c ⟨fr,bx,tk⟩ ⟨some d,.extract x i,ty,pos,aft,none⟩ (v) []:=
 fun st' kE kL=> .extract U ((kE x oO).trans T) hv
def Gl(T:St.ev ⟨fr,bx,tk⟩ x= .ptr id off):VV P c ⟨fr,bx,tk⟩ ⟨some d,.nilCheck x,ty,pos,aft,none⟩ (.ptr id off) []:=
 fun st' kE kL=> .nilCheckP U ((kE x oO).trans T)
def DP{pl:List (Nat×Nat)}[T:C2 P t zs](h1:zs.all (·.oneCell')=true)[hp:D0 P t pl](hf:lK (pl[·]?) (zs.map cy) (parts.toList.map fun x=>(x.1,St.ev ⟨fr,bx,tk⟩ x.2))=some cs):VV P c ⟨fr,bx,tk⟩ ⟨some d,.build t parts,ty,pos,aft,none⟩ (.agg cs) []:=
 fun st' kE kL=> .build U T.h h1 hp.h (by rw[agP kE (fun x hx=>by simp only[Op.operands];exact List.mem_toArray.2 (List.mem_map.2 ⟨x,by simpa using hx,rfl⟩))];exact hf)
def zQ(hx:St.ev ⟨fr,bx,tk⟩ x= .agg cs)(hy:St.ev ⟨fr,bx,tk⟩ y= .agg ds)[T:G7 P t ks](hn:cs.map mn=ks)(hb:vD cs ds=some b):VV P c ⟨fr,bx,tk⟩ ⟨some d,.binOp .eql t x y t',ty,pos,aft,none⟩ (aB (b)) []:=
 fun st' kE kL=> .eqlAgg U ((kE x oO).trans hx) ((kE y oO).trans hy) T.h hn hb
def zF(hx:St.ev ⟨fr,bx,tk⟩ x= .agg cs)(hy:St.ev ⟨fr,bx,tk⟩ y= .agg ds)[T:G7 P t ks](hn:cs.map mn=ks)(hb:vD cs ds=some b):VV P c ⟨fr,bx,tk⟩ ⟨some d,.binOp .neq t x y t',ty,pos,aft,none⟩ (aB (!b)) []:=
 fun st' kE kL=> .neqAgg U ((kE x oO).trans hx) ((kE y oO).trans hy) T.h hn hb
def Gi(hx:St.ev ⟨fr,bx,tk⟩ x= .iv (.im (.int k m)))(hy:St.ev ⟨fr,bx,tk⟩ y= .iv (.im (.int k' n)))(h0:0<=n):VV P c ⟨fr,bx,tk⟩ ⟨some d,.binOp .shr t x y t',ty,pos,aft,none⟩ (.iv (.im (.int k (m.fdiv (2 ^ min n.toNat k.bits))))) []:=
 fun st' T kL=> .shrI U ((T x oO).trans hx) ((T y oO).trans hy) h0
def wT{a:Int}(i:Nat)(hx:St.ev ⟨fr,bx,tk⟩ x=aI m)(hy:St.ev ⟨fr,bx,tk⟩ y=aI n)(hp:(2:Int)^ i=p)(hm:m=a*p)(ha:0<=a)(h1:a*p+p<=9223372036854775807)(hn:0<=n)(h2:n<p):VV P c ⟨fr,bx,tk⟩ ⟨some d,.binOp .or t x y t',ty,pos,aft,none⟩ (aI (m+n)) []:=
 fun st' T kL=> .orA i U ((T x oO).trans hx) ((T y oO).trans hy) hp hm ha h1 hn h2
def rt(hx:St.ev ⟨fr,bx,tk⟩ x=aI m)(hy:St.ev ⟨fr,bx,tk⟩ y= .iv (.im (.int k' n)))(h0:0<=n)(hp:(2:Int)^ min n.toNat 64=p)(T: -9223372036854775808<=m*p)(ad:m*p<=9223372036854775807):VV P c ⟨fr,bx,tk⟩ ⟨some d,.binOp .shl t x y t',ty,pos,aft,none⟩ (aI (m*p)) []:=
 fun st' kE kL=> .shlA U ((kE x oO).trans hx) ((kE y oO).trans hy) h0 hp T ad
def zR{b:UInt8}(T:St.ev ⟨fr,bx,tk⟩ x= .iv (.im (.int .u8 (b.toNat:Int))))[ht:D9 P t .i64][hs:D9 P s k0]:VV P c ⟨fr,bx,tk⟩ ⟨some d,.convert s t x,ty,pos,aft,none⟩ (aI (b.toNat:Int)) []:=
 fun st' kE kL=> .convU8 U ((kE x oO).trans T) ht.h (by rw[hs.h];rfl)
def Gk(hx:St.ev ⟨fr,bx,tk⟩ x=aI m)(hy:St.ev ⟨fr,bx,tk⟩ y=aI n)(hn:0<n)(T: -9223372036854775808<=m)(ad:m<=9223372036854775807):VV P c ⟨fr,bx,tk⟩ ⟨some d,.binOp .quo t x y t',ty,pos,aft,none⟩ (aI (m.tdiv n)) []:=
 fun st' kE kL=> .quoI U ((kE x oO).trans hx) ((kE y oO).trans hy) hn T ad
def Gj(hx:St.ev ⟨fr,bx,tk⟩ x= .iv (.im (.int k m)))(hy:St.ev ⟨fr,bx,tk⟩ y= .iv (.im (.int k n)))(hn:0<n):VV P c ⟨fr,bx,tk⟩ ⟨some d,.binOp .rem t x y t',ty,pos,aft,none⟩ (.iv (.im (.int k (m.tmod n)))) []:=
 fun st' T kL=> .remI U ((T x oO).trans hx) ((T y oO).trans hy) hn
def bn{m:List UInt8}(hx:St.ev ⟨fr,bx,tk⟩ x=aS m)(hy:St.ev ⟨fr,bx,tk⟩ y= .iv (.im (.int k n)))[ht:E7 P t](h0:0<=n)(h1:n<=m.length)(hm:m.drop n.toNat=m'):VV P c ⟨fr,bx,tk⟩ ⟨some d,.slice t x (some y) none none,ty,pos,aft,none⟩ (aS m') []:=
 fun st' T kL=>hm▸ .sliceSl U ((T x oO).trans hx) ((T y oO).trans hy) ht.h h0 h1
def eR{m:List UInt8}(hx:St.ev ⟨fr,bx,tk⟩ x=aS m)(hy:St.ev ⟨fr,bx,tk⟩ y= .iv (.im (.int k n)))[ht:E7 P t](h0:0<=n)(h1:n<=m.length)(hm:m.take n.toNat=m'):VV P c ⟨fr,bx,tk⟩ ⟨some d,.slice t x none (some y) none,ty,pos,aft,none⟩ (aS m') []:=
 fun st' T kL=>hm▸ .sliceSh U ((T x oO).trans hx) ((T y oO).trans hy) ht.h h0 h1
def ub{m:List UInt8}{j:Int}(hx:St.ev ⟨fr,bx,tk⟩ x=aS m)(hy:St.ev ⟨fr,bx,tk⟩ y= .iv (.im (.int k n)))(hz:St.ev ⟨fr,bx,tk⟩ z= .iv (.im (.int k' j)))[ht:E7 P t](h0:0<=n)(h1:n<=j)(h2:j<=m.length)(hm:(m.drop n.toNat).take (j.toNat - n.toNat)=m'):VV P c ⟨fr,bx,tk⟩ ⟨some d,.slice t x (some y) (some z) none,ty,pos,aft,none⟩ (aS m') []:=
 fun st' T kL=>hm▸ .sliceSlh U ((T x oO).trans hx) ((T y oO).trans hy) ((T z oO).trans hz) ht.h h0 h1 h2
def jR{k:Nat}(hx:(St.ev ⟨fr,bx,tk⟩ x).sl?=some es)(hy:St.ev ⟨fr,bx,tk⟩ y= .iv (.im (.int kd n)))[hs:A8 P t e k](hk: ∀e∈es,e.length=k)(h0:0<=n)(h1:n<=es.length)(hm:es.drop n.toNat=es'):VV P c ⟨fr,bx,tk⟩ ⟨some d,.slice t x (some y) none none,ty,pos,aft,none⟩ (.iv (.sl es')) []:=
 fun st' T kL=>hm▸ .sliceVl U ((congrArg AV.sl? (T x oO)).trans hx) ((T y oO).trans hy) hs.h hk h0 h1
def ez{k:Nat}(hx:(St.ev ⟨fr,bx,tk⟩ x).sl?=some es)(hy:St.ev ⟨fr,bx,tk⟩ y= .iv (.im (.int kd n)))[hs:A8 P t e k](hk: ∀e∈es,e.length=k)(h0:0<=n)(h1:n<=es.length)(hm:es.take n.toNat=es'):VV P c ⟨fr,bx,tk⟩ ⟨some d,.slice t x none (some y) none,ty,pos,aft,none⟩ (.iv (.sl es')) []:=
 fun st' T kL=>hm▸ .sliceVh U ((congrArg AV.sl? (T x oO)).trans hx) ((T y oO).trans hy) hs.h hk h0 h1
def zV{bs:List UInt8}(T:(St.ev ⟨fr,bx,tk⟩ x).sl?=some (bs.map cB))[hs:A8 P s e 1][he:D9 P e .u8][ht:E7 P t]:VV P c ⟨fr,bx,tk⟩ ⟨some d,.convert s t x,ty,pos,aft,none⟩ (aS bs) []:=
 fun st' kE kL=> .bytesS U ((congrArg AV.sl? (kE x oO)).trans T) hs.h he.h ht.h
def Mr(T:Nat.ble (d+1) c.nt=true)(hx:St.ev ⟨fr,bx,tk⟩ x=v)(hv:v.lays=true)(hc:v.cells=cs)(hf:St.fresh d ⟨fr,bx,tk⟩=true)(hm:AV.ments d cs=false)
 (h:LW P c ⟨(d,.ptr d 0)::fr,(d,⟨t,cs⟩)::bx,tk⟩ ops Q rest):LW P c ⟨fr,bx,tk⟩ ops Q (⟨some d,.box t x,ty,pos,aft,none⟩::rest):=
 L.make (st:=⟨fr,bx,tk⟩) U U T (hc▸ .box U hx hv hf (hc.symm▸hm)) h
def Gw{m:List UInt8}[T:H3 P f](hx:St.ev ⟨fr,bx,tk⟩ x=aS m)(hy:St.ev ⟨fr,bx,tk⟩ y= .iv (.im (.int .u8 n))):VV P c ⟨fr,bx,tk⟩ ⟨some d,.call {callee:= .value (.func f),args:= #[x,y],argTypes:=ats},ty,pos,aft,none⟩ (aI (Lib.indexByte m n.toNat.toUInt8)) []:=
 fun st' kE kL=> .idxB U T.h ((kE x oO).trans hx) ((kE y oO).trans hy)
def GD(hx:St.ev ⟨fr,bx,tk⟩ x=aI m)(hy:St.ev ⟨fr,bx,tk⟩ y=aI 1):VV P c ⟨fr,bx,tk⟩ ⟨some d,.binOp .and t x y t',ty,pos,aft,none⟩ (aI (m % 2)) []:=
 fun st' T kL=> .and1 U ((T x oO).trans hx) ((T y oO).trans hy)
def Gq(hx:St.ev ⟨fr,bx,tk⟩ x=aI m)(hy:St.ev ⟨fr,bx,tk⟩ y=aI n):VV P c ⟨fr,bx,tk⟩ ⟨some d,.call {callee:= .builtin .min,args:= #[x,y],argTypes:= #[t,t']},ty,pos,aft,none⟩ (aI (if n<m then n else m)) []:=
 fun st' T kL=> .min2 U ((T x oO).trans hx) ((T y oO).trans hy)
def Jg{g:Nat}{x:IV}[ht:C1 P t false 1](hG:Glob gs c.E0 c.w0)(T:(g,[x])∈gs):VV P c ⟨fr,bx,tk⟩ ⟨some d,.load t (.global g),ty,pos,aft,none⟩ (.iv x) []:=
 fun st' kE kL=> .loadG U ht.h hG T
def fv{T:List AV}{b b':A5}(ad:Nat.ble (d+1) c.nt=true)[ar:A0 P f](hG:Glob gs c.E0 c.w0)(hc:CallG gs P f T [(1000,b)] [(1000,b')] [] res)(ha:AV.pub.pubs (args.toList.map (St.ev ⟨fr,bx,tk⟩))=Nh)(h1:AV.rens (Abs.sws [(1000,q)]) T=Nh)(hb:bx.lookup q=some b)(aR:b.cs.isEmpty=false)(hm:AV.mentsIn [] b.cs=true)(a0:AV.mentsIn [] b'.cs=true)(hr:AV.mentIn [] res=true)
 (h:LW P c ⟨(d,res)::fr,(q,b')::bx,tk⟩ ops Q rest):LW P c ⟨fr,bx,tk⟩ ops Q (⟨some d,.call {callee:= .value (.func f),args:=args,argTypes:=ats},ty,pos,aft,none⟩::rest):=
 L.callG1 (st:=⟨fr,bx,tk⟩) U U ad U ar.h hG hc ha h1 hb aR hm a0 hr h
def jt{b b':A5}(T:Nat.ble (d+1) c.nt=true)[ad:A0 P f](hG:Glob gs c.E0 c.w0)(hc:CallG gs P f Nh [(q,b)] [(q,b')] [] res)(ha:AV.pub.pubs (args.toList.map (St.ev ⟨fr,bx,tk⟩))=Nh)(hb:bx.lookup q=some b)(ar:b.cs.isEmpty=false)(aR:AV.mentsIn [] b'.cs=true)(hr:AV.mentIn [] res=true)
 (h:LW P c ⟨(d,res)::fr,(q,b')::bx,tk⟩ ops Q rest):LW P c ⟨fr,bx,tk⟩ ops Q (⟨some d,.call {callee:= .value (.func f),args:=args,argTypes:=ats},ty,pos,aft,none⟩::rest):=
 L.callQ1 (st:=⟨fr,bx,tk⟩) U U T U ad.h hG hc ha hb ar aR hr h
def dK(T:Nat.ble (d+1) c.nt=true)[ad:A0 P f](hG:Glob gs c.E0 c.w0)(hc:CallG gs P f Nh [] [] [] res)(ha:AV.pub.pubs (args.toList.map (St.ev ⟨fr,bx,tk⟩))=Nh)
 (ar:AV.mentIn [] res=true) (h:LW P c ⟨(d,res)::fr,bx,tk⟩ ops Q rest):
 LW P c ⟨fr,bx,tk⟩ ops Q (⟨some d,.call {callee:= .value (.func f),args:=args,argTypes:=ats},ty,pos,aft,none⟩::rest):=
 L.callG0 (st:=⟨fr,bx,tk⟩) U U T hG U ad.h hc (.of_pub ha) ar h
def zN{f:Nat}(T:St.ev ⟨fr,bx,tk⟩ x= .agg cs)[hf:E9 P s f fo](hv:cs[fo]?=some v):VV P c ⟨fr,bx,tk⟩ ⟨some d,.field s x f,ty,pos,aft,none⟩ (v) []:=
 fun st' kE kL=> .fieldV U hf.h ((kE x oO).trans T) hv
def aA{caps:Array Operand}(hc:caps.toList.map (St.ev ⟨fr,bx,tk⟩)=cs):VV P c ⟨fr,bx,tk⟩ ⟨some d,.makeFunc (.func f) #[] caps,ty,pos,aft,none⟩ (.fn f cs) []:=
 fun st' T kL=>(((IY T (fun x hx=>by simp[Op.operands,hx])).trans hc)▸ .makeFunc U)
def aZ{avs caps:List AV}{bxi:List (Nat×A5)}(T:Nat.ble (d+1) c.nt=true)(hG:Glob gs c.E0 c.w0)(hx:St.ev ⟨fr,bx,tk⟩ x= .fn f caps)[ad:A0 P f]
 (hc:CallG gs P f (avs++caps) bxi bxi [] res) (ha:AV.pub.pubs (args.toList.map (St.ev ⟨fr,bx,tk⟩))=avs) (ar:E3 bx bxi) (aR:bxi.all (fun p=> !p.2.cs.isEmpty && AV.mentsIn (keys bxi) p.2.cs)=true) (a0:AV.mentIn (keys bxi) res=true)
 (h:LW P c ⟨(d,res)::fr,bxi++bx,tk⟩ ops Q rest):
 LW P c ⟨fr,bx,tk⟩ ops Q (⟨some d,.call {callee:= .value x,args:=args,argTypes:=ats},ty,pos,aft,none⟩::rest):=
 L.callFnG (st:=⟨fr,bx,tk⟩) U U T hG U hx ad.h hc (.of_pub ha) ar aR a0 h
def Ee(T:Nat.ble (d+1) c.nt=true)[hz:C2 P t zs](h1:zs.all (·.oneCell')=true)(hc:zs.map cy=cs)(hf:St.fresh d ⟨fr,bx,tk⟩=true)(hm:AV.ments d cs=false)
 (h:LW P c ⟨(d,.ptr d 0)::fr,(d,⟨t,cs⟩)::bx,tk⟩ ops Q rest):LW P c ⟨fr,bx,tk⟩ ops Q (⟨some d,.alloc t,ty,pos,aft,none⟩::rest):=by
 obtain⟨z,h2,h3⟩:=Cf hz.h;subst h3;subst hc;exact L.make (st:=⟨fr,bx,tk⟩) U U T (.alloc (i:=default) U h2 h1 hf hm) h
def mw{n k:Nat}{xs:List IV}(T:Nat.ble (d+1) c.nt=true)[hs:A8 P t e k][hz:C2 P e zs](h1:zs.all (·.oneCell')=true)(ad:zs.length=k)(hn:Nat.ble (n*k) 16777216=true)(ar:Nat.ble 1 k=true)(hf:lK (fun i=>some (i*k,k)) ((List.range (n*k)).map fun i=>cy (zs.getD (i % k) undef)) (parts.toList.map fun x=>(x.1,St.ev ⟨fr,bx,tk⟩ x.2))=some cs)(hx:tu cs=some xs)(aR:cs.length=n*k)(he:cY k n xs=es)(a0:St.fresh d ⟨fr,bx,tk⟩=true)
 (h:LW P c ⟨(d,.row d es)::fr,bx,(d,⟨e,k⟩)::tk⟩ ops Q rest):LW P c ⟨fr,bx,tk⟩ ops Q (⟨some d,.buildSlice t n parts,ty,pos,aft,none⟩::rest):=
 L.make (st:=⟨fr,bx,tk⟩) U U T (he▸ .buildSlice U hs.h hz.h h1 ad (bT hn) (bT ar) hf hx aR a0) h
def Eb{k:Nat}{b:A5}{agg:Bool}(hx:St.ev ⟨fr,bx,tk⟩ x= .ptr id off)(hy:St.ev ⟨fr,bx,tk⟩ y=v)[ht:C1 P t agg k](hb:bx.lookup id=some b)
 (hv:v.lays=true) (hk:v.cells.length=k) (T:Nat.ble (off+k) b.cs.length=true) (hc:lX b.cs off v.cells=cs)
 (h:LW P c ⟨fr,(id,⟨b.ty,cs⟩)::bx,tk⟩ ops Q rest):LW P c ⟨fr,bx,tk⟩ ops Q (⟨none,.store t x y,ty,pos,aft,none⟩::rest):=by
 subst hc;exact L.does (st:=⟨fr,bx,tk⟩) U U (.store U ht.h hx hb hy hv hk (bT T)) h
def bJ{k:Nat}(ar:Nat.ble (d+1) c.nt=true)
 (hx:St.ev ⟨fr,bx,tk⟩ x= .row id es) (aR:tk.lookup id=some ⟨e,k⟩) (hy:(St.ev ⟨fr,bx,tk⟩ y).sl?=some news) [ha:D7 P t e k bytes] [hs:A8 P t' e k] (a0: ∀e∈es,e.length=k) (T: ∀e∈news,e.length=k)
 (hm:es.length+news.length<=maxLen) (a1:(es.length+news.length)*bytes<=225000000000000) (hf:St.fresh d ⟨fr,bx,tk⟩=true) (he:es++news=es')
 (h:LW P c ⟨(d,.row d es')::fr,bx,(d,⟨e,k⟩)::delTok id tk⟩ ops Q rest):
 LW P c ⟨fr,bx,tk⟩ ops Q (⟨some d,.call {callee:= .builtin .append,args:= #[x,y],argTypes:= #[t,t']},ty,pos,aft,none⟩::rest):=by
 obtain⟨ht,ad,i,z,a2,a3,a4,a5,a6,a7⟩:=mW ha.h;subst he;exact L.make (st:=⟨fr,bx,tk⟩) U U ar (.append U ht a2 a3 a4 a5 a6 (aH hs.h).1 (.inl ⟨_,rfl⟩) ad (.inl ⟨hx,aR⟩) a0 T (.slice hy T ad) hm a1 a7 hf) h
def sK{k:Nat}(ar:Nat.ble (d+1) c.nt=true)
 (hx:St.ev ⟨fr,bx,tk⟩ x= .nils) (hy:(St.ev ⟨fr,bx,tk⟩ y).sl?=some news) [ha:D7 P t e k bytes] [hs:A8 P t' e k] (T: ∀e∈news,e.length=k)
 (hm:news.length<=maxLen) (aR:news.length*bytes<=225000000000000) (hf:St.fresh d ⟨fr,bx,tk⟩=true)
 (h:LW P c ⟨(d,.row d news)::fr,bx,(d,⟨e,k⟩)::delTok d tk⟩ ops Q rest):
 LW P c ⟨fr,bx,tk⟩ ops Q (⟨some d,.call {callee:= .builtin .append,args:= #[x,y],argTypes:= #[t,t']},ty,pos,aft,none⟩::rest):=by
 obtain⟨ht,ad,i,z,a0,a1,a2,a3,a4,a5⟩:=mW ha.h;exact L.make (st:=⟨fr,bx,tk⟩) U U ar (Makes.append (id:=d) U ht a0 a1 a2 a3 a4 (aH hs.h).1 (.inl ⟨_,rfl⟩) ad (.inr (.inl ⟨hx,rfl⟩)) sP T (.slice hy T ad) (by simpa using hm) (by simpa using aR) a5 hf) h
def xf{k:Nat}(ar:Nat.ble (d+1) c.nt=true)
 (hx:St.ev ⟨fr,bx,tk⟩ x= .emp) (hy:(St.ev ⟨fr,bx,tk⟩ y).sl?=some news) [ha:D7 P t e k bytes] [hs:A8 P t' e k] (T: ∀e∈news,e.length=k) (aR:news≠ [])
 (hm:news.length<=maxLen) (a0:news.length*bytes<=225000000000000) (hf:St.fresh d ⟨fr,bx,tk⟩=true)
 (h:LW P c ⟨(d,.row d news)::fr,bx,(d,⟨e,k⟩)::delTok d tk⟩ ops Q rest):
 LW P c ⟨fr,bx,tk⟩ ops Q (⟨some d,.call {callee:= .builtin .append,args:= #[x,y],argTypes:= #[t,t']},ty,pos,aft,none⟩::rest):=by
 obtain⟨ht,ad,i,z,a1,a2,a3,a4,a5,a6⟩:=mW ha.h;exact L.make (st:=⟨fr,bx,tk⟩) U U ar (Makes.append (id:=d) U ht a1 a2 a3 a4 a5 (aH hs.h).1 (.inl ⟨_,rfl⟩) ad (.inr (.inr ⟨hx,rfl,aR⟩)) sP T (.slice hy T ad) (by simpa using hm) (by simpa using a0) a6 hf) h
def Fj{s:List UInt8}(T:Nat.ble (d+1) c.nt=true)
 (hx:St.ev ⟨fr,bx,tk⟩ x= .row id es) (ad:tk.lookup id=some ⟨e,1⟩) (hy:St.ev ⟨fr,bx,tk⟩ y=aS s) [ha:D7 P t e 1 bytes] [hs:E7 P t'] (ar: ∀e∈es,e.length=1)
 (hm:es.length+s.length<=maxLen) (aR:(es.length+s.length)*bytes<=225000000000000) (hf:St.fresh d ⟨fr,bx,tk⟩=true) (he:(es++s.map fun b=> [IV.im (.int .u8 b.toNat)])=es')
 (h:LW P c ⟨(d,.row d es')::fr,bx,(d,⟨e,1⟩)::delTok id tk⟩ ops Q rest):
 LW P c ⟨fr,bx,tk⟩ ops Q (⟨some d,.call {callee:= .builtin .append,args:= #[x,y],argTypes:= #[t,t']},ty,pos,aft,none⟩::rest):=by
 obtain⟨ht,a0,i,z,a1,a2,a3,a4,a5,a6⟩:=mW ha.h;subst he;exact L.make (st:=⟨fr,bx,tk⟩) U U T (.append U ht a1 a2 a3 a4 a5 hs.h (.inr U) a0 (.inl ⟨hx,ad⟩) ar (fun e he=>by simp only[List.mem_map] at he;obtain⟨b,_,rfl⟩:=he;rfl) (.string hy) (by simpa using hm) (by simpa using aR) a6 hf) h
def gp(T:Nat.ble (d+1) c.nt=true)[ad:A0 P f](hc:CallA P f Nh [] [] [] res)(ha:AV.pub.pubs (args.toList.map (St.ev ⟨fr,bx,tk⟩))=Nh)
 (ar:AV.mentIn [] res=true) (h:LW P c ⟨(d,res)::fr,bx,tk⟩ ops Q rest):
 LW P c ⟨fr,bx,tk⟩ ops Q (⟨some d,.call {callee:= .value (.func f),args:=args,argTypes:=ats},ty,pos,aft,none⟩::rest):=
 L.call0 (st:=⟨fr,bx,tk⟩) U U T U ad.h hc (.of_pub ha) ar h
def xe{t:C9}(T:Nat.ble (d+1) c.nt=true)[ad:A0 P f](hc:CallA P f Nh [] [] [(d,t)] (.row d es))(ha:AV.pub.pubs (args.toList.map (St.ev ⟨fr,bx,tk⟩))=Nh)
 (hf:St.fresh d ⟨fr,bx,tk⟩=true) (h:LW P c ⟨(d,.row d es)::fr,bx,(d,t)::tk⟩ ops Q rest):
 LW P c ⟨fr,bx,tk⟩ ops Q (⟨some d,.call {callee:= .value (.func f),args:=args,argTypes:=ats},ty,pos,aft,none⟩::rest):=
 jr (st:=⟨fr,bx,tk⟩) [d] U U T U ad.h hc (.of_pub ha) .nil (by simp[hf]) U (by simp[keys]) U (by simp[AV.mentIn]) h
def Mq{dst:Option Tmp}{s:Nat}(T:(ops[j]?).bind (·.dst)=some s)(hb:st.ev (.tmp s)=aB b')(he:b'=b)
 (h:LW P c st ops Q (⟨dst,op,ty,pos,aft,none⟩::rest)):LW P c st ops Q (⟨dst,op,ty,pos,aft,some (j,b)⟩::rest):=L.guardDo T (he▸hb) h
def An{s:Nat}(T:Nat.ble (d+1) c.nt=true)(hj:(ops[j]?).bind (·.dst)=some s)(hb:St.ev ⟨fr,bx,tk⟩ (.tmp s)=aB b')(he:b'=false)
 (h:LW P c ⟨(d,.opt false .any)::fr,bx,tk⟩ ops Q rest):LW P c ⟨fr,bx,tk⟩ ops Q (⟨some d,op,ty,pos,aft,some (j,true)⟩::rest):=L.guardSkip (st:=⟨fr,bx,tk⟩) T hj hb (by rw[he];simp) h
def Ao{s:Nat}(T:Nat.ble (d+1) c.nt=true)(hj:(ops[j]?).bind (·.dst)=some s)(hb:St.ev ⟨fr,bx,tk⟩ (.tmp s)=aB b')(he:b'=true)
 (h:LW P c ⟨(d,.opt false .any)::fr,bx,tk⟩ ops Q rest):LW P c ⟨fr,bx,tk⟩ ops Q (⟨some d,op,ty,pos,aft,some (j,false)⟩::rest):=L.guardSkip (st:=⟨fr,bx,tk⟩) T hj hb (by rw[he];simp) h
def Am{s:Nat}(T:Nat.ble (d+1) c.nt=true)(hj:(ops[j]?).bind (·.dst)=some s)(hb:St.ev ⟨fr,bx,tk⟩ (.tmp s)= .opt false .any)
 (h:LW P c ⟨(d,.opt false .any)::fr,bx,tk⟩ ops Q rest):LW P c ⟨fr,bx,tk⟩ ops Q (⟨some d,op,ty,pos,aft,some (j,b)⟩::rest):=L.guardSkipU (st:=⟨fr,bx,tk⟩) T hj hb h
def Hg{o:Oper}{s:Nat}(hj:(ops[j]?).bind (·.dst)=some s)(hg:o.guard=some (j,b))(hb:st.ev (.tmp s)=aB b')(T:b'=true->LW P c st ops Q (o::rest))(hF:b'=false->LW P c st ops Q (o::rest)):LW P c st ops Q (o::rest):=by
 cases b'
 · exact hF U
 · exact T U
def DL(hx:St.ev ⟨fr,bx,tk⟩ x=aB b)(hb:b=true)(hy:St.ev ⟨fr,bx,tk⟩ y=v):VV P c ⟨fr,bx,tk⟩ ⟨some d,.pick x y z,ty,pos,aft,none⟩ (v) []:=
 fun st' T kL=>((T y oO).trans hy)▸ .pickT U (hb▸((T x oO).trans hx))
def DM(hx:St.ev ⟨fr,bx,tk⟩ x=aB b)(hb:b=false)(hy:St.ev ⟨fr,bx,tk⟩ z=v):VV P c ⟨fr,bx,tk⟩ ⟨some d,.pick x y z,ty,pos,aft,none⟩ (v) []:=
 fun st' T kL=>((T z oO).trans hy)▸ .pickF U (hb▸((T x oO).trans hx))
def MM{x y:Code}(h:L c st (x.wp P (Exit.then (y.wp P Q) Q))):L c st ((Code.seq x y).wp P Q):=fun a w hr=>wp_seq (h a w hr)
def Ky{y z:Code}(T:st.ev x=aB b)(hb:b=true)(h:L c st (y.wp P Q)):L c st ((Code.cond x y z).wp P Q):=KO (hb▸T) h
def Kz{y z:Code}(T:st.ev x=aB b)(hb:b=false)(h:L c st (z.wp P Q)):L c st ((Code.cond x y z).wp P Q):=KP (hb▸T) h
def Sub.of_eq{v':AV}(h:v=v'):Sub v v':=h▸Sub.refl v
def KK(hi:c.ins= []):Wk c st ⟨[],[],[]⟩:=Wk.mk' (by rw[hi];intro id h;cases h) .nil .nil .nil
def Hf{l:List Oper}(h:LW P c st l.toArray Q l):L c st ((Code.region id l.toArray false).wp P Q):=L.region h
def Ec(h:L c st (Q .normal)):LW P c st ops Q []:=h
end
end
def Hl(P:Program)(t:TypeId)(e:TypeId)(k bytes:Nat):Bool:=
 EN P t e k bytes && (match P.info? e with|some i=>(match i.zero with|some z=>z.cells.toList.all (·.oneCell')|none=>false)|none=>false)
def gT{P:Program}{t e:TypeId}{k bytes:Nat}(h:Hl P t e k bytes=true):
 P.underlying t=some (.slice e)/\0<k/\ ∃(i:TypeInfo) (z:Value),P.info? e=some i/\i.size=k/\i.bytes=bytes/\i.zero=some z/\z.cells.size=k/\ ∀u∈z.cells.toList,u.oneCell'=true:=by
 unfold Hl at h;simp only[aE] at h;obtain⟨h1,h2⟩:=h;obtain⟨hu,hk,i,z,hi,hs,hb,hz,T,_⟩:=mW h1;rw[hi] at h2;simp only[hz] at h2;exact⟨hu,hk,i,z,hi,hs,hb,hz,T,fun u hu=>aT h2 u hu⟩
class D6 (P:Program) (t:TypeId) (e:outParam TypeId) (k bytes:outParam Nat):Prop where
 h:Hl P t e k bytes=true
class G0 (P:Program) (f:FuncId) (t tr:outParam TypeId):Prop where
 h:sY P f (Extern.SlicesOverlaps.overlaps #[t,t] #[tr])
section
variable {P:Program}{c:C7}{fr:List (Nat×AV)}{bx:List (Nat×A5)}{tk:List (Nat×C9)}{ops:Array Oper}{Q:Exit->Act->World->Prop}{rest:List Oper}
 {d:Nat} {ty:TypeId} {pos:String} {aft:Array Edge}
section
variable {a bytes cap cap' i i' id id' k k' m mm mm' mr n n' off off':Nat}{args:Array Operand}{Nh:List AV}{ats:Array TypeId}{bt bt' e e' t t':TypeId}{er es es':List (List IV)}{f:FuncId}{j:Int}{kd kd':IntKind}{x y z:Operand}{xs ys:List IV}{zs:List Value}
def zK(T:St.ev ⟨fr,bx,tk⟩ x= .bsl id off n cap)[hs:A8 P t e k]:VV P c ⟨fr,bx,tk⟩ ⟨some d,.call {callee:= .builtin .len,args:= #[x],argTypes:= #[t]},ty,pos,aft,none⟩ (aI n) []:=
 fun st' kE kL=> .lenBsl U hs.h ((kE x oO).trans T)
def zL(T:St.ev ⟨fr,bx,tk⟩ x= .bsh id off n k')[hs:A8 P t e k]:VV P c ⟨fr,bx,tk⟩ ⟨some d,.call {callee:= .builtin .len,args:= #[x],argTypes:= #[t]},ty,pos,aft,none⟩ (aI n) []:=
 fun st' kE kL=> .lenBsh U hs.h ((kE x oO).trans T)
def zU(T:St.ev ⟨fr,bx,tk⟩ x= .bsl id off n cap)[hs:A8 P t e k]:VV P c ⟨fr,bx,tk⟩ ⟨some d,.call {callee:= .builtin .cap,args:= #[x],argTypes:= #[t]},ty,pos,aft,none⟩ (aI cap) []:=
 fun st' kE kL=> .capBsl U hs.h ((kE x oO).trans T)
def cD{i:Operand}(hx:St.ev ⟨fr,bx,tk⟩ x= .bsl id off n cap)(hj:St.ev ⟨fr,bx,tk⟩ i= .iv (.im (.int kd j)))[hs:A8 P t e k](h0:0<=j)(h1:j<n)(ho:off+j.toNat*k=off'):VV P c ⟨fr,bx,tk⟩ ⟨some d,.indexAddr t x i,ty,pos,aft,none⟩ (.ptr id off') []:=
 fun st' T kL=>ho▸ .indexBsl U hs.h ((T x oO).trans hx) ((T i oO).trans hj) h0 h1
def ay{i:Operand}(hx:St.ev ⟨fr,bx,tk⟩ x= .bsh id off n k)(hj:St.ev ⟨fr,bx,tk⟩ i= .iv (.im (.int kd j)))[hs:A8 P t e k](h0:0<=j)(h1:j<n)(ho:(off+j.toNat)*k=off'):VV P c ⟨fr,bx,tk⟩ ⟨some d,.indexAddr t x i,ty,pos,aft,none⟩ (.ptr id off') []:=
 fun st' T kL=>ho▸ .indexBsh U hs.h ((T x oO).trans hx) ((T i oO).trans hj) h0 h1
def cx(hx:St.ev ⟨fr,bx,tk⟩ x= .bsl id off n cap)(hy:St.ev ⟨fr,bx,tk⟩ y= .iv (.im (.int kd j)))[hs:A8 P t e k](h0:0<=j)(h1:j<=n)(e1:off+j.toNat*k=off')(e2:n - j.toNat=n')(e3:cap - j.toNat=cap'):VV P c ⟨fr,bx,tk⟩ ⟨some d,.slice t x (some y) none none,ty,pos,aft,none⟩ (.bsl id off' n' cap') []:=
 fun st' T kL=>e1▸e2▸e3▸ .slBl U ((T x oO).trans hx) ((T y oO).trans hy) hs.h h0 h1
def fa(hx:St.ev ⟨fr,bx,tk⟩ x= .bsl id off n cap)(hy:St.ev ⟨fr,bx,tk⟩ y= .iv (.im (.int kd j)))[hs:A8 P t e k](h0:0<=j)(h1:j<=cap)(e2:j.toNat=n'):VV P c ⟨fr,bx,tk⟩ ⟨some d,.slice t x none (some y) none,ty,pos,aft,none⟩ (.bsl id off n' cap) []:=
 fun st' T kL=>e2▸ .slBh U ((T x oO).trans hx) ((T y oO).trans hy) hs.h h0 h1
def tG{i:Int}(hx:St.ev ⟨fr,bx,tk⟩ x= .bsl id off n cap)(hy:St.ev ⟨fr,bx,tk⟩ y= .iv (.im (.int kd i)))(hz:St.ev ⟨fr,bx,tk⟩ z= .iv (.im (.int kd' j)))[hs:A8 P t e k](h0:0<=i)(h1:i<=j)(h2:j<=cap)(e1:off+i.toNat*k=off')(e2:j.toNat - i.toNat=n')(e3:cap - i.toNat=cap'):VV P c ⟨fr,bx,tk⟩ ⟨some d,.slice t x (some y) (some z) none,ty,pos,aft,none⟩ (.bsl id off' n' cap') []:=
 fun st' T kL=>e1▸e2▸e3▸ .slBlh U ((T x oO).trans hx) ((T y oO).trans hy) ((T z oO).trans hz) hs.h h0 h1 h2
def yr{u:Operand}{T:IntKind}{i m:Int}(hx:St.ev ⟨fr,bx,tk⟩ x= .bsl id off n cap)(hy:St.ev ⟨fr,bx,tk⟩ y= .iv (.im (.int kd i)))(hz:St.ev ⟨fr,bx,tk⟩ z= .iv (.im (.int kd' j)))(hu:St.ev ⟨fr,bx,tk⟩ u= .iv (.im (.int T m)))[hs:A8 P t e k](h0:0<=i)(h1:i<=j)(h2:j<=m)(h3:m<=cap):VV P c ⟨fr,bx,tk⟩ ⟨some d,.slice t x (some y) (some z) (some u),ty,pos,aft,none⟩ (.bsl id (off+i.toNat*k) (j.toNat - i.toNat) (m.toNat - i.toNat)) []:=
 fun st' kE kL=> .slB3 U ((kE x oO).trans hx) ((kE y oO).trans hy) ((kE z oO).trans hz) ((kE u oO).trans hu) hs.h h0 h1 h2 h3
def jZ(hx:(St.ev ⟨fr,bx,tk⟩ x).sl?=some es)(hy:St.ev ⟨fr,bx,tk⟩ y= .nils)[hs:A8 P t e k](T:es≠ []):VV P c ⟨fr,bx,tk⟩ ⟨some d,.binOp .eql t x y t',ty,pos,aft,none⟩ (aB false) []:=
 fun st' kE kL=> .eqlNil U ((congrArg AV.sl? (kE x oO)).trans hx) ((kE y oO).trans hy) hs.h T
def Li(hx:(St.ev ⟨fr,bx,tk⟩ x).sl?=some [])(hy:(St.ev ⟨fr,bx,tk⟩ y).sl?=some [])[hs:A8 P t e k][T:A8 P t' e' k']:VV P c ⟨fr,bx,tk⟩ ⟨some d,.call {callee:= .builtin .append,args:= #[x,y],argTypes:= #[t,t']},ty,pos,aft,none⟩ (.iv (.sl [])) []:=
 fun st' kE kL=> .app0 U hs.h T.h ((congrArg AV.sl? (kE x oO)).trans hx) ((congrArg AV.sl? (kE y oO)).trans hy)
def bc{f:Nat}{e:List IV}{y:IV}(T:St.ev ⟨fr,bx,tk⟩ x= .ptr id off)[ht:C1 P t false 1](hb:bx.lookup id=some ⟨bt,.r es.flatten mm⟩)(hk: ∀e∈es,e.length=k)(ho:off=i*k+f)(he:es[i]?=some e)(hf:e[f]?=some y):VV P c ⟨fr,bx,tk⟩ ⟨some d,.load t x,ty,pos,aft,none⟩ (.iv y) [id]:=
 fun st' kE kL=> .load1R U ht.h ((kE x oO).trans T) ((kL id sP).trans hb) hk ho he hf
def js{e:List IV}{vs:List AV}(T:St.ev ⟨fr,bx,tk⟩ x= .ptr id off)[ht:C1 P t true k](hb:bx.lookup id=some ⟨bt,.r es.flatten mm⟩)(hk: ∀e∈es,e.length=k)(ho:off=i*k)(he:es[i]?=some e)(hv:e.map AV.iv=vs):VV P c ⟨fr,bx,tk⟩ ⟨some d,.load t x,ty,pos,aft,none⟩ (.agg vs) [id]:=
 fun st' kE kL=> .loadAR U ht.h ((kE x oO).trans T) ((kL id sP).trans hb) hk ho he hv
def lr{tr:TypeId}{j T ad ar:Nat}(hx:St.ev ⟨fr,bx,tk⟩ x= .bsl i T n cap)(hy:St.ev ⟨fr,bx,tk⟩ y= .bsl j ad m ar)[a0:G0 P f t tr][hs:A8 P t e k](a1:(i==j)=false)(hb:bx.lookup i=some ⟨bt,.r xs mm⟩)(a2:bx.lookup j=some ⟨bt',.r ys mm'⟩)(aR:cap≠0)(a3:T<xs.length)(a4:ys≠ []):VV P c ⟨fr,bx,tk⟩ ⟨some d,.call {callee:= .value (.func f),args:= #[x,y],argTypes:=ats},ty,pos,aft,none⟩ (aB false) [i,j]:=
 fun st' kE kL=> .overlapsR U a0.h hs.h ((kE x oO).trans hx) ((kE y oO).trans hy) (by simpa using a1) ((kL i sP).trans hb) ((kL j sP).trans a2) aR a3 a4
def ii{cnt:Nat}(a0:Nat.ble (d+1) c.nt=true)(hx:St.ev ⟨fr,bx,tk⟩ x= .bsl id off n cap)(hy:St.ev ⟨fr,bx,tk⟩ y= .bsl id' off' n' cap')[hs:A8 P t e k](hb:bx.lookup id=some ⟨bt,.r es.flatten mm⟩)(a1:bx.lookup id'=some ⟨bt',.r es'.flatten mm'⟩)(hk: ∀e∈es,e.length=k)(a2: ∀e∈es',e.length=k)(a3:0<k)(ad:off=i*k)(T:off'=i'*k)(ar:Nat.min n' n=cnt)(aR:0<cnt)(a4:(i'+n')*k<=es'.length*k+mm')(a5:i'+cnt<=es'.length)(hi:i<=es.length)(hm:(i+cnt)*k<=es.length*k+mm)(a6:es.take i++((es'.drop i').take cnt++es.drop (i+cnt))=er)(a7:mm - (i+cnt - es.length)*k=mr)
 (h:LW P c ⟨(d,aI cnt)::fr,(id,⟨bt,.r er.flatten mr⟩)::bx,tk⟩ ops Q rest):LW P c ⟨fr,bx,tk⟩ ops Q (⟨some d,.call {callee:= .builtin .copy,args:= #[x,y],argTypes:= #[t,t']},ty,pos,aft,none⟩::rest):=
 L.make (st:=⟨fr,bx,tk⟩) U U a0 (a6▸a7▸ .copyRR U hs.h hx hb hy a1 hk a2 a3 ad T ar aR a4 a5 hi hm) h
def nT{k2 nr:Nat}(ar:Nat.ble (d+1) c.nt=true)(hx:St.ev ⟨fr,bx,tk⟩ x= .bsl id 0 n cap)(hy:St.ev ⟨fr,bx,tk⟩ y= .bsl id' off' n' cap')[hr:D6 P t e k bytes][aR:A8 P t' e' k2](hb:bx.lookup id=some ⟨bt,.r es.flatten mm⟩)(a0:bx.lookup id'=some ⟨bt',.r es'.flatten mm'⟩)(a1:es.flatten≠ [] \/0<mm)(hk: ∀e∈es,e.length=k)(a2: ∀e∈es',e.length=k)(T:off'=i'*k)(a3:i'+n'<=es'.length)(a4:0<cap)(ad:n+n'<=cap)(hi:n<=es.length)(hm:(n+n')*k<=es.length*k+mm)(a5:es.take n++((es'.drop i').take n'++es.drop (n+n'))=er)(a6:mm - (n+n' - es.length)*k=mr)(a7:n+n'=nr)
 (h:LW P c ⟨(d,.bsl id 0 nr cap)::fr,(id,⟨bt,.r er.flatten mr⟩)::bx,tk⟩ ops Q rest):LW P c ⟨fr,bx,tk⟩ ops Q (⟨some d,.call {callee:= .builtin .append,args:= #[x,y],argTypes:= #[t,t']},ty,pos,aft,none⟩::rest):=by
 obtain⟨ht,ba,i0,z,a8,a9,bh,bi,bl,bm⟩:=gT hr.h;subst a5;subst a6;subst a7;exact L.make (st:=⟨fr,bx,tk⟩) U U ar (.roomRR U ht a8 a9 (aH aR.h).1 (.inl ⟨_,rfl⟩) hx hb (Go.Abs.row_ne a1) hy a0 hk a2 T a3 a4 ad hi hm) h
def qz(N:Nat){t t' e e':TypeId}{x y:Operand}{k k2 bytes n id cap mm nr id' off' n' cap' mm' i':Nat}{bt bt':TypeId}{es es' er:List (List IV)}(a1:Nat.ble (d+1) c.nt=true)(hx:St.ev ⟨fr,bx,tk⟩ x= .bsl id 0 n cap)(hy:St.ev ⟨fr,bx,tk⟩ y= .bsl id' off' n' cap')[hr:D6 P t e k bytes][a2:A8 P t' e' k2](hb:bx.lookup id=some ⟨bt,.r es.flatten mm⟩)(a3:bx.lookup id'=some ⟨bt',.r es'.flatten mm'⟩)(hk: ∀e∈es,e.length=k)(ar: ∀e∈es',e.length=k)(ad:off'=i'*k)(a4:0<n')(a5:i'+n'<=es'.length)(hi:n<=es.length)(aR:cap<n+n')(hm:n+n'<=maxLen)(a6:(n+n')*bytes<=140737488355328)(hf:St.fresh N ⟨fr,bx,tk⟩=true)(a7:es.take n++(es'.drop i').take n'=er)(a8:n+n'=nr)
 (h:LW P c ⟨(d,.bsh N 0 nr k)::fr,(N,⟨e,.r er.flatten 0⟩)::bx,tk⟩ ops Q rest):LW P c ⟨fr,bx,tk⟩ ops Q (⟨some d,.call {callee:= .builtin .append,args:= #[x,y],argTypes:= #[t,t']},ty,pos,aft,none⟩::rest):=by
 obtain⟨ht,a0,i0,z,a9,ba,bh,bi,bl,bm⟩:=gT hr.h;have T:((es'.drop i').take n').length=n':=by rw[lT,lD];omega
 have hM:=Makes.growR (P:=P) (c:=c) (st:=⟨fr,bx,tk⟩) (o:=⟨some d,.call {callee:= .builtin .append,args:= #[x,y],argTypes:= #[t,t']},ty,pos,aft,none⟩) (id':=N) U ht a9 ba bh bi bl bm (aH a2.h).1 (.inl ⟨_,rfl⟩) a0 hx hb hk hi (by rw[T];exact aR) (bv (bN ar)) (.row hy a3 ar a0 ad a4 a5) (fun e=>by rw[e] at T;simp at T;omega) (by rw[T];exact hm) (by rw[T];exact a6) hf;rw[T] at hM;subst a7;subst a8;exact L.make (st:=⟨fr,bx,tk⟩) U U a1 hM h
def qy(N:Nat){t t' e:TypeId}{kd kd':IntKind}{x y:Operand}{m k bytes n id cap mm nr mr:Nat}{j:Int}{bt:TypeId}{es er:List (List IV)}(ar:Nat.ble (d+1) c.nt=true)(hx:St.ev ⟨fr,bx,tk⟩ x= .bsl id 0 n cap)(hy:St.ev ⟨fr,bx,tk⟩ y= .iv (.im (.int kd' j)))(hj:j=(m:Int))[hr:D6 P t e k bytes][aR:D9 P t' kd](hb:bx.lookup id=some ⟨bt,.r es.flatten mm⟩)(hk: ∀e∈es,e.length=k)(hi:n<=es.length)(T:cap<n+m)(ad:0<m)(hm:n+m<=maxLen)(a0:(n+m)*bytes<=140737488355328)(hf:St.fresh N ⟨fr,bx,tk⟩=true)(a1:es.take n=er)(a2:n+m=nr)(a3:m*k=mr)
 (h:LW P c ⟨(d,.bsh N 0 nr k)::fr,(N,⟨e,.r er.flatten mr⟩)::bx,tk⟩ ops Q rest):LW P c ⟨fr,bx,tk⟩ ops Q (⟨some d,.call {callee:= .builtin .append,args:= #[x,y],argTypes:= #[t,t']},ty,pos,aft,none⟩::rest):=by
 obtain⟨ht,a4,i0,z,a5,a6,a7,a8,a9,ba⟩:=gT hr.h;subst a1;subst a2;subst a3;subst hj;exact L.make (st:=⟨fr,bx,tk⟩) U U ar (.growRZ U ht a5 a6 a7 a8 a9 ba aR.h a4 hx hb hk hi T hy ad hm a0 hf) h
def kC(N:Nat){t t' e e':TypeId}{x y:Operand}{k k2 bytes id off:Nat}{news:List (List IV)}(ar:Nat.ble (d+1) c.nt=true)(hx:St.ev ⟨fr,bx,tk⟩ x= .bsl id off 0 0)(hy:(St.ev ⟨fr,bx,tk⟩ y).sl?=some news)[hr:D6 P t e k bytes][aR:A8 P t' e' k2](T: ∀e∈news,e.length=k)(a0:news≠ [])(hm:news.length<=maxLen)(a1:news.length*bytes<=140737488355328)(hf:St.fresh N ⟨fr,bx,tk⟩=true)
 (h:LW P c ⟨(d,.bsh N 0 news.length k)::fr,(N,⟨e,.r news.flatten 0⟩)::bx,tk⟩ ops Q rest):LW P c ⟨fr,bx,tk⟩ ops Q (⟨some d,.call {callee:= .builtin .append,args:= #[x,y],argTypes:= #[t,t']},ty,pos,aft,none⟩::rest):=by
 obtain⟨ht,ad,i0,z,a2,a3,a4,a5,a6,a7⟩:=gT hr.h;exact L.make (st:=⟨fr,bx,tk⟩) U U ar (.cloneR U ht a2 a3 a4 a5 a6 a7 (aH aR.h).1 (.inl ⟨_,rfl⟩) ad hx T (.slice hy T ad) a0 hm a1 hf) h
def nU(N:Nat){t t' e e':TypeId}{x y:Operand}{k k2 bytes:Nat}{news:List (List IV)}(ar:Nat.ble (d+1) c.nt=true)(hx:St.ev ⟨fr,bx,tk⟩ x= .nils)(hy:(St.ev ⟨fr,bx,tk⟩ y).sl?=some news)[hr:D6 P t e k bytes][aR:A8 P t' e' k2](T: ∀e∈news,e.length=k)(a0:news≠ [])(hm:news.length<=maxLen)(a1:news.length*bytes<=140737488355328)(hf:St.fresh N ⟨fr,bx,tk⟩=true)
 (h:LW P c ⟨(d,.bsh N 0 news.length k)::fr,(N,⟨e,.r news.flatten 0⟩)::bx,tk⟩ ops Q rest):LW P c ⟨fr,bx,tk⟩ ops Q (⟨some d,.call {callee:= .builtin .append,args:= #[x,y],argTypes:= #[t,t']},ty,pos,aft,none⟩::rest):=by
 obtain⟨ht,ad,i0,z,a2,a3,a4,a5,a6,a7⟩:=gT hr.h;exact L.make (st:=⟨fr,bx,tk⟩) U U ar (.nilR U ht a2 a3 a4 a5 a6 a7 (aH aR.h).1 (.inl ⟨_,rfl⟩) ad hx T (.slice hy T ad) a0 hm a1 hf) h
def nN(T:St.ev ⟨fr,bx,tk⟩ x= .nils)[hs:A8 P t e k]:VV P c ⟨fr,bx,tk⟩ ⟨some d,.call {callee:= .builtin .cap,args:= #[x],argTypes:= #[t]},ty,pos,aft,none⟩ (aI 0) []:=
 fun st' kE kL=> .capNil U hs.h ((kE x oO).trans T)
def yq(hx:St.ev ⟨fr,bx,tk⟩ x= .nils)(hy:St.ev ⟨fr,bx,tk⟩ y= .iv (.im (.int kd j)))[hs:A8 P t e k](h0:j=0):VV P c ⟨fr,bx,tk⟩ ⟨some d,.slice t x none (some y) none,ty,pos,aft,none⟩ (.nils) []:=
 fun st' T kL=> .slNil U ((T x oO).trans hx) ((T y oO).trans hy) hs.h h0
def uc(hx:St.ev ⟨fr,bx,tk⟩ x= .bsh id 0 n k)(hy:St.ev ⟨fr,bx,tk⟩ y= .iv (.im (.int kd j)))[hs:A8 P t e k](h0:0<=j)(h1:j<=n)(e2:j.toNat=n'):VV P c ⟨fr,bx,tk⟩ ⟨some d,.slice t x none (some y) none,ty,pos,aft,none⟩ (.bsh id 0 n' k) []:=
 fun st' T kL=>e2▸ .slBshH U ((T x oO).trans hx) ((T y oO).trans hy) hs.h h0 h1
def uv(N:Nat){t t' e:TypeId}{kd kd':IntKind}{x y:Operand}{m k bytes mr:Nat}{j:Int}(ad:Nat.ble (d+1) c.nt=true)(hx:St.ev ⟨fr,bx,tk⟩ x= .nils)(hy:St.ev ⟨fr,bx,tk⟩ y= .iv (.im (.int kd' j)))(hj:j=(m:Int))[hr:D6 P t e k bytes][ar:D9 P t' kd](T:0<m)(hm:m<=maxLen)(aR:m*bytes<=140737488355328)(hf:St.fresh N ⟨fr,bx,tk⟩=true)(a0:m*k=mr)
 (h:LW P c ⟨(d,.bsh N 0 m k)::fr,(N,⟨e,.r [] mr⟩)::bx,tk⟩ ops Q rest):LW P c ⟨fr,bx,tk⟩ ops Q (⟨some d,.call {callee:= .builtin .append,args:= #[x,y],argTypes:= #[t,t']},ty,pos,aft,none⟩::rest):=by
 obtain⟨ht,a1,i0,z,a2,a3,a4,a5,a6,a7⟩:=gT hr.h;subst a0;subst hj;exact L.make (st:=⟨fr,bx,tk⟩) U U ad (.growNZ U ht a2 a3 a4 a5 a6 a7 ar.h a1 hx hy T hm aR hf) h
def eU(N:Nat){t t' e e':TypeId}{x y:Operand}{k k2 bytes n id mm nr:Nat}{es news er:List (List IV)}(ar:Nat.ble (d+1) c.nt=true)(hx:St.ev ⟨fr,bx,tk⟩ x= .bsh id 0 n k)(hy:(St.ev ⟨fr,bx,tk⟩ y).sl?=some news)[hr:D6 P t e k bytes][aR:A8 P t' e' k2](hb:bx.lookup id=some ⟨e,.r es.flatten mm⟩)(a0:es.flatten≠ [] \/0<mm)(hk: ∀e∈es,e.length=k)(T: ∀e∈news,e.length=k)(hi:n<=es.length)(a1:news≠ [])(hm:n+news.length<=maxLen)(a2:(n+news.length)*bytes<=140737488355328)(hf:St.fresh N ⟨fr,bx,tk⟩=true)(a3:es.take n++news=er)(a4:n+news.length=nr)
 (h:LW P c ⟨(d,.bsh N 0 nr k)::fr,(N,⟨e,.r er.flatten 0⟩)::(id,⟨e,.l []⟩)::bx,tk⟩ ops Q rest):LW P c ⟨fr,bx,tk⟩ ops Q (⟨some d,.call {callee:= .builtin .append,args:= #[x,y],argTypes:= #[t,t']},ty,pos,aft,none⟩::rest):=by
 obtain⟨ht,ad,i0,z,a5,a6,a7,a8,a9,ba⟩:=gT hr.h;subst a3;subst a4;exact L.appendH (st:=⟨fr,bx,tk⟩) N U U ar U ht a5 a6 a7 a8 a9 ba (aH aR.h).1 (.inl ⟨_,rfl⟩) ad hx hb a0 hk hi T (.slice hy T ad) a1 hm a2 hf h
def Ed(N:Nat){f:FuncId}{args:Array Operand}{ats:Array TypeId}{Nh:List AV}{q a k n n':Nat}{t1 t2:TypeId}{xs ys:List IV}{res:AV}(T:Nat.ble (d+1) c.nt=true)[ad:A0 P f]
 (hc:CallA P f (.ptr 1000 0::Nh) [(1000,⟨t1,.l [.bsh 1001 0 n k]⟩),(1001,⟨t2,.r xs 0⟩)] [(1000,⟨t1,.l [.bsh 1002 0 n' k]⟩),(1002,⟨t2,.r ys 0⟩),(1001,⟨t2,.l []⟩)] [] res)
 (ha:AV.pub.pubs (args.toList.map (St.ev ⟨fr,bx,tk⟩))= .ptr q 0::Nh) (hb:bx.lookup q=some ⟨t1,.l [.bsh a 0 n k]⟩) (ar:bx.lookup a=some ⟨t2,.r xs 0⟩) (aR:xs≠ []) (a0:(q==a)=false) (hm:AV.mentsIn [] Nh=true) (hr:AV.mentIn [] res=true) (hf:St.fresh N ⟨fr,bx,tk⟩=true)
 (h:LW P c ⟨(d,res)::fr,(q,⟨t1,.l [.bsh N 0 n' k]⟩)::(N,⟨t2,.r ys 0⟩)::(a,⟨t2,.l []⟩)::bx,tk⟩ ops Q rest):LW P c ⟨fr,bx,tk⟩ ops Q (⟨some d,.call {callee:= .value (.func f),args:=args,argTypes:=ats},ty,pos,aft,none⟩::rest):=
 L.callJ (st:=⟨fr,bx,tk⟩) N U U T U ad.h hc ha hb ar aR a0 hm hr hf h
def Fi(T:Nat.ble (d+1) c.nt=true)[ad:A0 P f](hc:CallA P f Nh [] [(1000,⟨bt,.r xs m⟩)] [] (.bsh 1000 0 n k))(ha:args.toList.map (St.ev ⟨fr,bx,tk⟩)=Nh)(hm:AV.mentsIn [] Nh=true)(hf:St.fresh d ⟨fr,bx,tk⟩=true)
 (h:LW P c ⟨(d,.bsh d 0 n k)::fr,(d,⟨bt,.r xs m⟩)::bx,tk⟩ ops Q rest):LW P c ⟨fr,bx,tk⟩ ops Q (⟨some d,.call {callee:= .value (.func f),args:=args,argTypes:=ats},ty,pos,aft,none⟩::rest):=
 L.call01N (st:=⟨fr,bx,tk⟩) U U T U ad.h hc ha hm hf h
def eA(T:Nat.ble (d+1) c.nt=true)[hs:A8 P t e k][hz:C2 P e zs](h1:zs.all (·.oneCell')=true)(ad:zs.length=k)(ar:Nat.ble 1 k=true)(aR:St.fresh d ⟨fr,bx,tk⟩=true)
 (h:LW P c ⟨(d,.bsl d 0 0 0)::fr,(d,⟨e,.l []⟩)::bx,tk⟩ ops Q rest):LW P c ⟨fr,bx,tk⟩ ops Q (⟨some d,.buildSlice t 0 #[],ty,pos,aft,none⟩::rest):=
 L.make (st:=⟨fr,bx,tk⟩) U U T (.buildBox (cs:= []) U hs.h hz.h h1 ad sP (bT ar) (by simp[lK]) sP U aR) h
def nW{parts:Array (Nat×Operand)}{cs:List AV}(T:Nat.ble (d+1) c.nt=true)[hs:A8 P t e k][hz:C2 P e zs](h1:zs.all (·.oneCell')=true)(ad:zs.length=k)(hn:Nat.ble (n*k) 16777216=true)(ar:Nat.ble 1 k=true)(hf:lK (fun i=>some (i*k,k)) ((List.range (n*k)).map fun i=>cy (zs.getD (i % k) undef)) (parts.toList.map fun x=>(x.1,St.ev ⟨fr,bx,tk⟩ x.2))=some cs)(aR:cs=es.flatten.map AV.iv)(a0:es.flatten.length=n*k)(a1:St.fresh d ⟨fr,bx,tk⟩=true)
 (h:LW P c ⟨(d,.bsl d 0 n n)::fr,(d,⟨e,.r es.flatten 0⟩)::bx,tk⟩ ops Q rest):LW P c ⟨fr,bx,tk⟩ ops Q (⟨some d,.buildSlice t n parts,ty,pos,aft,none⟩::rest):=
 L.make (st:=⟨fr,bx,tk⟩) U U T (.buildR U hs.h hz.h h1 ad (bT hn) (bT ar) hf aR a0 a1) h
def dR{e:List IV}{v:AV}{agg:Bool}(hx:St.ev ⟨fr,bx,tk⟩ x= .ptr id off)(hy:St.ev ⟨fr,bx,tk⟩ y=v)[ht:C1 P t agg k](hb:bx.lookup id=some ⟨bt,.r es.flatten mm⟩)
 (hv:v.lays=true) (hc:v.cells=e.map AV.iv) (he:e.length=k) (hk: ∀e∈es,e.length=k) (ho:off=i*k) (hi:i<es.length) (T:es.set i e=er)
 (h:LW P c ⟨fr,(id,⟨bt,.r er.flatten mm⟩)::bx,tk⟩ ops Q rest):LW P c ⟨fr,bx,tk⟩ ops Q (⟨none,.store t x y,ty,pos,aft,none⟩::rest):=by
 subst T;exact L.does (st:=⟨fr,bx,tk⟩) U U (.storeR U ht.h hx hb hy hv hc he hk ho hi) h
def gf{j:Nat}(hx:St.ev ⟨fr,bx,tk⟩ x= .bsl id off n cap)[hr:D6 P t e k bytes](hb:bx.lookup id=some ⟨bt,.r es.flatten mm⟩)(hk: ∀e∈es,e.length=k)(T:off=j*k)(hj:j<=es.length)(ad:0<n)(ar:(j+n)*k<=es.length*k+mm)(aR:es.take j=er)(a0:es.length*k+mm - j*k=mr)
 (h:LW P c ⟨fr,(id,⟨bt,.r er.flatten mr⟩)::bx,tk⟩ ops Q rest):LW P c ⟨fr,bx,tk⟩ ops Q (⟨none,.call {callee:= .builtin .clear,args:= #[x],argTypes:= #[t]},ty,pos,aft,none⟩::rest):=by
 obtain⟨ht,a1,i0,z,a2,a6,a7,a3,a4,a5⟩:=gT hr.h;subst aR;subst a0;exact L.clearR (st:=⟨fr,bx,tk⟩) U U U ht a2 a3 a4 a5 a1 hx hb hk T hj ad ar h
def ju(T:Nat.ble (d+1) c.nt=true)[ad:A0 P f](hc:CallA P f Nh [] [(1000,⟨bt,.r xs 0⟩)] [] (.bsh 1000 0 n k))(ha:AV.pub.pubs (args.toList.map (St.ev ⟨fr,bx,tk⟩))=Nh)(hm:AV.mentsIn [] Nh=true)(hf:St.fresh d ⟨fr,bx,tk⟩=true)
 (h:LW P c ⟨(d,.bsh d 0 n k)::fr,(d,⟨bt,.r xs 0⟩)::bx,tk⟩ ops Q rest):LW P c ⟨fr,bx,tk⟩ ops Q (⟨some d,.call {callee:= .value (.func f),args:=args,argTypes:=ats},ty,pos,aft,none⟩::rest):=
 L.call01 (st:=⟨fr,bx,tk⟩) U U T U ad.h hc ha hm hf h
def mv{T:List IV}(ad:Nat.ble (d+1) c.nt=true)[ar:A0 P f](hc:CallA P f Nh [] [(1000,⟨bt,.r xs 0⟩),(1001,⟨bt',.r T 0⟩)] [] (.agg [.bsh 1000 0 n k,.bsh 1001 0 n' k']))(ha:AV.pub.pubs (args.toList.map (St.ev ⟨fr,bx,tk⟩))=Nh)(hm:AV.mentsIn [] Nh=true)(hf:St.fresh d ⟨fr,bx,tk⟩=true)(aR:St.fresh (d+2000) ⟨fr,bx,tk⟩=true)
 (h:LW P c ⟨(d,.agg [.bsh d 0 n k,.bsh (d+2000) 0 n' k'])::fr,(d,⟨bt,.r xs 0⟩)::(d+2000,⟨bt',.r T 0⟩)::bx,tk⟩ ops Q rest):LW P c ⟨fr,bx,tk⟩ ops Q (⟨some d,.call {callee:= .value (.func f),args:=args,argTypes:=ats},ty,pos,aft,none⟩::rest):=
 L.call02 (st:=⟨fr,bx,tk⟩) U U ad U ar.h hc ha hm hf aR h
def uz(T:Nat.ble (d+1) c.nt=true)[ad:A0 P f](hc:CallA P f (.bsh 1000 0 n k::Nh) [(1000,⟨bt,.r xs 0⟩)] [(1001,⟨bt,.r ys 0⟩),(1000,⟨bt,.l []⟩)] [] (.bsh 1001 0 n' k))(ha:AV.pub.pubs (args.toList.map (St.ev ⟨fr,bx,tk⟩))= .bsh a 0 n k::Nh)(hb:bx.lookup a=some ⟨bt,.r xs 0⟩)(ar:xs≠ [])(hm:AV.mentsIn [] Nh=true)(hf:St.fresh d ⟨fr,bx,tk⟩=true)
 (h:LW P c ⟨(d,.bsh d 0 n' k)::fr,(d,⟨bt,.r ys 0⟩)::(a,⟨bt,.l []⟩)::bx,tk⟩ ops Q rest):LW P c ⟨fr,bx,tk⟩ ops Q (⟨some d,.call {callee:= .value (.func f),args:=args,argTypes:=ats},ty,pos,aft,none⟩::rest):=
 L.call11 (st:=⟨fr,bx,tk⟩) U U T U ad.h hc ha hb ar hm hf h
def Ap{res:IV}(T:Nat.ble (d+1) c.nt=true)[ad:A0 P f](hc:CallA P f (.bsh 1000 0 n k::Nh) [(1000,⟨bt,.r xs 0⟩)] [(1000,⟨bt,.l []⟩)] [] (.iv res))(ha:AV.pub.pubs (args.toList.map (St.ev ⟨fr,bx,tk⟩))= .bsh a 0 n k::Nh)(hb:bx.lookup a=some ⟨bt,.r xs 0⟩)(ar:xs≠ [])(hm:AV.mentsIn [] Nh=true)
 (h:LW P c ⟨(d,.iv res)::fr,(a,⟨bt,.l []⟩)::bx,tk⟩ ops Q rest):LW P c ⟨fr,bx,tk⟩ ops Q (⟨some d,.call {callee:= .value (.func f),args:=args,argTypes:=ats},ty,pos,aft,none⟩::rest):=
 L.call10 (st:=⟨fr,bx,tk⟩) U U T U ad.h hc ha hb ar hm h
def nV{i:AV}{v:Nat}{vs:List IV}(T:Nat.ble (d+1) c.nt=true)[ad:A0 P f](hc:CallA P f [.bsh 1000 0 n k,i,.bsl 1001 0 m m] [(1000,⟨bt,.r xs 0⟩),(1001,⟨bt',.r vs 0⟩)] [(1002,⟨bt,.r ys 0⟩),(1000,⟨bt,.l []⟩),(1001,⟨bt',.l []⟩)] [] (.bsh 1002 0 n' k))(ha:AV.pub.pubs (args.toList.map (St.ev ⟨fr,bx,tk⟩))= [.bsh a 0 n k,i,.bsl v 0 m m])
 (hb:bx.lookup a=some ⟨bt,.r xs 0⟩) (ar:bx.lookup v=some ⟨bt',.r vs 0⟩) (aR:xs≠ []) (a0:vs≠ []) (a1:(a==v)=false) (hm:AV.mentIn [] i=true) (hf:St.fresh d ⟨fr,bx,tk⟩=true)
 (h:LW P c ⟨(d,.bsh d 0 n' k)::fr,(d,⟨bt,.r ys 0⟩)::(a,⟨bt,.l []⟩)::(v,⟨bt',.l []⟩)::bx,tk⟩ ops Q rest):LW P c ⟨fr,bx,tk⟩ ops Q (⟨some d,.call {callee:= .value (.func f),args:=args,argTypes:=ats},ty,pos,aft,none⟩::rest):=
 L.call21 (st:=⟨fr,bx,tk⟩) U U T U ad.h hc ha hb ar aR a0 a1 hm hf h
def mu(T:Nat.ble (d+1) c.nt=true)(hx:(St.ev ⟨fr,bx,tk⟩ x).sl?=some [])(hy:St.ev ⟨fr,bx,tk⟩ y= .nils)[hs:A8 P t e k]
 (h: ∀b,LW P c ⟨(d,aB b)::fr,bx,tk⟩ ops Q rest):LW P c ⟨fr,bx,tk⟩ ops Q (⟨some d,.binOp .eql t x y t',ty,pos,aft,none⟩::rest):=
 FW (st:=⟨fr,bx,tk⟩) U U T U hx hy hs.h h
end
end
attribute [irreducible] LW VV
structure D5 where
 val:Option (Nat×AV)
 nb:List (Nat×A5)
 nt:List (Nat×C9)
 dt:List Nat
 tb:List Nat
 tt:List Nat
 fs:List Nat
def Dl:List Nat->List (Nat×C9)->List (Nat×C9)
 | [],tk=>tk
 |id::l,tk=>Dl l (delTok id tk)
def D5.on(e:D5)(st:St):St:=⟨e.val.toList++st.fr,e.nb++st.bx,e.nt++Dl e.dt st.tk⟩
def D5.writes(e:D5):List Nat:=e.val.toList.map (fun p=>3*p.1)++(e.nb.map (fun p=>3*p.1+1)++(e.nt.map (fun p=>3*p.1+2)++e.dt.map (fun n=>3*n+2)))
def ly(o:Oper)(ops:Array Oper):List Nat:=
 (o.op.operands.toList.filterMap fun| .tmp t=>some (3*t)|_=>none)++(match o.guard with|some (j,_)=>((ops[j]?).bind (·.dst)).toList.map (3* ·)|none=> [])
def D5.reads(e:D5):List Nat:=e.tb.map (3* · +1)++e.tt.map (3* · +2)
def St.look(st:St)(κ:Nat):Option (AV ⊕ A5 ⊕ C9):=
 if κ % 3=0 then(st.fr.lookup (κ / 3)).map .inl else if κ % 3=1 then(st.bx.lookup (κ / 3)).map (.inr∘ .inl) else(st.tk.lookup (κ / 3)).map (.inr∘ .inr)
def jA(st:St)(s:Nat):st.look (3*s)=(st.fr.lookup s).map .inl:=by
 simp[St.look,Nat.mul_div_cancel_left]
def jz(st:St)(s:Nat):st.look (3*s+1)=(st.bx.lookup s).map (.inr∘ .inl):=by
 have h1:(3*s+1) % 3=1:=C;have h2:(3*s+1) / 3=s:=C;simp[St.look,h1,h2]
def jy(st:St)(s:Nat):st.look (3*s+2)=(st.tk.lookup s).map (.inr∘ .inr):=by
 have h1:(3*s+2) % 3=2:=C;have h2:(3*s+2) / 3=s:=C;simp[St.look,h1,h2]
section
variable {P:Program}{Q:Exit->Act->World->Prop}{S:Nat->Prop}{a:Act}{c:C7}{f:Nat->Bool}{i n κ:Nat}{l:List Oper}{o:Oper}{ops:Array Oper}{st st':St}{w:World}{β:Type}
def iw: ∀{l:List (Nat×β)} {s:Nat},s∉l.map (·.1)->l.lookup s=none
 | [],s,h=>rfl
 |(t,u)::l,s,h=>by
  simp only[List.map_cons,List.mem_cons,not_or] at h;rw[aa h.1];exact iw h.2
def iu: ∀{l:List (Nat×β)} {s:Nat},s∈l.map (·.1)-> ∃v,l.lookup s=some v
 | [],s,h=>by simp at h
 |(t,u)::l,s,h=>by
  by_cases e:s=t
  · exact⟨u,by rw[e];exact aj⟩
  · rw[aa e];exact iu (by simp only[List.map_cons,List.mem_cons] at h;exact h.resolve_left e)
def td(id:Nat): ∀(tk:List (Nat×C9)) (s:Nat),(delTok id tk).lookup s=if s=id then none else tk.lookup s
 | [],s=>by simp[delTok]
 |(t,u)::tk,s=>by
  have T:=td id tk s;unfold delTok at T|-;by_cases e:t=id
  · subst e;simp only[List.filter_cons,bne_self_eq_false,Bool.false_eq_true,if_false];rw[T];by_cases h:s=t
    · simp[h]
    · rw[aa h]
  · have hb:(t !=id)=true:=by simpa[bne] using e
    simp only[List.filter_cons,hb,if_true];by_cases h:s=t
    · subst h;rw[aj,aj,if_neg e]
    · rw[aa h,aa h,T]
def sr: ∀(l:List Nat) (tk:List (Nat×C9)) (s:Nat),(Dl l tk).lookup s=if l.contains s then none else tk.lookup s
 | [],tk,s=>by simp[Dl]
 |id::l,tk,s=>by
  rw[Dl,sr l,td];by_cases h:s=id
  · subst h;simp
  · simp[h]
def BB: ∀(l:List Nat) (tk:List (Nat×C9)) {p:Nat×C9},p∈Dl l tk->p∈tk
 | [],tk,p,h=>h
 |id::l,tk,p,h=>by
  have:=BB l _ h;unfold delTok at this;exact(List.mem_filter.1 this).1
def fC{e:D5}(h:κ∉e.writes):(e.on st).look κ=st.look κ:=by
 simp only[D5.writes,List.mem_append,List.mem_map,not_or,not_exists,not_and] at h;obtain⟨h0,h1,h2,h3⟩:=h;rcases(by omega:κ=3*(κ / 3)\/κ=3*(κ / 3)+1\/κ=3*(κ / 3)+2) with hk|hk|hk
 · rw[hk,jA,jA];simp only[D5.on,List.lookup_append];rw[iw (l:=e.val.toList) (fun hm=>by
    simp only[List.mem_map] at hm;obtain⟨p,T,he⟩:=hm;exact h0 p T C)]
   simp
 · rw[hk,jz,jz];simp only[D5.on,List.lookup_append];rw[iw (l:=e.nb) (fun hm=>by
    simp only[List.mem_map] at hm;obtain⟨p,T,he⟩:=hm;exact h1 p T C)]
   simp
 · rw[hk,jy,jy];simp only[D5.on,List.lookup_append];rw[iw (l:=e.nt) (fun hm=>by
    simp only[List.mem_map] at hm;obtain⟨p,T,he⟩:=hm;exact h2 p T C),sr,if_neg (fun hm=>h3 (κ / 3) (by simpa using hm) C)]
   simp
def oT{e:D5}(h:κ∈e.writes\/st'.look κ=st.look κ):(e.on st').look κ=(e.on st).look κ:=by
 by_cases hw:κ∈e.writes
 · clear h;simp only[D5.writes,List.mem_append,List.mem_map] at hw;rcases(by omega:κ=3*(κ / 3)\/κ=3*(κ / 3)+1\/κ=3*(κ / 3)+2) with hk|hk|hk
   · rw[hk,jA,jA];simp only[D5.on,List.lookup_append];have:κ / 3∈e.val.toList.map (·.1):=by
      rcases hw with⟨p,T,he⟩|⟨p,T,he⟩|⟨p,T,he⟩|⟨p,T,he⟩
      · exact List.mem_map.2 ⟨p,T,by omega⟩
      all_goals omega
     obtain⟨v,hv⟩:=iu this;rw[hv];simp
   · rw[hk,jz,jz];simp only[D5.on,List.lookup_append];have:κ / 3∈e.nb.map (·.1):=by
      rcases hw with⟨p,T,he⟩|⟨p,T,he⟩|⟨p,T,he⟩|⟨p,T,he⟩
      · omega
      · exact List.mem_map.2 ⟨p,T,by omega⟩
      all_goals omega
     obtain⟨v,hv⟩:=iu this;rw[hv];simp
   · rw[hk,jy,jy];simp only[D5.on,List.lookup_append,sr];by_cases hn:κ / 3∈e.nt.map (·.1)
     · obtain⟨v,hv⟩:=iu hn;rw[hv];simp
     · have:e.dt.contains (κ / 3)=true:=by
        rcases hw with⟨p,T,he⟩|⟨p,T,he⟩|⟨p,T,he⟩|⟨p,T,he⟩
        · omega
        · omega
        · exact(hn (List.mem_map.2 ⟨p,T,by omega⟩)).elim
        · have:p=κ / 3:=C;subst this;simpa using T
       rw[this];simp
 · rw[fC hw,fC hw];exact h.resolve_left hw
def R.look(h:R c st a w)(he: ∀κ,st'.look κ=st.look κ):R c st' a w:=by
 have h0: ∀s,st'.fr.lookup s=st.fr.lookup s:=fun s=>by
  have:=he (3*s);rw[jA,jA] at this;exact Option.map_injective (fun _ _ h=>by injection h) this
 have h1: ∀s,st'.bx.lookup s=st.bx.lookup s:=fun s=>by
  have:=he (3*s+1);rw[jz,jz] at this;exact Option.map_injective (fun _ _ h=>by simpa using h) this
 have h2: ∀s,st'.tk.lookup s=st.tk.lookup s:=fun s=>by
  have:=he (3*s+2);rw[jy,jy] at this;exact Option.map_injective (fun _ _ h=>by simpa using h) this
 have hh:=h;obtain⟨E,hi⟩:=hh;refine h.wk ⟨fun id T=>by rw[h1];exact(hi.heap.ins id T).2.2,fun s v hv=>⟨v,by rw[<-h0];exact hv,Sub.refl _⟩,fun id b hb=>⟨b,by rw[<-h1];exact hb,rfl,Subs.refl _⟩,fun id t ht=>by rw[<-h2];exact ht⟩
def xx:(Nat->Bool)->List D5->St->St
 |_,[],st=>st
 |f,e::r,st=>xx (fun j=>f (j+1)) r (if f 0 then e.on st else st)
def mJ: ∀(es:List D5) (f g:Nat->Bool) (st st':St),(∀(i:Nat) (e:D5),es[i]?=some e->f i=g i\/κ∉e.writes)->st.look κ=st'.look κ->(xx f es st).look κ=(xx g es st').look κ
 | [],_,_,_,_,_,h=>h
 |e::r,f,g,st,st',h,hs=>by
  simp only[xx];refine mJ r _ _ _ _ (fun i e' he=>h (i+1) e' (by simpa using he)) ?_;rcases h 0 e rfl with hb|T
  · rw[hb];cases g 0
    · exact hs
    · exact oT (.inr hs)
  · have h1:(if f 0=true then e.on st else st).look κ=st.look κ:=by cases f 0;rfl;exact fC T
    have h2:(if g 0=true then e.on st' else st').look κ=st'.look κ:=by cases g 0;rfl;exact fC T
    rw[h1,h2,hs]
def AJ: ∀(es:List D5) (f:Nat->Bool) (st X:St) (i:Nat) (e:D5),es[i]?=some e->f i=true->κ∈e.writes->(∀(j:Nat) (e':D5),i<j->es[j]?=some e'->f j=true->κ∉e'.writes)->(xx f es st).look κ=(e.on X).look κ
 | [],_,_,_,_,_,h,_,_,_=>by simp at h
 |e0::r,f,st,X,0,e,h,hf,hw,hl=>by
  simp only[List.getElem?_cons_zero,Option.some.injEq] at h;subst h;simp only[xx,hf,if_true];have:=mJ (κ:=κ) r (fun j=>f (j+1)) (fun _=>false) (e0.on st) (e0.on X) (fun j e' he=>by
   cases hb:f (j+1)
   · exact .inl U
   · exact .inr (hl (j+1) e' C (by simpa using he) hb)) (oT (.inl hw))
  rw[this];exact T r _
 |e0::r,f,st,X,i+1,e,h,hf,hw,hl=>by
  simp only[xx];exact AJ r _ _ X i e (by simpa using h) hf hw (fun j e' hj he hb=>hl (j+1) e' C (by simpa using he) hb)
 where T {κ:Nat}: ∀(es:List D5) (st:St),(xx (fun _=>false) es st).look κ=st.look κ
  | [],_=>rfl
  |e::r,st=>by simp only[xx];exact T r st
def rP: ∀(es:List D5) (st:St),xx (fun _=>false) es st=st
 | [],_=>rfl
 |e::r,st=>by simp only[xx];exact rP r st
def D5.ment(n:Nat)(e:D5):Bool:=e.val.toList.any (fun p=>AV.ment n p.2)||(e.nb.any (fun p=>p.1==n||p.2.ment n)||e.nt.any (fun p=>p.1==n))
def Ib{e:D5}(h:st.fresh n=true)(he:e.ment n=false):(e.on st).fresh n=true:=by
 simp only[St.fresh,aE,List.all_eq_true] at h|-;simp only[D5.ment,Bool.or_eq_false_iff,List.any_eq_false] at he;obtain⟨⟨h1,h2⟩,h3⟩:=h;obtain⟨e1,e2,e3⟩:=he;refine⟨⟨fun p T=> ?_,fun p T=> ?_⟩,fun p T=> ?_⟩
 · simp only[D5.on,List.mem_append] at T;rcases T with T|T
   · simpa using e1 p T
   · exact h1 p T
 · simp only[D5.on,List.mem_append] at T;rcases T with T|T
   · have:=e2 p T;simp only[Bool.or_eq_true,not_or,Bool.not_eq_true] at this;simp[bne,this.1,this.2]
   · exact h2 p T
 · simp only[D5.on,List.mem_append] at T;rcases T with T|T
   · have:=e3 p T;simp only[Bool.not_eq_true] at this;simp[bne,this]
   · exact h3 p (BB _ _ T)
def xQ: ∀(es:List D5) (f:Nat->Bool) (st:St),st.fresh n=true->(∀(i:Nat) (e:D5),es[i]?=some e->f i=true->e.ment n=false)->(xx f es st).fresh n=true
 | [],_,_,h,_=>h
 |e::r,f,st,h,he=>by
  simp only[xx];refine xQ r _ _ ?_ (fun i e' h1 h2=>he (i+1) e' (by simpa using h1) h2);cases T:f 0
  · simpa using h
  · simpa using Ib h (he 0 e U T)
def pF(ops:Array Oper):List (List Nat):=ops.toList.map fun o=>(o.after.toList.filter (Region.binds .any)).map (·.on)
def oa:List (List Nat)->List Nat->List Nat
 | [],T=>T
 |d::r,T=>oa r (T++ [d.foldl (fun m j=>m|||(T.getD j 0|||1<<<j)) 0])
def vW(g:Nat->Nat)(hg: ∀j,S j-> ∀x,(g j).testBit x=true->S x): ∀(d:List Nat) (m:Nat),(∀j∈d,S j)->(∀x,m.testBit x=true->S x)-> ∀x,(d.foldl (fun m j=>m|||(g j|||1<<<j)) m).testBit x=true->S x
 | [],m,_,hm,x,h=>hm x h
 |j::d,m,hd,hm,x,h=>by
  refine vW g hg d _ (fun k hk=>hd k (List.mem_cons_of_mem _ hk)) (fun y T=> ?_) x h;simp only[Nat.testBit_or,Bool.or_eq_true] at T;rcases T with T|T|T
  · exact hm y T
  · exact hg j (hd j List.mem_cons_self) y T
  · have:y=j:=by
     rw[Nat.one_shiftLeft,Nat.testBit_two_pow] at T;simpa[eq_comm] using T
    subst this;exact hd y List.mem_cons_self
def qM{ds:List (List Nat)}: ∀(r:List (List Nat)) (pre:List (List Nat)) (T:List Nat),ds=pre++r->T.length=pre.length->
 (∀(i:Nat) (d:List Nat),ds[i]?=some d->S i-> ∀j∈d,S j)->
 (∀i,(∀(d:List Nat),ds[i]?=some d-> ∀j∈d,S j)-> ∀x,(T.getD i 0).testBit x=true->S x)->
 ∀i,(∀(d:List Nat),ds[i]?=some d-> ∀j∈d,S j)-> ∀x,((oa r T).getD i 0).testBit x=true->S x
 | [],pre,T,_,_,_,h=>h
 |d::r,pre,T,ad,hl,hS,h=>by
  refine qM r (pre++ [d]) _ (by simp[ad]) (by simp[hl]) hS (fun i hi x hx=> ?_);rcases Nat.lt_trichotomy i T.length with aR|ar|a3
  · refine h i hi x ?_;simpa[List.getD_eq_getElem?_getD,List.getElem?_append,aR] using hx
  · have a0:ds[i]?=some d:=by rw[ad,ar,hl];simp
    have hd:=hi d a0;have a1:((d.foldl (fun m j=>m|||(T.getD j 0|||1<<<j)) 0)).testBit x=true:=by
     rw[ar] at hx;simpa[List.getD_eq_getElem?_getD,List.getElem?_append] using hx
    exact vW (fun j=>T.getD j 0) (fun j hj y hy=>h j (fun d' a2=>hS j d' a2 hj) y hy) d 0 hd (fun y hy=>by simp at hy) x a1
  · exfalso;have: ¬i<T.length:=C;have h2:i - T.length≠0:=C;obtain⟨k,hk⟩: ∃k,i - T.length=k+1:=⟨i - T.length - 1,by omega⟩
    simp[List.getD_eq_getElem?_getD,List.getElem?_append,this,hk] at hx
def oJ(l m:List Nat):Bool:=l.any fun x=>m.contains x
def sx{l m:List Nat}(h:oJ l m=false){x:Nat}(hl:x∈l)(hm:x∈m):False:=by
 simp only[oJ,List.any_eq_false] at h;exact h x hl (by simpa using hm)
structure Row where
 ws:List Nat
 ls:List Nat
 ms:Nat
 e:D5
def yI(ops:Array Oper)(es:List D5):List Row:=
 (((ops.toList.zip es).zip (oa (pF ops) [])).map fun p=>⟨p.1.2.writes,ly p.1.1 ops++(p.1.2.reads++p.1.2.writes),p.2,p.1.2⟩)
def CG(j:Nat)(x y:Row):Bool:=
 (y.ms.testBit j||(!(oJ x.ws y.ls) && !(oJ y.ws x.ls) && x.e.fs.all (fun n=> !(y.e.ment n)))) && y.e.fs.all (fun n=> !(x.e.ment n))
def Em:List Row->List (Nat×Row)->Bool
 | [],_=>true
 |y::r,T=>T.all (fun p=>CG p.1 p.2 y) && Em r ((T.length,y)::T)
def zA:Nat->List (List Nat)->Bool
 |_,[] =>true
 |i,d::r=>d.all (fun j=>Nat.blt j i) && zA (i+1) r
def AH(ops:Array Oper)(es:List D5)(st0:St):Bool:=
 zA 0 (pF ops) && (Em (yI ops es) [] && es.all (fun e=>e.fs.all (fun n=>st0.fresh n)))
def xw: ∀(r pre:List Row) (T:List (Nat×Row)),T.length=pre.length->(∀(j:Nat) (x:Row),pre[j]?=some x->(j,x)∈T)->Em r T=true->
 ∀(i j:Nat) (x y:Row),j<i->pre.length<=i->(pre++r)[j]?=some x->(pre++r)[i]?=some y->CG j x y=true
 | [],pre,T,_,_,_,i,j,x,y,_,hi,_,hy=>by
   rw[List.append_nil] at hy;have:=(gS hy).1;omega
 |z::r,pre,T,hl,ad,h,i,j,x,y,ar,hi,hx,hy=>by
  simp only[Em,aE,List.all_eq_true] at h;by_cases he:i=pre.length
  · subst he;have aR:y=z:=by simpa using hy.symm
    subst aR;have a0:pre[j]?=some x:=by rw[gL ar] at hx;exact hx
    exact h.1 (j,x) (ad j x a0)
  · refine xw r (pre++ [z]) _ (by simp[hl]) (fun k u hu=> ?_) h.2 i j x y ar (by simp;omega) (by simpa using hx) (by simpa using hy);by_cases hk:k<pre.length
    · rw[gL hk] at hu;exact List.mem_cons_of_mem _ (ad k u hu)
    · have:k=pre.length:=by
       have:=(gS hu).1;simp at this;omega
      subst this;simp at hu;subst hu;rw[hl];exact List.mem_cons_self
def qL: ∀(r:List (List Nat)) (T:List Nat),(oa r T).length=T.length+r.length
 | [],T=>rfl
 |d::r,T=>by rw[oa,qL r];simp;omega
def vZ: ∀(ds:List (List Nat)) (k:Nat),zA k ds=true-> ∀(i:Nat) (d:List Nat),ds[i]?=some d-> ∀j∈d,j<k+i
 | [],k,_,i,d,h,_,_=>by simp at h
 |d0::r,k,h,i,d,T,j,hj=>by
  simp only[zA,aE,List.all_eq_true] at h;cases i with
  |zero=>simp at T;subst T;exact bT (h.1 j hj)
  |succ i=>have:=vZ r (k+1) h.2 i d (by simpa using T) j hj;omega
structure I1 (ops:Array Oper) (o:Oper) (e:D5) (st st':St):Prop where
 ev: ∀x∈o.op.operands,st'.ev x=st.ev x
 gd: ∀(j s:Nat) (b:Bool),o.guard=some (j,b)->(ops[j]?).bind (·.dst)=some s->st'.ev (.tmp s)=st.ev (.tmp s)
 bx: ∀id∈e.tb,st'.bx.lookup id=st.bx.lookup id
 tk: ∀id∈e.tt,st'.tk.lookup id=st.tk.lookup id
 fs: ∀n∈e.fs,st'.fresh n=true
def EF{t:Nat}(h:st'.look (3*t)=st.look (3*t)):st'.ev (.tmp t)=st.ev (.tmp t):=by
 rw[jA,jA] at h;have T:st'.fr.lookup t=st.fr.lookup t:=Option.map_injective (fun _ _ h=>by injection h) h;simp only[St.ev,T]
def I1.of_look{e:D5}(h: ∀κ∈ly o ops++e.reads,st'.look κ=st.look κ)(hf: ∀n∈e.fs,st'.fresh n=true):I1 ops o e st st' where
 ev x hx:=by
  cases x with
  |tmp t=>
   refine EF (h _ (List.mem_append_left _ (List.mem_append_left _ ?_)));exact List.mem_filterMap.2 ⟨.tmp t,by simpa using hx,rfl⟩
  |const v=>rfl
  |func f=>rfl
  |global g=>rfl
 gd j s b hg hj:=by
  refine EF (h _ (List.mem_append_left _ (List.mem_append_right _ ?_)));simp[hg,hj]
 bx id T:=by
  have:=h (3*id+1) (List.mem_append_right _ (List.mem_append_left _ (List.mem_map.2 ⟨id,T,rfl⟩)));rw[jz,jz] at this;exact Option.map_injective (fun _ _ h=>by simpa using h) this
 tk id T:=by
  have:=h (3*id+2) (List.mem_append_right _ (List.mem_append_right _ (List.mem_map.2 ⟨id,T,rfl⟩)));rw[jy,jy] at this;exact Option.map_injective (fun _ _ h=>by simpa using h) this
 fs:=hf
def LV(P:Program)(c:C7)(ops:Array Oper)(st:St)(o:Oper)(e:D5):Prop:=
 ∀st',I1 ops o e st st'-> ∀Q:Exit->Act->World->Prop,L c (e.on st') (Q .normal)->L c st' (wpList P ops Q [o])
def DV(K:Act->World->Prop)(Q:Exit->Act->World->Prop):Exit->Act->World->Prop
 | .normal=>K
 |x=>Q x
def yo{K:Act->World->Prop}(ho:ops[i]?=some o)(h:wpList P ops (DV K Q) [o] a w):wpOp P ops Q i K a w:=by
 unfold wpList at h;unfold wpOp;simp only[ho];have hl:LetsOut (DV K Q)=LetsOut Q:=rfl;split
 · rename_i T;rw[if_pos T] at h;rw[hl] at h;refine h.imp (fun h=> ?_) id;unfold Oper.wp at h|-;have hK:wpList P ops (DV K Q) [] =K:=rfl;rw[hK] at h;generalize (execOp a.eval o).run P w=r at h|-;cases r with
   |ok n w'=>cases n<;>exact h
   |halt x w'=>cases x<;>exact h
 · rename_i T;rw[if_neg T] at h;exact h
inductive E5 (P:Program) (c:C7) (ops:Array Oper):St->List Oper->List D5->Prop
 |nil {st:St}:E5 P c ops st [] []
 |cons {st:St} {o:Oper} {e:D5} {l:List Oper} {es:List D5} (h:LV P c ops st o e) (t:E5 P c ops (e.on st) l es):E5 P c ops st (o::l) (e::es)
def E5.length{es:List D5}(h:E5 P c ops st l es):es.length=l.length:=by
 induction h with
 |nil=>rfl
 |cons _ _ T=>simp[T]
def E5.get{es:List D5}(h:E5 P c ops st l es):
 ∀(i:Nat) (o:Oper) (e:D5),l[i]?=some o->es[i]?=some e->LV P c ops (xx (fun j=>decide (j<i)) es st) o e:=by
 induction h with
 |nil=>intro i o e h;simp at h
 | @cons st o0 e0 l es h0 _ T=>
   intro i o e ho he;cases i with
   |zero=>
    simp at ho he;subst ho;subst he;have:(fun j:Nat=>decide (j<0))=fun _=>false:=by funext j;simp
    rw[this,rP];exact h0
   |succ i=>
    have:=T i o e (by simpa using ho) (by simpa using he);simpa[xx] using this
def left(f:Nat->Bool)(n:Nat):Nat:=(List.range n).countP fun i=> !f i
def Fs(h:left f n=0): ∀i,i<n->f i=true:=fun i hi=>by
 have:=List.countP_eq_zero.1 h i (List.mem_range.2 hi);simpa using this
def HO{g:Nat->Bool}(hi:i<n)(hf:f i=false)(T: ∀j,g j=if j=i then true else f j):left f n=left g n+1:=by
 unfold left;induction n with
 |zero=>omega
 |succ n ih=>
  simp only[List.range_succ,List.countP_append];by_cases e:i=n
  · subst e;have:(List.range i).countP (fun j=> !f j)=(List.range i).countP (fun j=> !g j):=by
     refine List.countP_congr (fun j hj=> ?_);have:j≠i:=by have:=List.mem_range.1 hj;omega
     simp[T,this]
    rw[this];simp[hf,T]
  · have:=ih C;have hn:n≠i:=fun h=>e h.symm
    rw[this];simp[T,hn];omega
def Bt(h:ops[i]?=some o):(pF ops)[i]?=some ((o.after.toList.filter (Region.binds .any)).map (·.on)):=by
 simp[pF,h]
def sc{listed:Array Bool}(h:i<listed.size):listed.getD i true=listed.getD i false:=by
 simp[h]
def At{es:List D5}(hl:es.length=ops.size){i:Nat}{o:Oper}{e:D5}(ho:ops[i]?=some o)(he:es[i]?=some e):
 (yI ops es)[i]?=some ⟨e.writes,ly o ops++(e.reads++e.writes),(oa (pF ops) []).getD i 0,e⟩:=by
 have hi:i<ops.size:=(Array.getElem?_eq_some_iff.1 ho).1;have hm:i<(oa (pF ops) []).length:=by rw[qL];simp[pF];exact hi
 have T:ops.toList[i]?=some o:=by simpa using ho
 simp only[yI,gP];have:((ops.toList.zip es).zip (oa (pF ops) []))[i]?=some ((o,e),(oa (pF ops) [])[i]):=
  List.getElem?_zip_eq_some.2 ⟨List.getElem?_zip_eq_some.2 ⟨T,he⟩,gG hm⟩
 rw[this];simp[List.getD_eq_getElem?_getD,gG hm]
def IX{st0:St}{es:List D5}(bR:E5 P c ops st0 ops.toList es)(bS:AH ops es st0=true)
 (hQ:L c (xx (fun _=>true) es st0) (Q .normal)):
 ∀(fuel:Nat) (listed:Array Bool),listed.size=ops.size->left (fun i=>listed.getD i false) ops.size<=fuel->
  (∀i,listed.getD i false=true-> ∀d,(pF ops)[i]?=some d-> ∀j∈d,listed.getD j false=true)->
  ∀a w,R c (xx (fun i=>listed.getD i false) es st0) a w->wpAny P .any ops Q fuel listed a w:=by
 have a0:es.length=ops.size:=by rw[bR.length];simp
 simp only[AH,aE,List.all_eq_true] at bS;obtain⟨a2,bW,b4⟩:=bS;have a2:=vZ (pF ops) 0 a2;have a3: ∀(i j:Nat) (o o':Oper) (e e':D5),j<i->ops[j]?=some o->es[j]?=some e->ops[i]?=some o'->es[i]?=some e'->
  (((oa (pF ops) []).getD i 0).testBit j=true\/(oJ e.writes (ly o' ops++(e'.reads++e'.writes))=false/\oJ e'.writes (ly o ops++(e.reads++e.writes))=false/\ ∀n∈e.fs,e'.ment n=false))/\ ∀n∈e'.fs,e.ment n=false:=by
  intro i j o o' e e' T ho he bh b5;have:=xw (yI ops es) [] [] U (fun j x h=>by simp at h) bW i j _ _ T (Nat.zero_le _) (by simpa using At a0 ho he) (by simpa using At a0 bh b5);simp only[CG,aE,Bool.or_eq_true,Bool.not_eq_true',List.all_eq_true] at this;obtain⟨h1,h2⟩:=this;exact⟨h1.imp id (fun h=>⟨h.1.1,h.1.2,h.2⟩),h2⟩
 have ad: ∀i,i<ops.size-> ∃o e,ops[i]?=some o/\es[i]?=some e:=fun i hi=>⟨_,_,Array.getElem?_eq_getElem hi,gG (by rw[a0];exact hi)⟩
 intro fuel;induction fuel with
 |zero=>
  intro listed bp a7 bi a w hr;have a6:=Fs (Nat.le_zero.1 a7);have bP:Region.ready .any ops listed= []:=by
   refine List.eq_nil_iff_forall_not_mem.2 (fun i hi=> ?_);rw[mem_ready] at hi;obtain⟨h0,o,ho,_⟩:=hi;have aR:i<ops.size:=(Array.getElem?_eq_some_iff.1 ho).1;rw[sc C] at h0;have:=a6 i aR;rw[h0] at this;cases this
  refine⟨bP,hQ a w (hr.look (fun κ=>mJ es _ _ _ _ (fun i e he=> .inl ?_) U))⟩;have aR:i<ops.size:=by rw[<-a0];exact(gS he).1
  exact(a6 i aR).symm
 |succ fuel ih=>
  intro listed bp a7 bi a w hr;refine⟨fun bP=> ?_,fun i hi=> ?_⟩
  · have a6: ∀i,i<ops.size->listed.getD i false=true:=by
     intro i;induction i using Nat.strongRecOn with
     |_ i b6=>
      intro aR;cases hb:listed.getD i false
      · exfalso;obtain⟨o,e,ho,he⟩:=ad i aR;have:i∈Region.ready .any ops listed:=by
         rw[mem_ready];refine⟨by rw[sc C];exact hb,o,ho,fun x hx b7=> ?_⟩;have b8:x.on∈(o.after.toList.filter (Region.binds .any)).map (·.on):=List.mem_map.2 ⟨x,List.mem_filter.2 ⟨by simpa using hx,b7⟩,rfl⟩;have c3:=a2 i _ (Bt ho) _ b8;exact b6 x.on C C
        rw[bP] at this;simp at this
      · rfl
    refine hQ a w (hr.look (fun κ=>mJ es _ _ _ _ (fun i e he=> .inl ?_) U));have aR:i<ops.size:=by rw[<-a0];exact(gS he).1
    exact(a6 i aR).symm
  · rw[mem_ready] at hi;obtain⟨h0,o,ho,b1⟩:=hi;have aR:i<ops.size:=(Array.getElem?_eq_some_iff.1 ho).1;rw[sc C] at h0;obtain⟨o',e,bh,he⟩:=ad i aR;obtain rfl:o'=o:=by rw[ho] at bh;cases bh;rfl
    have b2: ∀d,(pF ops)[i]?=some d-> ∀j∈d,listed.getD j false=true:=by
     intro d hd j hj;rw[Bt ho] at hd;cases hd;obtain⟨x,hx,rfl⟩:=mM hj;obtain⟨b9,cb⟩:=List.mem_filter.1 hx;exact b1 x (by simpa using b9) cb
    have a8: ∀k,(∀d,(pF ops)[k]?=some d-> ∀j∈d,listed.getD j false=true)-> ∀x,((oa (pF ops) []).getD k 0).testBit x=true->listed.getD x false=true:=
     qM (S:=fun j=>listed.getD j false=true) (pF ops) [] [] U U (fun k d hd hk j hj=>bi k hk d hd j hj) (fun k _ x hx=>by simp at hx)
    have a4: ∀(j:Nat) (ej:D5),i<j->es[j]?=some ej->listed.getD j false=true->oJ ej.writes (ly o' ops++(e.reads++e.writes))=false/\ ∀n∈e.fs,ej.ment n=false:=by
     intro j ej a5 ar hj;have a9:j<ops.size:=by rw[<-a0];exact(gS ar).1
     obtain⟨oj,_,ba,_⟩:=ad j a9;rcases(a3 j i o' oj e ej a5 ho he ba ar).1 with h|h
     · have:=a8 j (fun d hd=>bi j hj d hd) i h;rw[h0] at this;cases this
     · exact⟨h.2.1,h.2.2⟩
    have bl: ∀(j:Nat) (ej:D5),j<i->es[j]?=some ej->listed.getD j false=false->oJ ej.writes (ly o' ops++(e.reads++e.writes))=false:=by
     intro j ej T ar hj;have a9:j<ops.size:=C;obtain⟨oj,_,ba,_⟩:=ad j a9;rcases(a3 i j oj o' ej e T ba ar ho he).1 with h|h
     · have:=a8 i b2 j h;rw[hj] at this;cases this
     · exact h.1
    have cc:I1 ops o' e (xx (fun j=>decide (j<i)) es st0) (xx (fun i=>listed.getD i false) es st0):=by
     refine I1.of_look (fun κ ch=> ?_) (fun n hn=> ?_)
     · have bm:κ∈ly o' ops++(e.reads++e.writes):=by
        rcases mA ch with h|h
        · exact List.mem_append_left _ h
        · exact List.mem_append_right _ (List.mem_append_left _ h)
       refine mJ es _ _ _ _ (fun j ej ar=> ?_) U;rcases Nat.lt_trichotomy j i with T|rfl|a5
       · cases hb:listed.getD j false
         · exact .inr (fun hw=>sx (bl j ej T ar hb) hw bm)
         · exact .inl (by simp[T])
       · exact .inl (by simp[h0])
       · cases hb:listed.getD j false
         · exact .inl (by simp;omega)
         · exact .inr (fun hw=>sx (a4 j ej a5 ar hb).1 hw bm)
     · refine xQ es _ st0 (b4 e (gE he) n hn) (fun j ej ar hj=> ?_);rcases Nat.lt_trichotomy j i with T|rfl|a5
       · have a9:j<ops.size:=C;obtain⟨oj,_,ba,_⟩:=ad j a9;exact(a3 i j oj o' ej e T ba ar ho he).2 n hn
       · rw[h0] at hj;cases hj
       · exact(a4 j ej a5 ar hj).2 n hn
    refine yo ho (bR.get i o' e (by simpa using ho) he _ cc (DV _ Q) (fun a' w' cR=> ?_) a w hr);have a1: ∀j,(listed.setIfInBounds i true).getD j false=if j=i then true else listed.getD j false:=by
     intro j;by_cases T:j=i
     · subst T;simp[bp,aR]
     · have:i≠j:=fun h=>T h.symm
       simp only[T,if_false];exact getD_set_ne false this
    refine ih _ (by simpa using bp) ?_ ?_ a' w' (cR.look (fun κ=> ?_))
    · have:=HO (f:=fun i=>listed.getD i false) (g:=fun j=>(listed.setIfInBounds i true).getD j false) (n:=ops.size) aR h0 a1;omega
    · intro k hk d hd j hj;simp only[a1] at hk|-;by_cases T:j=i
      · simp[T]
      · simp only[T,if_false];by_cases b3:k=i
        · subst b3;exact b2 d hd j hj
        · simp only[b3,if_false] at hk;exact bi k hk d hd j hj
    · by_cases hw:κ∈e.writes
      · refine AJ es _ st0 _ i e he (by simp only[a1];simp) hw (fun j ej a5 ar hj cS=> ?_);simp only[a1] at hj;have cX:j≠i:=C;simp only[cX,if_false] at hj;exact sx (a4 j ej a5 ar hj).1 cS (List.mem_append_right _ (List.mem_append_right _ hw))
      · rw[fC hw];refine mJ es _ _ _ _ (fun j ej ar=> ?_) U;by_cases T:j=i
        · subst T;rw[he] at ar;cases ar;exact .inr hw
        · exact .inl (by simp only[a1,T,if_false])
def DR(P:Program)(c:C7)(ops:Array Oper)(Q:Exit->Act->World->Prop)(st0:St)(done:List D5)(st:St)(l:List Oper):Prop:=
 ∃es:List D5,E5 P c ops st l es/\AH ops (done.reverse++es) st0=true/\L c (xx (fun _=>true) es st) (Q .normal)
end
section
variable {P:Program}{c:C7}{ops:Array Oper}{Q:Exit->Act->World->Prop}{st0 st:St}{done:List D5}{rest:List Oper}{o:Oper}
def DR.nil(T:AH ops done.reverse st0=true)(h:L c st (Q .normal)):DR P c ops Q st0 done st []:=⟨[],.nil,by simpa using T,h⟩
def DR.cons{e:D5}(hv:LV P c ops st o e)(h:DR P c ops Q st0 (e::done) (e.on st) rest):DR P c ops Q st0 done st (o::rest):=by
 obtain⟨es,hc,T,hl⟩:=h;exact⟨e::es,.cons hv hc,by simpa using T,hl⟩
def DR.region(hm:P.follows .mixedOrders=true){id:Nat}{l:List Oper}(h:DR P c l.toArray Q st [] st l):L c st ((Code.region id l.toArray true).wp P Q):=by
 obtain⟨es,hc,ad,hl⟩:=h;intro a w hr;have ar:E5 P c l.toArray st l.toArray.toList es:=by simpa using hc
 have T:(fun i=>(Array.replicate l.toArray.size false).getD i false)=fun _=>false:=by
  funext i
  simp only[Array.getD_eq_getD_getElem?,Array.getElem?_replicate];split<;>rfl
 refine wp_region_any hm (IX ar (by simpa using ad) hl _ _ sP ?_ ?_ a _ ?_)
 · rw[T];exact Nat.le_trans List.countP_le_length sP
 · intro i hi;have:=congrFun T i;rw[this] at hi;cases hi
 · rw[T,rP];obtain⟨E,hi⟩:=hr;exact⟨E,hi.drew⟩
def DR.of_plain{dst:Option Tmp}{op:Op}{ty:TypeId}{pos:String}{aft:Array Edge}{g:Option (Nat×Bool)}(hl: ∀e,LV P c ops st ⟨dst,op,ty,pos,aft,none⟩ e->LV P c ops st ⟨dst,op,ty,pos,aft,g⟩ e)
 (h:DR P c ops Q st0 done st (⟨dst,op,ty,pos,aft,none⟩::rest)):DR P c ops Q st0 done st (⟨dst,op,ty,pos,aft,g⟩::rest):=by
 obtain⟨es,hc,T,hL⟩:=h;cases hc with
 |cons hv t=>exact⟨_,.cons (hl _ hv) t,T,hL⟩
end
attribute [irreducible] DR
def LW.out{P:Program}{c:C7}{st:St}{ops:Array Oper}{Q:Exit->Act->World->Prop}{l:List Oper}(h:LW P c st ops Q l):L c st (wpList P ops Q l):=by unfold LW at h;exact h
section
variable {P:Program}{c:C7}{fr:List (Nat×AV)}{bx:List (Nat×A5)}{tk:List (Nat×C9)}{ops:Array Oper}{Q:Exit->Act->World->Prop}{rest:List Oper}
 {d:Nat} {ty:TypeId} {pos:String} {aft:Array Edge} {st0:St} {done:List D5}
section
variable {P:Program}{Q:Exit->Act->World->Prop}{a bytes cap cap' i i' id id' j k mm mm' mr n n' off off' s:Nat}{agg b b':Bool}{args:Array Operand}{Nh cs:List AV}{ats:Array TypeId}{bt bt' e t t':TypeId}{c:C7}{done:List D5}{er es es':List (List IV)}{f:FuncId}{gs:aw}{l:List Oper}{o:Oper}{op:Op}{ops:Array Oper}{parts:Array (Nat×Operand)}{res v:AV}{st st0:St}{x y:Operand}{xs ys:List IV}{zs:List Value}
def LW.is(h:LW P c st ops Q l):LW P c st ops Q l:=h
def dC{e:D5}(h:DR P c ops Q st0 (e::done) (e.on st) l)(f: ∀{Q:Exit->Act->World->Prop} (x:St),I1 ops o e st ⟨x.fr,x.bx,x.tk⟩->LW P c (e.on ⟨x.fr,x.bx,x.tk⟩) ops Q [] ->LW P c ⟨x.fr,x.bx,x.tk⟩ ops Q [o]):DR P c ops Q st0 done st (o::l):=DR.cons (fun x a _ T=>LW.out (f x a (Ec T))) h
def DR.is(h:DR P c ops Q st0 done st l):DR P c ops Q st0 done st l:=h
def bg{tb:List Nat}(ad:Nat.ble (d+1) c.nt=true)(hv:VV P c ⟨fr,bx,tk⟩ ⟨some d,op,ty,pos,aft,none⟩ v tb)
 (h:DR P c ops Q st0 (⟨some (d,v),[],[],[],tb,[],[]⟩::done) ⟨(d,v)::fr,bx,tk⟩ rest):DR P c ops Q st0 done ⟨fr,bx,tk⟩ (⟨some d,op,ty,pos,aft,none⟩::rest):=
 DR.cons (e:=⟨some (d,v),[],[],[],tb,[],[]⟩) (fun st' T Q' hL=>L.val (st:=st') U U ad (hv.out st' T.ev T.bx) (L.nil hL)) h
def BC{q:Nat}{b b':A5}(ad:Nat.ble (d+1) c.nt=true)[a0:A0 P f](hG:Glob gs c.E0 c.w0)(hc:CallG gs P f Nh [(q,b)] [(q,b')] [] res)(ha:AV.pub.pubs (args.toList.map (St.ev ⟨fr,bx,tk⟩))=Nh)(hb:bx.lookup q=some b)(ar:b.cs.isEmpty=false)(aR:AV.mentsIn [] b'.cs=true)(hr:AV.mentIn [] res=true)
 (h:DR P c ops Q st0 (⟨some (d,res),((q,b'):: []),[],[],[q],[],[]⟩::done) ⟨(d,res)::fr,(q,b')::bx,tk⟩ rest):DR P c ops Q st0 done ⟨fr,bx,tk⟩ (⟨some d,.call {callee:= .value (.func f),args:=args,argTypes:=ats},ty,pos,aft,none⟩::rest):=
 dC h fun _ T hL=>jt ad hG hc ((by rw[IY T.ev (fun x hx=>by simp[Op.operands,Call.operands,hx])];exact ha)) ((T.bx q sP).trans hb) ar aR hr hL
def tX(T:Nat.ble (d+1) c.nt=true)[aR:A0 P f](hG:Glob gs c.E0 c.w0)(hc:CallG gs P f Nh [] [] [] res)(ha:AV.pub.pubs (args.toList.map (St.ev ⟨fr,bx,tk⟩))=Nh)(ad:AV.mentIn [] res=true)
 (h:DR P c ops Q st0 (⟨some (d,res),[],[],[],[],[],[]⟩::done) ⟨(d,res)::fr,bx,tk⟩ rest):DR P c ops Q st0 done ⟨fr,bx,tk⟩ (⟨some d,.call {callee:= .value (.func f),args:=args,argTypes:=ats},ty,pos,aft,none⟩::rest):=
 dC h fun _ ar hL=>dK T hG hc ((by rw[IY ar.ev (fun x hx=>by simp[Op.operands,Call.operands,hx])];exact ha)) ad hL
def Kv(T:Nat.ble (d+1) c.nt=true)[hz:C2 P t zs](h1:zs.all (·.oneCell')=true)(hc:zs.map cy=cs)(hf:St.fresh d ⟨fr,bx,tk⟩=true)(hm:AV.ments d cs=false)
 (h:DR P c ops Q st0 (⟨some (d,.ptr d 0),((d,⟨t,cs⟩):: []),[],[],[],[],[d]⟩::done) ⟨(d,.ptr d 0)::fr,(d,⟨t,cs⟩)::bx,tk⟩ rest):DR P c ops Q st0 done ⟨fr,bx,tk⟩ (⟨some d,.alloc t,ty,pos,aft,none⟩::rest):=
 dC h fun _ ad hL=>Ee T h1 hc (ad.fs d sP) hm hL
def IG(ad:Nat.ble (d+1) c.nt=true)[hs:A8 P t e k][hz:C2 P e zs](h1:zs.all (·.oneCell')=true)(ar:zs.length=k)(hn:Nat.ble (n*k) 16777216=true)(aR:Nat.ble 1 k=true)(hf:lK (fun i=>some (i*k,k)) ((List.range (n*k)).map fun i=>cy (zs.getD (i % k) undef)) (parts.toList.map fun x=>(x.1,St.ev ⟨fr,bx,tk⟩ x.2))=some cs)(hx:tu cs=some xs)(a0:cs.length=n*k)(he:cY k n xs=es)(a1:St.fresh d ⟨fr,bx,tk⟩=true)
 (h:DR P c ops Q st0 (⟨some (d,.row d es),[],[(d,⟨e,k⟩)],[],[],[],[d]⟩::done) ⟨(d,.row d es)::fr,bx,(d,⟨e,k⟩)::tk⟩ rest):DR P c ops Q st0 done ⟨fr,bx,tk⟩ (⟨some d,.buildSlice t n parts,ty,pos,aft,none⟩::rest):=
 dC h fun _ T hL=>mw ad h1 ar hn aR ((by rw[agP T.ev (fun x hx=>by simp only[Op.operands];exact List.mem_toArray.2 (List.mem_map.2 ⟨x,by simpa using hx,rfl⟩))];exact hf)) hx a0 he (T.fs d sP) hL
def Ku{b:A5}(hx:St.ev ⟨fr,bx,tk⟩ x= .ptr id off)(hy:St.ev ⟨fr,bx,tk⟩ y=v)[ht:C1 P t agg k](hb:bx.lookup id=some b)(hv:v.lays=true)(hk:v.cells.length=k)(ad:Nat.ble (off+k) b.cs.length=true)(hc:lX b.cs off v.cells=cs)
 (h:DR P c ops Q st0 (⟨none,((id,⟨b.ty,cs⟩):: []),[],[],[id],[],[]⟩::done) ⟨fr,(id,⟨b.ty,cs⟩)::bx,tk⟩ rest):DR P c ops Q st0 done ⟨fr,bx,tk⟩ (⟨none,.store t x y,ty,pos,aft,none⟩::rest):=
 dC h fun _ T hL=>Eb ((T.ev x oO).trans hx) ((T.ev y oO).trans hy) ((T.bx id sP).trans hb) hv hk ad hc hL
def rh{news:List (List IV)}(ad:Nat.ble (d+1) c.nt=true)(hx:St.ev ⟨fr,bx,tk⟩ x= .row id es)(ar:tk.lookup id=some ⟨e,k⟩)(hy:(St.ev ⟨fr,bx,tk⟩ y).sl?=some news)[ha:D7 P t e k bytes][hs:A8 P t' e k](aR: ∀e∈es,e.length=k)(a0: ∀e∈news,e.length=k)(hm:es.length+news.length<=maxLen)(a1:(es.length+news.length)*bytes<=225000000000000)(hf:St.fresh d ⟨fr,bx,tk⟩=true)(he:es++news=es')
 (h:DR P c ops Q st0 (⟨some (d,.row d es'),[],[(d,⟨e,k⟩)],[id],[],[id],[d]⟩::done) ⟨(d,.row d es')::fr,bx,(d,⟨e,k⟩)::Dl [id] tk⟩ rest):DR P c ops Q st0 done ⟨fr,bx,tk⟩ (⟨some d,.call {callee:= .builtin .append,args:= #[x,y],argTypes:= #[t,t']},ty,pos,aft,none⟩::rest):=
 dC h fun _ T hL=>bJ ad ((T.ev x oO).trans hx) ((T.tk id sP).trans ar) ((congrArg AV.sl? (T.ev y oO)).trans hy) aR a0 hm a1 (T.fs d sP) he hL
def rf(T:Nat.ble (d+1) c.nt=true)[aR:A0 P f](hc:CallA P f Nh [] [] [] res)(ha:AV.pub.pubs (args.toList.map (St.ev ⟨fr,bx,tk⟩))=Nh)(ad:AV.mentIn [] res=true)
 (h:DR P c ops Q st0 (⟨some (d,res),[],[],[],[],[],[]⟩::done) ⟨(d,res)::fr,bx,tk⟩ rest):DR P c ops Q st0 done ⟨fr,bx,tk⟩ (⟨some d,.call {callee:= .value (.func f),args:=args,argTypes:=ats},ty,pos,aft,none⟩::rest):=
 dC h fun _ ar hL=>gp T hc ((by rw[IY ar.ev (fun x hx=>by simp[Op.operands,Call.operands,hx])];exact ha)) ad hL
def FL{t:C9}(ad:Nat.ble (d+1) c.nt=true)[ar:A0 P f](hc:CallA P f Nh [] [] [(d,t)] (.row d es))(ha:AV.pub.pubs (args.toList.map (St.ev ⟨fr,bx,tk⟩))=Nh)(hf:St.fresh d ⟨fr,bx,tk⟩=true)
 (h:DR P c ops Q st0 (⟨some (d,.row d es),[],[(d,t)],[],[],[],[d]⟩::done) ⟨(d,.row d es)::fr,bx,(d,t)::tk⟩ rest):DR P c ops Q st0 done ⟨fr,bx,tk⟩ (⟨some d,.call {callee:= .value (.func f),args:=args,argTypes:=ats},ty,pos,aft,none⟩::rest):=
 dC h fun _ T hL=>xe ad hc ((by rw[IY T.ev (fun x hx=>by simp[Op.operands,Call.operands,hx])];exact ha)) (T.fs d sP) hL
def jx{cnt:Nat}(a1:Nat.ble (d+1) c.nt=true)(hx:St.ev ⟨fr,bx,tk⟩ x= .bsl id off n cap)(hy:St.ev ⟨fr,bx,tk⟩ y= .bsl id' off' n' cap')[hs:A8 P t e k](hb:bx.lookup id=some ⟨bt,.r es.flatten mm⟩)(a2:bx.lookup id'=some ⟨bt',.r es'.flatten mm'⟩)(hk: ∀e∈es,e.length=k)(a3: ∀e∈es',e.length=k)(a4:0<k)(ar:off=i*k)(ad:off'=i'*k)(aR:Nat.min n' n=cnt)(a0:0<cnt)(a5:(i'+n')*k<=es'.length*k+mm')(a6:i'+cnt<=es'.length)(hi:i<=es.length)(hm:(i+cnt)*k<=es.length*k+mm)(a7:es.take i++((es'.drop i').take cnt++es.drop (i+cnt))=er)(a8:mm - (i+cnt - es.length)*k=mr)
 (h:DR P c ops Q st0 (⟨some (d,aI cnt),((id,⟨bt,.r er.flatten mr⟩):: []),[],[],[id,id'],[],[]⟩::done) ⟨(d,aI cnt)::fr,(id,⟨bt,.r er.flatten mr⟩)::bx,tk⟩ rest):DR P c ops Q st0 done ⟨fr,bx,tk⟩ (⟨some d,.call {callee:= .builtin .copy,args:= #[x,y],argTypes:= #[t,t']},ty,pos,aft,none⟩::rest):=
 dC h fun _ T hL=>ii a1 ((T.ev x oO).trans hx) ((T.ev y oO).trans hy) ((T.bx id sP).trans hb) ((T.bx id' sP).trans a2) hk a3 a4 ar ad aR a0 a5 a6 hi hm a7 a8 hL
def rb{e':TypeId}{k2 nr:Nat}(aR:Nat.ble (d+1) c.nt=true)(hx:St.ev ⟨fr,bx,tk⟩ x= .bsl id 0 n cap)(hy:St.ev ⟨fr,bx,tk⟩ y= .bsl id' off' n' cap')[hr:D6 P t e k bytes][a8:A8 P t' e' k2](hb:bx.lookup id=some ⟨bt,.r es.flatten mm⟩)(a0:bx.lookup id'=some ⟨bt',.r es'.flatten mm'⟩)(a1:es.flatten≠ [] \/0<mm)(hk: ∀e∈es,e.length=k)(a2: ∀e∈es',e.length=k)(ad:off'=i'*k)(a3:i'+n'<=es'.length)(a4:0<cap)(ar:n+n'<=cap)(hi:n<=es.length)(hm:(n+n')*k<=es.length*k+mm)(a5:es.take n++((es'.drop i').take n'++es.drop (n+n'))=er)(a6:mm - (n+n' - es.length)*k=mr)(a7:n+n'=nr)
 (h:DR P c ops Q st0 (⟨some (d,.bsl id 0 nr cap),((id,⟨bt,.r er.flatten mr⟩):: []),[],[],[id,id'],[],[]⟩::done) ⟨(d,.bsl id 0 nr cap)::fr,(id,⟨bt,.r er.flatten mr⟩)::bx,tk⟩ rest):DR P c ops Q st0 done ⟨fr,bx,tk⟩ (⟨some d,.call {callee:= .builtin .append,args:= #[x,y],argTypes:= #[t,t']},ty,pos,aft,none⟩::rest):=
 dC h fun _ T hL=>nT aR ((T.ev x oO).trans hx) ((T.ev y oO).trans hy) ((T.bx id sP).trans hb) ((T.bx id' sP).trans a0) a1 hk a2 ad a3 a4 ar hi hm a5 a6 a7 hL
def zt(N:Nat){t t' e e':TypeId}{x y:Operand}{k k2 bytes:Nat}{news:List (List IV)}(ad:Nat.ble (d+1) c.nt=true)(hx:St.ev ⟨fr,bx,tk⟩ x= .nils)(hy:(St.ev ⟨fr,bx,tk⟩ y).sl?=some news)[hr:D6 P t e k bytes][a1:A8 P t' e' k2](ar: ∀e∈news,e.length=k)(aR:news≠ [])(hm:news.length<=maxLen)(a0:news.length*bytes<=140737488355328)(hf:St.fresh N ⟨fr,bx,tk⟩=true)
 (h:DR P c ops Q st0 (⟨some (d,.bsh N 0 news.length k),((N,⟨e,.r news.flatten 0⟩):: []),[],[],[],[],[N]⟩::done) ⟨(d,.bsh N 0 news.length k)::fr,(N,⟨e,.r news.flatten 0⟩)::bx,tk⟩ rest):DR P c ops Q st0 done ⟨fr,bx,tk⟩ (⟨some d,.call {callee:= .builtin .append,args:= #[x,y],argTypes:= #[t,t']},ty,pos,aft,none⟩::rest):=
 dC h fun _ T hL=>nU N ad ((T.ev x oO).trans hx) ((congrArg AV.sl? (T.ev y oO)).trans hy) ar aR hm a0 (T.fs N sP) hL
def pw(N:Nat){t t' e e':TypeId}{x y:Operand}{k k2 bytes n id mm nr:Nat}{es news er:List (List IV)}(ad:Nat.ble (d+1) c.nt=true)(hx:St.ev ⟨fr,bx,tk⟩ x= .bsh id 0 n k)(hy:(St.ev ⟨fr,bx,tk⟩ y).sl?=some news)[hr:D6 P t e k bytes][a4:A8 P t' e' k2](hb:bx.lookup id=some ⟨e,.r es.flatten mm⟩)(ar:es.flatten≠ [] \/0<mm)(hk: ∀e∈es,e.length=k)(aR: ∀e∈news,e.length=k)(hi:n<=es.length)(a0:news≠ [])(hm:n+news.length<=maxLen)(a1:(n+news.length)*bytes<=140737488355328)(hf:St.fresh N ⟨fr,bx,tk⟩=true)(a2:es.take n++news=er)(a3:n+news.length=nr)
 (h:DR P c ops Q st0 (⟨some (d,.bsh N 0 nr k),((N,⟨e,.r er.flatten 0⟩)::(id,⟨e,.l []⟩):: []),[],[],[id],[],[N]⟩::done) ⟨(d,.bsh N 0 nr k)::fr,(N,⟨e,.r er.flatten 0⟩)::(id,⟨e,.l []⟩)::bx,tk⟩ rest):DR P c ops Q st0 done ⟨fr,bx,tk⟩ (⟨some d,.call {callee:= .builtin .append,args:= #[x,y],argTypes:= #[t,t']},ty,pos,aft,none⟩::rest):=
 dC h fun _ T hL=>eU N ad ((T.ev x oO).trans hx) ((congrArg AV.sl? (T.ev y oO)).trans hy) ((T.bx id sP).trans hb) ar hk aR hi a0 hm a1 (T.fs N sP) a2 a3 hL
def rg(ad:Nat.ble (d+1) c.nt=true)[hs:A8 P t e k][hz:C2 P e zs](h1:zs.all (·.oneCell')=true)(ar:zs.length=k)(hn:Nat.ble (n*k) 16777216=true)(aR:Nat.ble 1 k=true)(hf:lK (fun i=>some (i*k,k)) ((List.range (n*k)).map fun i=>cy (zs.getD (i % k) undef)) (parts.toList.map fun x=>(x.1,St.ev ⟨fr,bx,tk⟩ x.2))=some cs)(a0:cs=es.flatten.map AV.iv)(a1:es.flatten.length=n*k)(a2:St.fresh d ⟨fr,bx,tk⟩=true)
 (h:DR P c ops Q st0 (⟨some (d,.bsl d 0 n n),((d,⟨e,.r es.flatten 0⟩):: []),[],[],[],[],[d]⟩::done) ⟨(d,.bsl d 0 n n)::fr,(d,⟨e,.r es.flatten 0⟩)::bx,tk⟩ rest):DR P c ops Q st0 done ⟨fr,bx,tk⟩ (⟨some d,.buildSlice t n parts,ty,pos,aft,none⟩::rest):=
 dC h fun _ T hL=>nW ad h1 ar hn aR ((by rw[agP T.ev (fun x hx=>by simp only[Op.operands];exact List.mem_toArray.2 (List.mem_map.2 ⟨x,by simpa using hx,rfl⟩))];exact hf)) a0 a1 (T.fs d sP) hL
def dU{e:List IV}(hx:St.ev ⟨fr,bx,tk⟩ x= .ptr id off)(hy:St.ev ⟨fr,bx,tk⟩ y=v)[ht:C1 P t agg k](hb:bx.lookup id=some ⟨bt,.r es.flatten mm⟩)(hv:v.lays=true)(hc:v.cells=e.map AV.iv)(he:e.length=k)(hk: ∀e∈es,e.length=k)(ho:off=i*k)(hi:i<es.length)(ad:es.set i e=er)
 (h:DR P c ops Q st0 (⟨none,((id,⟨bt,.r er.flatten mm⟩):: []),[],[],[id],[],[]⟩::done) ⟨fr,(id,⟨bt,.r er.flatten mm⟩)::bx,tk⟩ rest):DR P c ops Q st0 done ⟨fr,bx,tk⟩ (⟨none,.store t x y,ty,pos,aft,none⟩::rest):=
 dC h fun _ T hL=>dR ((T.ev x oO).trans hx) ((T.ev y oO).trans hy) ((T.bx id sP).trans hb) hv hc he hk ho hi ad hL
def ld(ad:Nat.ble (d+1) c.nt=true)[ar:A0 P f](hc:CallA P f Nh [] [(1000,⟨bt,.r xs 0⟩)] [] (.bsh 1000 0 n k))(ha:AV.pub.pubs (args.toList.map (St.ev ⟨fr,bx,tk⟩))=Nh)(hm:AV.mentsIn [] Nh=true)(hf:St.fresh d ⟨fr,bx,tk⟩=true)
 (h:DR P c ops Q st0 (⟨some (d,.bsh d 0 n k),((d,⟨bt,.r xs 0⟩):: []),[],[],[],[],[d]⟩::done) ⟨(d,.bsh d 0 n k)::fr,(d,⟨bt,.r xs 0⟩)::bx,tk⟩ rest):DR P c ops Q st0 done ⟨fr,bx,tk⟩ (⟨some d,.call {callee:= .value (.func f),args:=args,argTypes:=ats},ty,pos,aft,none⟩::rest):=
 dC h fun _ T hL=>ju ad hc ((by rw[IY T.ev (fun x hx=>by simp[Op.operands,Call.operands,hx])];exact ha)) hm (T.fs d sP) hL
def BD(ad:Nat.ble (d+1) c.nt=true)[aR:A0 P f](hc:CallA P f (.bsh 1000 0 n k::Nh) [(1000,⟨bt,.r xs 0⟩)] [(1001,⟨bt,.r ys 0⟩),(1000,⟨bt,.l []⟩)] [] (.bsh 1001 0 n' k))(ha:AV.pub.pubs (args.toList.map (St.ev ⟨fr,bx,tk⟩))= .bsh a 0 n k::Nh)(hb:bx.lookup a=some ⟨bt,.r xs 0⟩)(ar:xs≠ [])(hm:AV.mentsIn [] Nh=true)(hf:St.fresh d ⟨fr,bx,tk⟩=true)
 (h:DR P c ops Q st0 (⟨some (d,.bsh d 0 n' k),((d,⟨bt,.r ys 0⟩)::(a,⟨bt,.l []⟩):: []),[],[],[a],[],[d]⟩::done) ⟨(d,.bsh d 0 n' k)::fr,(d,⟨bt,.r ys 0⟩)::(a,⟨bt,.l []⟩)::bx,tk⟩ rest):DR P c ops Q st0 done ⟨fr,bx,tk⟩ (⟨some d,.call {callee:= .value (.func f),args:=args,argTypes:=ats},ty,pos,aft,none⟩::rest):=
 dC h fun _ T hL=>uz ad hc ((by rw[IY T.ev (fun x hx=>by simp[Op.operands,Call.operands,hx])];exact ha)) ((T.bx a sP).trans hb) ar hm (T.fs d sP) hL
def re{res:IV}(ad:Nat.ble (d+1) c.nt=true)[aR:A0 P f](hc:CallA P f (.bsh 1000 0 n k::Nh) [(1000,⟨bt,.r xs 0⟩)] [(1000,⟨bt,.l []⟩)] [] (.iv res))(ha:AV.pub.pubs (args.toList.map (St.ev ⟨fr,bx,tk⟩))= .bsh a 0 n k::Nh)(hb:bx.lookup a=some ⟨bt,.r xs 0⟩)(ar:xs≠ [])(hm:AV.mentsIn [] Nh=true)
 (h:DR P c ops Q st0 (⟨some (d,.iv res),((a,⟨bt,.l []⟩):: []),[],[],[a],[],[]⟩::done) ⟨(d,.iv res)::fr,(a,⟨bt,.l []⟩)::bx,tk⟩ rest):DR P c ops Q st0 done ⟨fr,bx,tk⟩ (⟨some d,.call {callee:= .value (.func f),args:=args,argTypes:=ats},ty,pos,aft,none⟩::rest):=
 dC h fun _ T hL=>Ap ad hc ((by rw[IY T.ev (fun x hx=>by simp[Op.operands,Call.operands,hx])];exact ha)) ((T.bx a sP).trans hb) ar hm hL
def rc{i:AV}{v m:Nat}{vs:List IV}(ad:Nat.ble (d+1) c.nt=true)[a2:A0 P f](hc:CallA P f [.bsh 1000 0 n k,i,.bsl 1001 0 m m] [(1000,⟨bt,.r xs 0⟩),(1001,⟨bt',.r vs 0⟩)] [(1002,⟨bt,.r ys 0⟩),(1000,⟨bt,.l []⟩),(1001,⟨bt',.l []⟩)] [] (.bsh 1002 0 n' k))(ha:AV.pub.pubs (args.toList.map (St.ev ⟨fr,bx,tk⟩))= [.bsh a 0 n k,i,.bsl v 0 m m])(hb:bx.lookup a=some ⟨bt,.r xs 0⟩)(ar:bx.lookup v=some ⟨bt',.r vs 0⟩)(aR:xs≠ [])(a0:vs≠ [])(a1:(a==v)=false)(hm:AV.mentIn [] i=true)(hf:St.fresh d ⟨fr,bx,tk⟩=true)
 (h:DR P c ops Q st0 (⟨some (d,.bsh d 0 n' k),((d,⟨bt,.r ys 0⟩)::(a,⟨bt,.l []⟩)::(v,⟨bt',.l []⟩):: []),[],[],[a,v],[],[d]⟩::done) ⟨(d,.bsh d 0 n' k)::fr,(d,⟨bt,.r ys 0⟩)::(a,⟨bt,.l []⟩)::(v,⟨bt',.l []⟩)::bx,tk⟩ rest):DR P c ops Q st0 done ⟨fr,bx,tk⟩ (⟨some d,.call {callee:= .value (.func f),args:=args,argTypes:=ats},ty,pos,aft,none⟩::rest):=
 dC h fun _ T hL=>nV ad hc ((by rw[IY T.ev (fun x hx=>by simp[Op.operands,Call.operands,hx])];exact ha)) ((T.bx a sP).trans hb) ((T.bx v sP).trans ar) aR a0 a1 hm (T.fs d sP) hL
def ML{dst:Option Tmp}(hj:(ops[j]?).bind (·.dst)=some s)(hb:st.ev (.tmp s)=aB b')(he:b'=b)
 (h:DR P c ops Q st0 done st (⟨dst,op,ty,pos,aft,none⟩::rest)):DR P c ops Q st0 done st (⟨dst,op,ty,pos,aft,some (j,b)⟩::rest):=
 DR.of_plain (fun e hv st' T Q' hL=>L.guardDo hj ((T.gd j s b U hj).trans (he▸hb)) (hv st' ⟨T.ev,fun j s b hg=>(by simp at hg),T.bx,T.tk,T.fs⟩ Q' hL)) h
def IE(T:Nat.ble (d+1) c.nt=true)(hj:(ops[j]?).bind (·.dst)=some s)(hb:St.ev ⟨fr,bx,tk⟩ (.tmp s)=aB b')(he:b'=false)
 (h:DR P c ops Q st0 (⟨some (d,.opt false .any),[],[],[],[],[],[]⟩::done) ⟨(d,.opt false .any)::fr,bx,tk⟩ rest):DR P c ops Q st0 done ⟨fr,bx,tk⟩ (⟨some d,op,ty,pos,aft,some (j,true)⟩::rest):=
 dC h fun _ ad hL=>An T hj ((ad.gd j s true U hj).trans hb) he hL
def IF(T:Nat.ble (d+1) c.nt=true)(hj:(ops[j]?).bind (·.dst)=some s)(hb:St.ev ⟨fr,bx,tk⟩ (.tmp s)=aB b')(he:b'=true)
 (h:DR P c ops Q st0 (⟨some (d,.opt false .any),[],[],[],[],[],[]⟩::done) ⟨(d,.opt false .any)::fr,bx,tk⟩ rest):DR P c ops Q st0 done ⟨fr,bx,tk⟩ (⟨some d,op,ty,pos,aft,some (j,false)⟩::rest):=
 dC h fun _ ad hL=>Ao T hj ((ad.gd j s false U hj).trans hb) he hL
def ID(T:Nat.ble (d+1) c.nt=true)(hj:(ops[j]?).bind (·.dst)=some s)(hb:St.ev ⟨fr,bx,tk⟩ (.tmp s)= .opt false .any)
 (h:DR P c ops Q st0 (⟨some (d,.opt false .any),[],[],[],[],[],[]⟩::done) ⟨(d,.opt false .any)::fr,bx,tk⟩ rest):DR P c ops Q st0 done ⟨fr,bx,tk⟩ (⟨some d,op,ty,pos,aft,some (j,b)⟩::rest):=
 dC h fun _ ad hL=>Am T hj ((ad.gd j s b U hj).trans hb) hL
def IC(hj:(ops[j]?).bind (·.dst)=some s)(hg:o.guard=some (j,b))(hb:st.ev (.tmp s)=aB b')(T:b'=true->DR P c ops Q st0 done st (o::rest))(hF:b'=false->DR P c ops Q st0 done st (o::rest)):DR P c ops Q st0 done st (o::rest):=by
 cases b'
 · exact hF U
 · exact T U
def IB[hm:H5 P](h:DR P c l.toArray Q st [] st l):L c st ((Code.region id l.toArray true).wp P Q):=DR.region hm.h h
def MK(T:AH ops done.reverse st0=true)(h:L c st (Q .normal)):DR P c ops Q st0 done st []:=DR.nil T h
end
end
end Go.Abs
namespace Go.Abs
section
variable [Dr]{P:Program}{c:C7}{fr:List (Nat×AV)}{bx:List (Nat×A5)}{tk:List (Nat×C9)}{ops:Array Oper}{Q:Exit->Act->World->Prop}{rest:List Oper}{d:Nat}{ty:TypeId}{pos:String}{aft:Array Edge}{st0:St}{done:List D5}
def s_Q{gs:aw}{f:FuncId}{args:Array Operand}{ats:Array TypeId}{b b':A5}{res:AV}(h:LW P c ⟨(d,res)::fr,(1000,b')::bx,tk⟩ ops Q rest)[aR:A0 P f](hb:bx.lookup 1000=some b:=by exact rfl)(hc:CallG gs P f (AV.pub.pubs (args.toList.map (St.ev ⟨fr,bx,tk⟩))) [(1000,b)] [(1000,b')] [] res:=by assumption)(hG:Glob gs c.E0 c.w0:=by assumption)(T:Nat.ble (d+1) c.nt=true:=by exact rfl)(ad:b.cs.isEmpty=false:=by exact rfl)(ar:AV.mentsIn [] b'.cs=true:=by exact rfl)(hr:AV.mentIn [] res=true:=by exact rfl):LW P c ⟨fr,bx,tk⟩ ops Q (⟨some d,.call {callee:= .value (.func f),args:=args,argTypes:=ats},ty,pos,aft,none⟩::rest):=jt T hG hc rfl hb ad ar hr h
def d_Q{gs:aw}{f:FuncId}{args:Array Operand}{ats:Array TypeId}{b b':A5}{res:AV}(h:DR P c ops Q st0 (⟨some (d,res),((1000,b'):: []),[],[],[1000],[],[]⟩::done) ⟨(d,res)::fr,(1000,b')::bx,tk⟩ rest)[aR:A0 P f](hb:bx.lookup 1000=some b:=by exact rfl)(hc:CallG gs P f (AV.pub.pubs (args.toList.map (St.ev ⟨fr,bx,tk⟩))) [(1000,b)] [(1000,b')] [] res:=by assumption)(hG:Glob gs c.E0 c.w0:=by assumption)(T:Nat.ble (d+1) c.nt=true:=by exact rfl)(ad:b.cs.isEmpty=false:=by exact rfl)(ar:AV.mentsIn [] b'.cs=true:=by exact rfl)(hr:AV.mentIn [] res=true:=by exact rfl):DR P c ops Q st0 done ⟨fr,bx,tk⟩ (⟨some d,.call {callee:= .value (.func f),args:=args,argTypes:=ats},ty,pos,aft,none⟩::rest):=BC T hG hc rfl hb ad ar hr h
end
section
variable [Dr]{P:Program}{c:C7}{fr:List (Nat×AV)}{bx:List (Nat×A5)}{tk:List (Nat×C9)}{ops:Array Oper}{Q:Exit->Act->World->Prop}{rest:List Oper}{d:Nat}{ty:TypeId}{pos:String}{aft:Array Edge}{st0:St}{done:List D5}
def iG{gs:aw}{f:FuncId}{fn:Func}{code:Code}{args:List AV}{bx bx':List (Nat×A5)}{T:List (Nat×C9)}{res:AV}{nt:Nat}(hf:P.funcs[f]?=some fn)(ad:fn.ntmps=nt)(h: ∀(w0:World) (E0:B9),Glob gs E0 w0->L ⟨nt,w0,E0,keys bx⟩ ⟨enter 0 args,bx,[]⟩ (code.wp P (bodyPost P fn (lj ⟨nt,w0,E0,keys bx⟩ bx' T res))))(hb:fn.body=some code:=by exact rfl)(hn:Nat.ble args.length nt=true:=by exact rfl):CallG gs P f args bx bx' T res:=CallG.intro nt hf hb ad hn h
def s_C{f:FuncId}{args:Array Operand}{ats:Array TypeId}{res:AV}(hc:CallA P f (AV.pub.pubs (args.toList.map (St.ev ⟨fr,bx,tk⟩))) [] [] [] res)(h:LW P c ⟨(d,res)::fr,bx,tk⟩ ops Q rest)[ar:A0 P f](T:Nat.ble (d+1) c.nt=true:=by exact rfl)(ad:AV.mentIn [] res=true:=by exact rfl):LW P c ⟨fr,bx,tk⟩ ops Q (⟨some d,.call {callee:= .value (.func f),args:=args,argTypes:=ats},ty,pos,aft,none⟩::rest):=gp T hc rfl ad h
def d_C{f:FuncId}{args:Array Operand}{ats:Array TypeId}{res:AV}(hc:CallA P f (AV.pub.pubs (args.toList.map (St.ev ⟨fr,bx,tk⟩))) [] [] [] res)(h:DR P c ops Q st0 (⟨some (d,res),[],[],[],[],[],[]⟩::done) ⟨(d,res)::fr,bx,tk⟩ rest)[ar:A0 P f](T:Nat.ble (d+1) c.nt=true:=by exact rfl)(ad:AV.mentIn [] res=true:=by exact rfl):DR P c ops Q st0 done ⟨fr,bx,tk⟩ (⟨some d,.call {callee:= .value (.func f),args:=args,argTypes:=ats},ty,pos,aft,none⟩::rest):=rf T hc rfl ad h
end
def bb:(∀b,(true && b)=b)/\(∀b,(b && true)=b)/\(∀b,(false||b)=b)/\(∀b,(b||false)=b)/\(∀b,(b||true)=true)/\(∀b,(true||b)=true)/\(∀b,(false && b)=false)/\(∀b,(b && false)=false)/\((!true)=false)/\((!false)=true)/\(∀ [Decidable True],decide True=true)/\(∀ [Decidable False],decide False=false):=⟨Bool.true_and,Bool.and_true,Bool.false_or,Bool.or_false,Bool.or_true,Bool.true_or,Bool.false_and,Bool.and_false,rfl,rfl,by intro i;simp,by intro i;simp⟩
end Go.Abs
namespace Go.Abs
variable [Dr]
section
variable {cs:List AV}{es:List (List IV)}{i id k n off:Nat}{x:AV}{α β:Type}
def eC{X:Option α}{l l':α}(h:X=some l)(hl:l=l'):X=some l':=h.trans (congrArg some hl)
def eM{X:List α}(h:X= []):X= []:=h
def dx{X:List α}{x T:α}{t t':List α}(h:X=x::t)(hx:x=T)(ht:t=t'):X=T::t':=by rw[h,hx,ht]
def pE{v:Value}(h:x= .iv (.im v)):x= .iv (.im v):=h
def pC(h:x= .iv (.sl es)):x= .iv (.sl es):=h
def pD{y:IV}(h:x= .iv y):x= .iv y:=h
def fP(h:x= .row id es):x= .row id es:=h
def qI(h:x= .emp):x= .emp:=h
def fU(h:x= .nils):x= .nils:=h
def fQ(h:x= .ptr id off):x= .ptr id off:=h
def fW(h:x= .bsh id off n k):x= .bsh id off n k:=h
def fV{cap:Nat}(h:x= .bsl id off n cap):x= .bsl id off n cap:=h
def fY(h:x= .any):x= .any:=h
def qJ(h:x= .agg cs):x= .agg cs:=h
def qH(h:x= .tup cs):x= .tup cs:=h
def Es{f:FuncId}(h:x= .fn f cs):x= .fn f cs:=h
def nk{x:IV}{v:Value}(h:x= .im v):x= .im v:=h
def nj{x:IV}(h:x= .sl es):x= .sl es:=h
def ME{m:List α}{b:α}(h:m[i]?=some b):m[((i:Nat):Int).toNat]?=some b:=by simpa using h
def fZ{l:List α}{v:α}(h:l[i]?=some v):decide ((i:Int)<(l.length:Int))=true:=by
 have:=(gS h).1;simpa using this
def gc{l:List α}(h:l[i]?=none):decide ((i:Int)<(l.length:Int))=false:=by
 have:=gO h;simpa using this
def cM{f:α->β}{l:List α}{v:α}(h:l[i]?=some v):(l.map f)[i]?=some (f v):=by simp[h]
def bz{f:α->β}{l:List α}(h:l[i]?=none):(l.map f)[i]?=none:=by simpa using h
def bV: ∀e∈([]:List (List IV)),e.length=k:=fun e h=>by cases h
def cF{a b:List (List IV)}(h1: ∀e∈a,e.length=k)(h2: ∀e∈b,e.length=k): ∀e∈a++b,e.length=k:=fun e h=>(mA h).elim (h1 e) (h2 e)
def jm{f:α->List IV}{l:List α}(h: ∀x,(f x).length=k): ∀e∈l.map f,e.length=k:=fun e he=>by
 obtain⟨x,_,rfl⟩:=mM he;exact h x
def bB{a:List IV}{l:List (List IV)}(h:a.length=k)(t: ∀e∈l,e.length=k): ∀e∈a::l,e.length=k:=fun e he=>by
 rcases List.mem_cons.1 he with rfl|he
 · exact h
 · exact t e he
def fM{l:List α}{v:α}(h:l[i]?=some v):i<l.length:=(gS h).1
def fu{l:List α}{v:α}(h:l[i]?=some v):l.drop i=v::l.drop (i+1):=by
 obtain⟨hl,T⟩:=gS h;rw[List.drop_eq_getElem_cons hl,T]
def oF{l:List α}(h:l[i]?=none):l.drop i= []:=dL (gO h)
def dv{l:List α}{v:α}(h:l[i]?=some v):l.take (i+1)=l.take i++ [v]:=by
 rw[List.take_add_one,h];rfl
def KU{l:List α}(h:l[i]?=none):l.take i=l:=tL (gO h)
end
section
variable {P:Program}{c:C7}{st:St}
def St.only(l:List Nat)(st:St):St:=⟨l.filterMap fun s=>(st.fr.lookup s).map fun v=>(s,v),st.bx,st.tk⟩
def qG(fr:List (Nat×AV)): ∀(l:List Nat) (s:Nat) (v:AV),(l.filterMap fun s=>(fr.lookup s).map fun v=>(s,v)).lookup s=some v->fr.lookup s=some v
 | [],s,v,h=>by simp at h
 |a::l,s,v,h=>by
  cases T:fr.lookup a with
  |none=>simp only[List.filterMap_cons,T,Option.map_none] at h;exact qG fr l s v h
  |some u=>
   simp only[List.filterMap_cons,T,Option.map_some] at h;by_cases e:s=a
   · subst e;rw[aj] at h;cases h;exact T
   · rw[aa e] at h;exact qG fr l s v h
def L.only(l:List Nat){X:Act->World->Prop}(h:L c (st.only l) X):L c st X:=fun a w hr=>by
 obtain⟨E,hi⟩:=hr;exact h a w ⟨E,hi.defers,hi.size,fun s v T=>hi.slot s v (qG st.fr l s v T),hi.heap⟩
def St.onlyS(l b:List Nat)(st:St):St:=⟨l.filterMap fun s=>(st.fr.lookup s).map fun v=>(s,v),b.filterMap fun s=>(st.bx.lookup s).map fun v=>(s,v),st.tk⟩
def rM(fr:List (Nat×A5)): ∀(l:List Nat) (s:Nat) (v:A5),(l.filterMap fun s=>(fr.lookup s).map fun v=>(s,v)).lookup s=some v->fr.lookup s=some v
 | [],s,v,h=>by simp at h
 |a::l,s,v,h=>by
  cases T:fr.lookup a with
  |none=>simp only[List.filterMap_cons,T,Option.map_none] at h;exact rM fr l s v h
  |some u=>
   simp only[List.filterMap_cons,T,Option.map_some] at h;by_cases e:s=a
   · subst e;rw[aj] at h;cases h;exact T
   · rw[aa e] at h;exact rM fr l s v h
def L.onlyS(l b:List Nat){X:Act->World->Prop}(T:c.ins.all (fun i=>((st.onlyS l b).bx.lookup i).isSome)=true)(h:L c (st.onlyS l b) X):L c st X:=
 .wk ⟨fun id ad=>aT T id ad,fun s v hv=>⟨v,qG st.fr l s v hv,Sub.refl _⟩,fun id bb hb=>⟨bb,rM st.bx b id bb hb,rfl,Subs.refl _⟩,fun id t ht=>ht⟩ h
def ae{ι:Type}{Q:Exit->Act->World->Prop}(inv:ι->St)(n:ι->Nat)(I:ι->Prop){i0:ι}(h0:Wk c st (inv i0))(p0:I i0){x:Code}
 (h: ∀i,I i-> ∀K:Act->World->Prop,(∀st' i',I i'->n i'<n i->Wk c st' (inv i')->L c st' K)->L c (inv i) (x.wp P (Exit.then K Q))):L c st ((Code.loop x).wp P Q):=
 L.loop (ι:={i:ι // I i}) (fun i=>inv i.1) (fun i=>n i.1) (i0:=⟨i0,p0⟩) h0 fun i K hK=>h i.1 i.2 K fun st' i' T hn hw=>hK st' ⟨i',T⟩ hn hw
def Sub.resOf{vs:List AV}:Sub (Go.Abs.resOf vs) (Go.Abs.resOf (AV.pub.pubs vs)):=by
 match vs with
 | [] =>exact fR
 | [v] =>exact Sub.pub v
 |v::w::r=>exact Sub.tup (Subs.pubs (v::w::r))
def L.endsP{fn:Func}{bx':List (Nat×A5)}{res:AV}{rs:List ResultVar}{vs:List AV}(ad:fn.results=rs.toArray)(T:(st.ress P rs).map AV.pub.pubs=some vs)(hi:c.ins= [])(he:resOf vs=res):
 L c st (bodyPost P fn (lj c [] [] res) .ret):=by
 cases h:st.ress P rs with
 |none=>rw[h] at T;cases T
 |some us=>rw[h] at T;cases T;exact L.ends ad h (he▸Sub.resOf) (KK hi)
section
variable {fn:Func}{res:AV}{rs:List ResultVar}{y z u:IV}{cs:List AV}
def L.ends1(T:fn.results=rs.toArray)(hv:(st.ress P rs).map AV.pub.pubs=some [.iv y])(hi:c.ins= [])(he:AV.iv y=res):L c st (bodyPost P fn (lj c [] [] res) .ret):=L.endsP (bx':= []) T hv hi he
def L.ends1A(T:fn.results=rs.toArray)(hv:(st.ress P rs).map AV.pub.pubs=some [.agg cs])(hi:c.ins= [])(he:AV.agg cs=res):L c st (bodyPost P fn (lj c [] [] res) .ret):=L.endsP (bx':= []) T hv hi he
def L.ends2(T:fn.results=rs.toArray)(hv:(st.ress P rs).map AV.pub.pubs=some [.iv y,.iv z])(hi:c.ins= [])(he:AV.tup [.iv y,.iv z] =res):L c st (bodyPost P fn (lj c [] [] res) .ret):=L.endsP (bx':= []) T hv hi he
def L.ends2A(T:fn.results=rs.toArray)(hv:(st.ress P rs).map AV.pub.pubs=some [.agg cs,.iv z])(hi:c.ins= [])(he:AV.tup [.agg cs,.iv z] =res):L c st (bodyPost P fn (lj c [] [] res) .ret):=L.endsP (bx':= []) T hv hi he
def L.ends3A(T:fn.results=rs.toArray)(hv:(st.ress P rs).map AV.pub.pubs=some [.agg cs,.iv z,.iv u])(hi:c.ins= [])(he:AV.tup [.agg cs,.iv z,.iv u] =res):L c st (bodyPost P fn (lj c [] [] res) .ret):=L.endsP (bx':= []) T hv hi he
def L.ends3(T:fn.results=rs.toArray)(hv:(st.ress P rs).map AV.pub.pubs=some [.iv y,.iv z,.iv u])(hi:c.ins= [])(he:AV.tup [.iv y,.iv z,.iv u] =res):L c st (bodyPost P fn (lj c [] [] res) .ret):=L.endsP (bx':= []) T hv hi he
end
end
end Go.Abs
namespace Go.Abs
variable [Dr]
open Go.RowKit (Below)
def mb(φ:Nat->Nat):B9:=⟨φ,fun _=>0,fun _=> .slice none 0 0⟩
def RelL.cons{E:B9}{w:World}{v:AV}{u:Value}{vs:List AV}{us:List Value}(h:A6 E w v u)(t:RelL E w vs us):RelL E w (v::vs) (u::us):=
 ⟨by simp[t.1],fun i c x hc T=>by
   cases i with
   |zero=>simp at hc T;subst hc;subst T;exact h
   |succ i=>exact t.2 i c x (by simpa using hc) (by simpa using T)⟩
end Go.Abs
namespace Go.Abs
variable [Dr]
section
variable {P:Program}{c:C7}{fr:List (Nat×AV)}{bx:List (Nat×A5)}{tk:List (Nat×C9)}{ops:Array Oper}{Q:Exit->Act->World->Prop}{rest:List Oper}{d:Nat}{ty:TypeId}{pos:String}{aft:Array Edge}{st0:St}{done:List D5}
def fct{p q X:Prop}(hb:p)(k:q->X)(hq:p->q:=by(intro T;(try simp only[decide_eq_true_eq,decide_eq_false_iff_not,beq_iff_eq,beq_eq_false_iff_ne,bne_iff_ne,bne_eq_false_iff_eq,ne_eq,Bool.not_eq_true,Bool.not_eq_false,Bool.not_eq_eq_eq_not,Bool.not_true,Bool.not_false,Bool.or_eq_true,Bool.or_eq_false_iff,Bool.and_eq_true,Bool.and_eq_false_iff,Int.not_lt,Int.not_le] at T);exact T)):X:=k (hq hb)
def Ni{x y:AV}(h:x=y:=by(first|exact pE rfl|exact pC rfl|exact pD rfl|exact fQ rfl|exact fP rfl|exact fU rfl|exact qI rfl|exact fW rfl|exact fV rfl|exact fY rfl|exact qJ rfl|exact T rfl|exact qH rfl|exact Es rfl|exact rfl)):x=y:=h
def Nh{α:Type}{X Y:List α}(h:X=Y:=by(focus repeat' (first|exact eM U|(apply dx;rfl)|exact pE U|exact pC U|exact pD U|exact fP U|exact fU U|exact fQ U|exact fW U|exact fV U|exact fY U|exact nk U|exact nj U|rfl))):X=Y:=h
def lnq{es:List (List IV)}{k:Nat}(h: ∀e∈es,e.length=k:=by(focus repeat' (first|exact bV|apply cF|(refine jm (fun x=>rfl))|(refine bB U ?_)|exact T U|assumption))): ∀e∈es,e.length=k:=h
def KS{st:St}{b:BinOp}{x y:Operand}{t t':TypeId}{v:AV}{tb:List Nat}(h:VV P c st ⟨some d,.binOp b t x y t',ty,pos,aft,none⟩ v tb):VV P c st ⟨some d,.binOp b t x y t',ty,pos,aft,none⟩ v tb:=h
def vlq{st:St}{v:AV}{tb:List Nat}{op:Op}(h:VV P c st ⟨some d,op,ty,pos,aft,none⟩ v tb:=by(first|(apply zH;exact rfl;exact rfl;(apply eC;exact rfl;exact Ni))|(apply zO;exact rfl;exact rfl)|(apply Ml;exact Ni)|(apply Mm;exact Ni)|(apply cO;exact rfl;exact rfl;exact Nh;exact rfl)|(apply zP;exact rfl;exact rfl)|(apply zJ;exact rfl;exact rfl)|(apply zG;exact rfl;exact Nh;exact rfl)|(apply wU;exact rfl;(apply eC;exact rfl;exact Ni))|(apply Gl;exact rfl)|(apply zN;exact rfl;(apply eC;exact rfl;exact Ni))|(apply KS;first|(apply GC;exact rfl;exact rfl)|(apply Gn;exact rfl;exact rfl)|(apply Gs;exact rfl;exact rfl)|(apply Gu;exact rfl;exact rfl)|(apply Gy;exact rfl;exact rfl)|(apply GA;exact rfl;exact rfl)|(apply GB;exact rfl;exact rfl)|(apply Gm;exact rfl;exact rfl)|(apply Gr;exact rfl;exact rfl)|(apply Gt;exact rfl;exact rfl)|(apply Gx;exact rfl;exact rfl)|(apply Gz;exact rfl;exact rfl)|(apply DO;exact rfl;exact rfl)|(apply zQ;exact rfl;exact rfl;exact rfl;exact rfl)|(apply zF;exact rfl;exact rfl;exact rfl;exact rfl)|(apply iU;exact rfl;exact rfl;(first|omega|decide|(dsimp only;omega));(first|omega|decide|(dsimp only;omega)))|(apply pS;exact rfl;exact rfl;(first|omega|decide|(dsimp only;omega));(first|omega|decide|(dsimp only;omega)))|(apply Gp;exact rfl;exact rfl;(first|omega|decide|(dsimp only;omega));(first|omega|decide|(dsimp only;omega)))|(apply GF;exact rfl;exact rfl;(first|omega|(dsimp only;omega)|(simp;done)|(simp;omega)))|(apply Gi;exact rfl;exact rfl;(first|decide|omega|(dsimp only;omega)))|(apply GD;exact rfl;exact rfl)|(apply Gk;exact rfl;exact rfl;(first|decide|omega|(dsimp only;omega));(first|omega|decide|(dsimp only;omega));(first|omega|decide|(dsimp only;omega)))|(apply Gj;exact rfl;exact rfl;(first|decide|omega|(dsimp only;omega))))|(apply Gv;exact rfl)|(apply DN;exact rfl)|(apply KR;exact rfl)|(apply DP;exact rfl;(apply eC;exact rfl;exact Nh))|(apply zR;exact rfl)|(apply Ck;exact rfl)|(apply zV;exact rfl)|(apply bE;exact rfl;exact rfl;(first|omega|decide|(dsimp only;omega));(exact ME (by assumption)))|(apply zM;exact rfl;exact rfl;(first|omega|decide|(dsimp only;omega));(first|omega|decide|(dsimp only;omega)))|(apply cd;exact rfl;exact rfl;(first|omega|decide|(dsimp only;omega));(exact Go.Abs.getM (by assumption));exact rfl)|(apply cd;exact rfl;exact rfl;(first|omega|decide|(dsimp only;omega));assumption;exact rfl)|(apply Gw;exact rfl;exact rfl)|(apply Gq;exact rfl;exact rfl)|(apply zK;exact rfl)|(apply zL;exact rfl)|(apply zU;exact rfl)|(apply DL;exact rfl;(first|exact rfl|assumption);exact Ni)|(apply DM;exact rfl;(first|exact rfl|assumption);exact Ni)|(apply yu;exact rfl;(first|omega|decide|(dsimp only;omega));(first|omega|decide|(dsimp only;omega)))|(apply aA;exact Nh))):VV P c st ⟨some d,op,ty,pos,aft,none⟩ v tb:=h
def s_v{v:AV}{tb:List Nat}{op:Op}(h:LW P c ⟨(d,v)::fr,bx,tk⟩ ops Q rest)(T:Nat.ble (d+1) c.nt=true:=by exact rfl)(hv:VV P c ⟨fr,bx,tk⟩ ⟨some d,op,ty,pos,aft,none⟩ v tb:=by exact vlq):LW P c ⟨fr,bx,tk⟩ ops Q (⟨some d,op,ty,pos,aft,none⟩::rest):=ag T hv h
def d_v{v:AV}{tb:List Nat}{op:Op}(h:DR P c ops Q st0 (⟨some (d,v),[],[],[],tb,[],[]⟩::done) ⟨(d,v)::fr,bx,tk⟩ rest)(T:Nat.ble (d+1) c.nt=true:=by exact rfl)(hv:VV P c ⟨fr,bx,tk⟩ ⟨some d,op,ty,pos,aft,none⟩ v tb:=by exact vlq):DR P c ops Q st0 done ⟨fr,bx,tk⟩ (⟨some d,op,ty,pos,aft,none⟩::rest):=bg T hv h
def s_m{st st':St}{o:Oper}(h:LW P c st' ops Q rest)(hs:LW P c st' ops Q rest->LW P c st ops Q (o::rest):=by(intro T;(first|(apply Mr;exact rfl;exact rfl;exact rfl;exact Nh;exact rfl;exact rfl;exact T)|(apply Ee;exact rfl;exact rfl;exact Nh;exact rfl;exact rfl;exact T)|(apply Eb;exact rfl;exact rfl;exact rfl;exact rfl;exact rfl;exact rfl;exact Nh;exact T)|(apply mw;exact rfl;exact rfl;exact rfl;exact rfl;exact rfl;(apply eC;exact rfl;exact Nh);(apply eC;exact rfl;exact Nh);exact rfl;exact Nh;exact rfl;exact T)|(apply bJ;exact rfl;exact rfl;exact rfl;exact rfl;exact lnq;exact lnq;(first|(simp[maxLen,ah];done)|(simp[maxLen,ah];omega));(first|(simp[maxLen,ah];done)|(simp[maxLen,ah];omega));exact rfl;exact rfl;exact T)|(apply sK;exact rfl;exact rfl;exact rfl;exact lnq;(first|(simp[maxLen,ah];done)|(simp[maxLen,ah];omega));(first|(simp[maxLen,ah];done)|(simp[maxLen,ah];omega));exact rfl;exact T)|(apply Fj;exact rfl;exact rfl;exact rfl;exact rfl;exact lnq;(first|(simp[maxLen,ah];done)|(simp[maxLen,ah];omega));(first|(simp[maxLen,ah];done)|(simp[maxLen,ah];omega));exact rfl;exact rfl;exact T)|(apply An;exact rfl;exact rfl;exact rfl;(first|exact rfl|assumption);exact T)|(apply Ao;exact rfl;exact rfl;exact rfl;(first|exact rfl|assumption);exact T)|(apply Am;exact rfl;exact rfl;exact rfl;exact T)))):LW P c st ops Q (o::rest):=hs h
def d_m{st st':St}{T:List D5}{o:Oper}(h:DR P c ops Q st0 T st' rest)(hs:DR P c ops Q st0 T st' rest->DR P c ops Q st0 done st (o::rest):=by(intro hq;(first|(apply Kv;exact rfl;exact rfl;exact Nh;exact rfl;exact rfl;exact hq)|(apply Ku;exact rfl;exact rfl;exact rfl;exact rfl;exact rfl;exact rfl;exact Nh;exact hq)|(apply IG;exact rfl;exact rfl;exact rfl;exact rfl;exact rfl;(apply eC;exact rfl;exact Nh);(apply eC;exact rfl;exact Nh);exact rfl;exact Nh;exact rfl;exact hq)|(apply rh;exact rfl;exact rfl;exact rfl;exact rfl;exact lnq;exact lnq;(first|(simp[maxLen,ah];done)|(simp[maxLen,ah];omega));(first|(simp[maxLen,ah];done)|(simp[maxLen,ah];omega));exact rfl;exact rfl;exact hq)|(apply IE;exact rfl;exact rfl;exact rfl;(first|exact rfl|assumption);exact hq)|(apply IF;exact rfl;exact rfl;exact rfl;(first|exact rfl|assumption);exact hq)|(apply ID;exact rfl;exact rfl;exact rfl;exact hq)))):DR P c ops Q st0 done st (o::rest):=hs h
def MU{dst:Option Tmp}{op:Op}{st:St}{j s:Nat}{b b':Bool}(h:LW P c st ops Q (⟨dst,op,ty,pos,aft,none⟩::rest))(T:(ops[j]?).bind (·.dst)=some s:=by exact rfl)(hb:st.ev (.tmp s)=aB b':=by exact rfl)(he:b'=b:=by(first|exact rfl|assumption)):LW P c st ops Q (⟨dst,op,ty,pos,aft,some (j,b)⟩::rest):=Mq T hb he h
def Nd{dst:Option Tmp}{op:Op}{st:St}{j s:Nat}{b b':Bool}(h:DR P c ops Q st0 done st (⟨dst,op,ty,pos,aft,none⟩::rest))(T:(ops[j]?).bind (·.dst)=some s:=by exact rfl)(hb:st.ev (.tmp s)=aB b':=by exact rfl)(he:b'=b:=by(first|exact rfl|assumption)):DR P c ops Q st0 done st (⟨dst,op,ty,pos,aft,some (j,b)⟩::rest):=ML T hb he h
def Nf{st:St}{K X:Act->World->Prop}(h:L c st K)(hs:L c st K->L c st X:=by(intro T;(first|exact MM T|exact L.block T|exact KM T|exact L.thenE T|exact L.thenR T|exact MR T|exact L.inR T|exact L.inE T|(apply L.inO;exact rfl;exact T)|exact L.ret T|exact L.exit T|exact L.skip T|(apply Ky;exact rfl;(first|exact rfl|assumption);exact T)|(apply Kz;exact rfl;(first|exact rfl|assumption);exact T)))):L c st X:=hs h
def am{X Y:Prop}(h:X)(hs:X->Y:=by(intro T;first|(refine LW.is ?_;first|exact s_v T|exact s_m T|exact Ec T|exact MU T|(apply gp (h:=T) (ha:=rfl);exact rfl;assumption;exact rfl)|(apply dK (h:=T) (ha:=rfl);exact rfl;assumption;assumption;exact rfl)|(apply xe (h:=T) (ha:=rfl);exact rfl;assumption;exact rfl)|(apply ju (h:=T) (ha:=rfl);exact rfl;assumption;exact rfl;exact rfl))|(refine DR.is ?_;first|exact d_v T|exact d_m T|(apply MK;kernel_rfl;exact T)|exact Nd T|(apply rf (h:=T) (ha:=rfl);exact rfl;assumption;exact rfl)|(apply tX (h:=T) (ha:=rfl);exact rfl;assumption;assumption;exact rfl)|(apply FL (h:=T) (ha:=rfl);exact rfl;assumption;exact rfl)|(apply ld (h:=T) (ha:=rfl);exact rfl;assumption;exact rfl;exact rfl))|exact Nf T|exact Hf T|exact IB T|fail)):Y:=hs h
def al{p p1 q q1 X1 X2 Y:Prop}(h1:p->p1->X1)(h2:q->q1->X2)(hs:(p->p1->X1)->(q->q1->X2)->Y:=by(intro h1 h2;first|(refine LW.is ?_;exact Hg rfl rfl rfl (fun T=>fct T (h1 T)) (fun T=>fct T (h2 T)))|(refine DR.is ?_;exact IC rfl rfl rfl (fun T=>fct T (h1 T)) (fun T=>fct T (h2 T)))|exact L.cond rfl (fun T=>fct T (h1 T)) (fun T=>fct T (h2 T))|fail)):Y:=hs h1 h2
def aU{X Y:Prop}(h:X)(hs:X->Y:=by(intro T;first|(apply L.ends1;exact rfl;exact rfl;exact rfl;exact T)|(apply L.ends2;exact rfl;exact rfl;exact rfl;exact T)|(apply L.ends3;exact rfl;exact rfl;exact rfl;exact T)|(apply L.ends1A;exact rfl;exact rfl;exact rfl;exact T)|(apply L.ends2A;exact rfl;exact rfl;exact rfl;exact T)|(apply L.ends3A;exact rfl;exact rfl;exact rfl;exact T)|fail)):Y:=hs h
def df{st:St}{Fc:St}(h:Wk c st Fc:=by(refine Wk.mk' (by intro id h;cases h) ?_ ?_ ?_<;>repeat' (first|exact E6.nil|exact E3.nil|exact F9.nil|(refine E6.cons rfl (Sub.refl _) ?_)|(refine E3.cons rfl rfl (Subs.refl _) ?_)|(refine F9.cons rfl ?_)))):Wk c st Fc:=h
end
structure Hq (X:Prop):Prop where
 o:X
def wke{X Y:Prop}(h:X)(hs:X->Y:=by(intro T;first|exact am T|exact aU T)):Y:=hs h
def wz{X Y:Prop}(h:X)(hs:Hq X->Y:=by(intro T;(repeat' (first|intro hb hp|refine am ?_|refine al ?_ ?_|fail));exact T.1)):Y:=hs ⟨h⟩
def wy{X Y:Prop}(h:X)(hs:Hq X->Y:=by(intro T;(repeat' (first|intro hb hp|refine wke ?_|refine al ?_ ?_|fail));exact T.1)):Y:=hs ⟨h⟩
def wr{Y:Prop}(h:Y:=by((repeat' (first|intro T hp|refine wke ?_|refine al ?_ ?_|fail));all_goals exact rfl)):Y:=h
def wR{Y:Prop}(h:Y:=by((repeat' (first|intro T hp|refine wke ?_|refine al ?_ ?_|fail));all_goals kernel_rfl)):Y:=h
def ws{Y:Prop}(h:Y:=by((repeat' (first|intro T hp|refine am ?_|refine al ?_ ?_|fail));all_goals refine aU ?_;all_goals exact rfl)):Y:=h
def wS{Y:Prop}(h:Y:=by((repeat' (first|intro T hp|refine am ?_|refine al ?_ ?_|fail));all_goals refine aU ?_;all_goals kernel_rfl)):Y:=h
def wE{Y:Prop}(h:Y:=by((repeat' (first|intro T hp|refine am ?_|refine al ?_ ?_|fail));all_goals exact L.ends rfl rfl sE wK)):Y:=h
end Go.Abs
namespace Go.Proofs.Y
open Go Go.Abs
instance:C1 Tryz.prog 3 false 1:=⟨kR⟩
instance:C2 Tryz.prog 3 [.int .i64 0]:=⟨kR⟩
instance:D9 Tryz.prog 3 .i64:=⟨kR⟩
instance:C1 Tryz.prog 4 false 1:=⟨kR⟩
instance:C2 Tryz.prog 5 [.int .u8 0]:=⟨kR⟩
instance:D9 Tryz.prog 5 .u8:=⟨kR⟩
instance:C1 Tryz.prog 9 false 1:=⟨kR⟩
instance:C2 Tryz.prog 9 [.string ⟨#[]⟩]:=⟨kR⟩
instance:E7 Tryz.prog 9:=⟨kR⟩
instance:A8 Tryz.prog 22 72 1:=⟨kR⟩
instance:D7 Tryz.prog 22 72 1 16:=⟨kR⟩
instance:C1 Tryz.prog 23 false 1:=⟨kR⟩
instance:H4 Tryz.prog 23:=⟨kR⟩
instance:A8 Tryz.prog 27 80 20:=⟨kR⟩
instance:D7 Tryz.prog 27 80 20 320:=⟨kR⟩
instance:C1 Tryz.prog 28 false 1:=⟨kR⟩
instance:C1 Tryz.prog 32 false 1:=⟨kR⟩
instance:A8 Tryz.prog 32 35 1:=⟨kR⟩
instance:D7 Tryz.prog 32 35 1 24:=⟨kR⟩
instance:D6 Tryz.prog 32 35 1 24:=⟨kR⟩
instance:C1 Tryz.prog 35 false 1:=⟨kR⟩
instance:C2 Tryz.prog 35 [.slice none 0 0]:=⟨kR⟩
instance:A8 Tryz.prog 35 41 3:=⟨kR⟩
instance:D7 Tryz.prog 35 41 3 32:=⟨kR⟩
instance:D6 Tryz.prog 35 41 3 32:=⟨kR⟩
instance:A8 Tryz.prog 38 5 1:=⟨kR⟩
instance:D7 Tryz.prog 38 5 1 1:=⟨kR⟩
instance:C1 Tryz.prog 41 true 3:=⟨kR⟩
instance:C2 Tryz.prog 41 [.int .i64 0,.int .i64 0,.string ⟨#[]⟩]:=⟨kR⟩
instance:B7 Tryz.prog 41 0 0:=⟨kR⟩
instance:B7 Tryz.prog 41 1 1:=⟨kR⟩
instance:B7 Tryz.prog 41 2 2:=⟨kR⟩
instance:D0 Tryz.prog 41 [(0,1),(1,1),(2,1)]:=⟨kR⟩
instance:G7 Tryz.prog 41 [1,1,3]:=⟨kR⟩
instance:C1 Tryz.prog 44 false 1:=⟨kR⟩
instance:A8 Tryz.prog 44 57 2:=⟨kR⟩
instance:D7 Tryz.prog 44 57 2 40:=⟨kR⟩
instance:D6 Tryz.prog 44 57 2 40:=⟨kR⟩
instance:C1 Tryz.prog 45 false 1:=⟨kR⟩
instance:A8 Tryz.prog 45 67 3:=⟨kR⟩
instance:D7 Tryz.prog 45 67 3 48:=⟨kR⟩
instance:D6 Tryz.prog 45 67 3 48:=⟨kR⟩
instance:C1 Tryz.prog 47 true 2:=⟨kR⟩
instance:C2 Tryz.prog 47 [.slice none 0 0,.slice none 0 0]:=⟨kR⟩
instance:B7 Tryz.prog 47 0 0:=⟨kR⟩
instance:B7 Tryz.prog 47 1 1:=⟨kR⟩
instance:D0 Tryz.prog 47 [(0,1),(1,1)]:=⟨kR⟩
instance:C1 Tryz.prog 49 false 1:=⟨kR⟩
instance:A8 Tryz.prog 49 93 2:=⟨kR⟩
instance:D7 Tryz.prog 49 93 2 48:=⟨kR⟩
instance:D6 Tryz.prog 49 93 2 48:=⟨kR⟩
instance:C1 Tryz.prog 51 true 1:=⟨kR⟩
instance:C2 Tryz.prog 51 [.slice none 0 0]:=⟨kR⟩
instance:B7 Tryz.prog 51 0 0:=⟨kR⟩
instance:E9 Tryz.prog 51 0 0:=⟨kR⟩
instance:C1 Tryz.prog 55 false 1:=⟨kR⟩
instance:A8 Tryz.prog 55 63 3:=⟨kR⟩
instance:D6 Tryz.prog 55 63 3 32:=⟨kR⟩
instance:C1 Tryz.prog 57 true 2:=⟨kR⟩
instance:C2 Tryz.prog 57 [.string ⟨#[]⟩,.slice none 0 0]:=⟨kR⟩
instance:B7 Tryz.prog 57 0 0:=⟨kR⟩
instance:B7 Tryz.prog 57 1 1:=⟨kR⟩
instance:D0 Tryz.prog 57 [(0,1),(1,1)]:=⟨kR⟩
instance:C1 Tryz.prog 60 true 3:=⟨kR⟩
instance:C2 Tryz.prog 60 [.string ⟨#[]⟩,.string ⟨#[]⟩,.string ⟨#[]⟩]:=⟨kR⟩
instance:B7 Tryz.prog 60 0 0:=⟨kR⟩
instance:B7 Tryz.prog 60 1 1:=⟨kR⟩
instance:B7 Tryz.prog 60 2 2:=⟨kR⟩
instance:E9 Tryz.prog 60 2 2:=⟨kR⟩
instance:D0 Tryz.prog 60 [(0,1),(1,1),(2,1)]:=⟨kR⟩
instance:C1 Tryz.prog 63 true 3:=⟨kR⟩
instance:C2 Tryz.prog 63 [.string ⟨#[]⟩,.int .i64 0,.bool false]:=⟨kR⟩
instance:B7 Tryz.prog 63 0 0:=⟨kR⟩
instance:B7 Tryz.prog 63 1 1:=⟨kR⟩
instance:B7 Tryz.prog 63 2 2:=⟨kR⟩
instance:D0 Tryz.prog 63 [(0,1),(1,1),(2,1)]:=⟨kR⟩
instance:G7 Tryz.prog 63 [3,1,2]:=⟨kR⟩
instance:C1 Tryz.prog 67 true 3:=⟨kR⟩
instance:C2 Tryz.prog 67 [.string ⟨#[]⟩,.string ⟨#[]⟩,.string ⟨#[]⟩]:=⟨kR⟩
instance:B7 Tryz.prog 67 0 0:=⟨kR⟩
instance:B7 Tryz.prog 67 1 1:=⟨kR⟩
instance:B7 Tryz.prog 67 2 2:=⟨kR⟩
instance:D0 Tryz.prog 67 [(0,1),(1,1),(2,1)]:=⟨kR⟩
instance:G7 Tryz.prog 67 [3,3,3]:=⟨kR⟩
instance:C1 Tryz.prog 69 true 3:=⟨kR⟩
instance:C2 Tryz.prog 69 [.int .i64 0,.int .i64 0,.slice none 0 0]:=⟨kR⟩
instance:B7 Tryz.prog 69 0 0:=⟨kR⟩
instance:B7 Tryz.prog 69 1 1:=⟨kR⟩
instance:B7 Tryz.prog 69 2 2:=⟨kR⟩
instance:E9 Tryz.prog 69 0 0:=⟨kR⟩
instance:D0 Tryz.prog 69 [(0,1),(1,1),(2,1)]:=⟨kR⟩
instance:C1 Tryz.prog 72 true 1:=⟨kR⟩
instance:C2 Tryz.prog 72 [.string ⟨#[]⟩]:=⟨kR⟩
instance:B7 Tryz.prog 72 0 0:=⟨kR⟩
instance:D0 Tryz.prog 72 [(0,1)]:=⟨kR⟩
instance:C1 Tryz.prog 73 false 1:=⟨kR⟩
instance:A8 Tryz.prog 73 76 1:=⟨kR⟩
instance:D7 Tryz.prog 73 76 1 24:=⟨kR⟩
instance:D6 Tryz.prog 73 76 1 24:=⟨kR⟩
instance:C1 Tryz.prog 74 false 1:=⟨kR⟩
instance:A8 Tryz.prog 74 144 9:=⟨kR⟩
instance:D7 Tryz.prog 74 144 9 120:=⟨kR⟩
instance:D6 Tryz.prog 74 144 9 120:=⟨kR⟩
instance:C1 Tryz.prog 75 false 1:=⟨kR⟩
instance:C2 Tryz.prog 75 [.slice none 0 0]:=⟨kR⟩
instance:A8 Tryz.prog 75 9 1:=⟨kR⟩
instance:D7 Tryz.prog 75 9 1 16:=⟨kR⟩
instance:D6 Tryz.prog 75 9 1 16:=⟨kR⟩
instance:C1 Tryz.prog 76 false 1:=⟨kR⟩
instance:C2 Tryz.prog 76 [.slice none 0 0]:=⟨kR⟩
instance:A8 Tryz.prog 76 78 8:=⟨kR⟩
instance:D7 Tryz.prog 76 78 8 104:=⟨kR⟩
instance:D6 Tryz.prog 76 78 8 104:=⟨kR⟩
instance:C1 Tryz.prog 78 true 8:=⟨kR⟩
instance:C2 Tryz.prog 78 [.int .i64 0,.int .i64 0,.int .i64 0,.string ⟨#[]⟩,.string ⟨#[]⟩,.string ⟨#[]⟩,.int .i64 0,.slice none 0 0]:=⟨kR⟩
instance:B7 Tryz.prog 78 0 0:=⟨kR⟩
instance:B7 Tryz.prog 78 1 1:=⟨kR⟩
instance:B7 Tryz.prog 78 2 4:=⟨kR⟩
instance:B7 Tryz.prog 78 3 5:=⟨kR⟩
instance:B7 Tryz.prog 78 4 6:=⟨kR⟩
instance:B7 Tryz.prog 78 5 7:=⟨kR⟩
instance:D0 Tryz.prog 78 [(0,1),(1,3),(4,1),(5,1),(6,1),(7,1)]:=⟨kR⟩
instance:C1 Tryz.prog 80 true 20:=⟨kR⟩
instance:C2 Tryz.prog 80 [.int .i64 0,.string ⟨#[]⟩,.string ⟨#[]⟩,.string ⟨#[]⟩,.slice none 0 0,.slice none 0 0,.slice none 0 0,.slice none 0 0,.slice none 0 0,.int .i64 0,.int .i64 0,.int .i64 0,.string ⟨#[]⟩,.string ⟨#[]⟩,.string ⟨#[]⟩,.int .i64 0,.slice none 0 0,.slice none 0 0,.bool false,.int .i64 0]:=⟨kR⟩
instance:B7 Tryz.prog 80 0 0:=⟨kR⟩
instance:B7 Tryz.prog 80 1 1:=⟨kR⟩
instance:B7 Tryz.prog 80 2 2:=⟨kR⟩
instance:B7 Tryz.prog 80 3 3:=⟨kR⟩
instance:B7 Tryz.prog 80 4 4:=⟨kR⟩
instance:B7 Tryz.prog 80 5 5:=⟨kR⟩
instance:B7 Tryz.prog 80 6 6:=⟨kR⟩
instance:B7 Tryz.prog 80 7 7:=⟨kR⟩
instance:B7 Tryz.prog 80 8 8:=⟨kR⟩
instance:B7 Tryz.prog 80 9 9:=⟨kR⟩
instance:B7 Tryz.prog 80 10 17:=⟨kR⟩
instance:B7 Tryz.prog 80 11 18:=⟨kR⟩
instance:B7 Tryz.prog 80 12 19:=⟨kR⟩
instance:D0 Tryz.prog 80 [(0,1),(1,1),(2,1),(3,1),(4,1),(5,1),(6,1),(7,1),(8,1),(9,8),(17,1),(18,1),(19,1)]:=⟨kR⟩
instance:A8 Tryz.prog 88 69 3:=⟨kR⟩
instance:D7 Tryz.prog 88 69 3 40:=⟨kR⟩
instance:C1 Tryz.prog 93 true 2:=⟨kR⟩
instance:C2 Tryz.prog 93 [.slice none 0 0,.slice none 0 0]:=⟨kR⟩
instance:B7 Tryz.prog 93 0 0:=⟨kR⟩
instance:B7 Tryz.prog 93 1 1:=⟨kR⟩
instance:D0 Tryz.prog 93 [(0,1),(1,1)]:=⟨kR⟩
instance:C1 Tryz.prog 101 false 1:=⟨kR⟩
instance:C2 Tryz.prog 103 [.slice none 0 0,.bool false]:=⟨kR⟩
instance:B7 Tryz.prog 103 0 0:=⟨kR⟩
instance:B7 Tryz.prog 103 1 1:=⟨kR⟩
instance:D0 Tryz.prog 103 [(0,1),(1,1)]:=⟨kR⟩
instance:C1 Tryz.prog 112 true 4:=⟨kR⟩
instance:C2 Tryz.prog 112 [.slice none 0 0,.slice none 0 0,.slice none 0 0,.int .i64 0]:=⟨kR⟩
instance:B7 Tryz.prog 112 0 0:=⟨kR⟩
instance:B7 Tryz.prog 112 1 2:=⟨kR⟩
instance:B7 Tryz.prog 112 2 3:=⟨kR⟩
instance:D0 Tryz.prog 112 [(0,2),(2,1),(3,1)]:=⟨kR⟩
instance:C1 Tryz.prog 144 true 9:=⟨kR⟩
instance:C2 Tryz.prog 144 [.string ⟨#[]⟩,.int .i64 0,.int .i64 0,.int .i64 0,.string ⟨#[]⟩,.string ⟨#[]⟩,.string ⟨#[]⟩,.int .i64 0,.slice none 0 0]:=⟨kR⟩
instance:B7 Tryz.prog 144 0 0:=⟨kR⟩
instance:B7 Tryz.prog 144 1 1:=⟨kR⟩
instance:D0 Tryz.prog 144 [(0,1),(1,8)]:=⟨kR⟩
instance:C1 Tryz.prog 147 false 1:=⟨kR⟩
instance:C2 Tryz.prog 147 [.slice none 0 0]:=⟨kR⟩
instance:A8 Tryz.prog 147 3 1:=⟨kR⟩
instance:D7 Tryz.prog 147 3 1 8:=⟨kR⟩
instance:D9 Tryz.prog 149 .u64:=⟨kR⟩
instance:A8 Tryz.prog 177 57 2:=⟨kR⟩
instance:D7 Tryz.prog 177 57 2 40:=⟨kR⟩
instance:D9 Tryz.prog 206 .u32:=⟨kR⟩
instance:D9 Tryz.prog 259 .u64:=⟨kR⟩
instance:A8 Tryz.prog 272 75 1:=⟨kR⟩
instance:H5 Tryz.prog:=⟨kR⟩
instance:A0 Tryz.prog 15:=⟨kR⟩
instance:A0 Tryz.prog 16:=⟨kR⟩
instance:A0 Tryz.prog 17:=⟨kR⟩
instance:A0 Tryz.prog 18:=⟨kR⟩
instance:A0 Tryz.prog 21:=⟨kR⟩
instance:A0 Tryz.prog 22:=⟨kR⟩
instance:A0 Tryz.prog 23:=⟨kR⟩
instance:A0 Tryz.prog 24:=⟨kR⟩
instance:A0 Tryz.prog 25:=⟨kR⟩
instance:A0 Tryz.prog 26:=⟨kR⟩
instance:A0 Tryz.prog 27:=⟨kR⟩
instance:A0 Tryz.prog 28:=⟨kR⟩
instance:A0 Tryz.prog 29:=⟨kR⟩
instance:A0 Tryz.prog 30:=⟨kR⟩
instance:A0 Tryz.prog 31:=⟨kR⟩
instance:A0 Tryz.prog 32:=⟨kR⟩
instance:A0 Tryz.prog 34:=⟨kR⟩
instance:A0 Tryz.prog 35:=⟨kR⟩
instance:A0 Tryz.prog 36:=⟨kR⟩
instance:A0 Tryz.prog 38:=⟨kR⟩
instance:A0 Tryz.prog 39:=⟨kR⟩
instance:A0 Tryz.prog 40:=⟨kR⟩
instance:A0 Tryz.prog 42:=⟨kR⟩
instance:A0 Tryz.prog 43:=⟨kR⟩
instance:A0 Tryz.prog 44:=⟨kR⟩
instance:A0 Tryz.prog 45:=⟨kR⟩
instance:A0 Tryz.prog 46:=⟨kR⟩
instance:A0 Tryz.prog 47:=⟨kR⟩
instance:A0 Tryz.prog 48:=⟨kR⟩
instance:A0 Tryz.prog 49:=⟨kR⟩
instance:A0 Tryz.prog 50:=⟨kR⟩
instance:A0 Tryz.prog 51:=⟨kR⟩
instance:A0 Tryz.prog 52:=⟨kR⟩
instance:A0 Tryz.prog 53:=⟨kR⟩
instance:A0 Tryz.prog 54:=⟨kR⟩
instance:A0 Tryz.prog 55:=⟨kR⟩
instance:A0 Tryz.prog 56:=⟨kR⟩
instance:A0 Tryz.prog 57:=⟨kR⟩
instance:A0 Tryz.prog 58:=⟨kR⟩
instance:A0 Tryz.prog 59:=⟨kR⟩
instance:A0 Tryz.prog 60:=⟨kR⟩
instance:A0 Tryz.prog 61:=⟨kR⟩
instance:A0 Tryz.prog 62:=⟨kR⟩
instance:A0 Tryz.prog 63:=⟨kR⟩
instance:A0 Tryz.prog 64:=⟨kR⟩
instance:A0 Tryz.prog 65:=⟨kR⟩
instance:A0 Tryz.prog 66:=⟨kR⟩
instance:A0 Tryz.prog 67:=⟨kR⟩
instance:A0 Tryz.prog 68:=⟨kR⟩
instance:A0 Tryz.prog 69:=⟨kR⟩
instance:A0 Tryz.prog 70:=⟨kR⟩
instance:A0 Tryz.prog 71:=⟨kR⟩
instance:A0 Tryz.prog 72:=⟨kR⟩
instance:A0 Tryz.prog 73:=⟨kR⟩
instance:A0 Tryz.prog 74:=⟨kR⟩
instance:A0 Tryz.prog 75:=⟨kR⟩
instance:A0 Tryz.prog 76:=⟨kR⟩
instance:A0 Tryz.prog 77:=⟨kR⟩
instance:A0 Tryz.prog 78:=⟨kR⟩
instance:A0 Tryz.prog 79:=⟨kR⟩
instance:A0 Tryz.prog 80:=⟨kR⟩
instance:A0 Tryz.prog 81:=⟨kR⟩
instance:A0 Tryz.prog 82:=⟨kR⟩
instance:A0 Tryz.prog 83:=⟨kR⟩
instance:A0 Tryz.prog 84:=⟨kR⟩
instance:A0 Tryz.prog 85:=⟨kR⟩
instance:A0 Tryz.prog 86:=⟨kR⟩
instance:A0 Tryz.prog 87:=⟨kR⟩
instance:A0 Tryz.prog 88:=⟨kR⟩
instance:A0 Tryz.prog 89:=⟨kR⟩
instance:A0 Tryz.prog 90:=⟨kR⟩
instance:A0 Tryz.prog 91:=⟨kR⟩
instance:A0 Tryz.prog 92:=⟨kR⟩
instance:A0 Tryz.prog 93:=⟨kR⟩
instance:A0 Tryz.prog 94:=⟨kR⟩
instance:A0 Tryz.prog 95:=⟨kR⟩
instance:A0 Tryz.prog 96:=⟨kR⟩
instance:A0 Tryz.prog 97:=⟨kR⟩
instance:A0 Tryz.prog 98:=⟨kR⟩
instance:A0 Tryz.prog 99:=⟨kR⟩
instance:A0 Tryz.prog 100:=⟨kR⟩
instance:A0 Tryz.prog 101:=⟨kR⟩
instance:A0 Tryz.prog 102:=⟨kR⟩
instance:A0 Tryz.prog 103:=⟨kR⟩
instance:A0 Tryz.prog 104:=⟨kR⟩
instance:A0 Tryz.prog 105:=⟨kR⟩
instance:A0 Tryz.prog 106:=⟨kR⟩
instance:A0 Tryz.prog 107:=⟨kR⟩
instance:A0 Tryz.prog 108:=⟨kR⟩
instance:A0 Tryz.prog 109:=⟨kR⟩
instance:A0 Tryz.prog 110:=⟨kR⟩
instance:A0 Tryz.prog 111:=⟨kR⟩
instance:A0 Tryz.prog 112:=⟨kR⟩
instance:A0 Tryz.prog 113:=⟨kR⟩
instance:A0 Tryz.prog 114:=⟨kR⟩
instance:A0 Tryz.prog 115:=⟨kR⟩
instance:A0 Tryz.prog 116:=⟨kR⟩
instance:A0 Tryz.prog 117:=⟨kR⟩
instance:A0 Tryz.prog 118:=⟨kR⟩
instance:A0 Tryz.prog 119:=⟨kR⟩
instance:A0 Tryz.prog 120:=⟨kR⟩
instance:A0 Tryz.prog 121:=⟨kR⟩
instance:A0 Tryz.prog 122:=⟨kR⟩
instance:A0 Tryz.prog 123:=⟨kR⟩
instance:A0 Tryz.prog 125:=⟨kR⟩
instance:A0 Tryz.prog 126:=⟨kR⟩
instance:A0 Tryz.prog 127:=⟨kR⟩
instance:A0 Tryz.prog 128:=⟨kR⟩
instance:A0 Tryz.prog 129:=⟨kR⟩
instance:A0 Tryz.prog 130:=⟨kR⟩
instance:A0 Tryz.prog 131:=⟨kR⟩
instance:A0 Tryz.prog 132:=⟨kR⟩
instance:A0 Tryz.prog 133:=⟨kR⟩
instance:A0 Tryz.prog 134:=⟨kR⟩
instance:A0 Tryz.prog 135:=⟨kR⟩
instance:A0 Tryz.prog 136:=⟨kR⟩
instance:A0 Tryz.prog 137:=⟨kR⟩
instance:A0 Tryz.prog 138:=⟨kR⟩
instance:A0 Tryz.prog 139:=⟨kR⟩
instance:A0 Tryz.prog 140:=⟨kR⟩
instance:A0 Tryz.prog 141:=⟨kR⟩
instance:A0 Tryz.prog 142:=⟨kR⟩
instance:A0 Tryz.prog 143:=⟨kR⟩
instance:A0 Tryz.prog 144:=⟨kR⟩
instance:A0 Tryz.prog 145:=⟨kR⟩
instance:A0 Tryz.prog 146:=⟨kR⟩
instance:A0 Tryz.prog 148:=⟨kR⟩
instance:A0 Tryz.prog 149:=⟨kR⟩
instance:A0 Tryz.prog 153:=⟨kR⟩
instance:A0 Tryz.prog 154:=⟨kR⟩
instance:A0 Tryz.prog 155:=⟨kR⟩
instance:A0 Tryz.prog 156:=⟨kR⟩
instance:A0 Tryz.prog 157:=⟨kR⟩
instance:A0 Tryz.prog 158:=⟨kR⟩
instance:A0 Tryz.prog 159:=⟨kR⟩
instance:A0 Tryz.prog 160:=⟨kR⟩
instance:A0 Tryz.prog 161:=⟨kR⟩
instance:A0 Tryz.prog 162:=⟨kR⟩
instance:A0 Tryz.prog 163:=⟨kR⟩
instance:A0 Tryz.prog 164:=⟨kR⟩
instance:A0 Tryz.prog 165:=⟨kR⟩
instance:A0 Tryz.prog 166:=⟨kR⟩
instance:A0 Tryz.prog 167:=⟨kR⟩
instance:A0 Tryz.prog 168:=⟨kR⟩
instance:A0 Tryz.prog 169:=⟨kR⟩
instance:A0 Tryz.prog 170:=⟨kR⟩
instance:A0 Tryz.prog 171:=⟨kR⟩
instance:A0 Tryz.prog 172:=⟨kR⟩
instance:A0 Tryz.prog 173:=⟨kR⟩
instance:A0 Tryz.prog 174:=⟨kR⟩
instance:A0 Tryz.prog 175:=⟨kR⟩
instance:A0 Tryz.prog 176:=⟨kR⟩
instance:A0 Tryz.prog 177:=⟨kR⟩
instance:A0 Tryz.prog 178:=⟨kR⟩
instance:A0 Tryz.prog 183:=⟨kR⟩
instance:A0 Tryz.prog 184:=⟨kR⟩
instance:A0 Tryz.prog 191:=⟨kR⟩
instance:A0 Tryz.prog 192:=⟨kR⟩
instance:A0 Tryz.prog 193:=⟨kR⟩
instance:A0 Tryz.prog 194:=⟨kR⟩
instance:A0 Tryz.prog 195:=⟨kR⟩
instance:A0 Tryz.prog 196:=⟨kR⟩
instance:A0 Tryz.prog 197:=⟨kR⟩
instance:A0 Tryz.prog 206:=⟨kR⟩
instance:A0 Tryz.prog 207:=⟨kR⟩
instance:A0 Tryz.prog 211:=⟨kR⟩
instance:A0 Tryz.prog 223:=⟨kR⟩
instance:A0 Tryz.prog 229:=⟨kR⟩
instance:A0 Tryz.prog 232:=⟨kR⟩
instance:A0 Tryz.prog 233:=⟨kR⟩
instance:A0 Tryz.prog 243:=⟨kR⟩
instance:H3 Tryz.prog 147:=⟨⟨Tryz.f147,Tryz.func147,by kernel_rfl,by kernel_rfl,by kernel_rfl,by kernel_rfl⟩⟩
instance:G0 Tryz.prog 179 44 4:=⟨⟨Tryz.f179,Tryz.func179,by kernel_rfl,by kernel_rfl,by kernel_rfl,by kernel_rfl⟩⟩
instance:G0 Tryz.prog 181 45 4:=⟨⟨Tryz.f181,Tryz.func181,by kernel_rfl,by kernel_rfl,by kernel_rfl,by kernel_rfl⟩⟩
instance:G0 Tryz.prog 219 75 4:=⟨⟨Tryz.f219,Tryz.func219,by kernel_rfl,by kernel_rfl,by kernel_rfl,by kernel_rfl⟩⟩
instance:G0 Tryz.prog 221 49 4:=⟨⟨Tryz.f221,Tryz.func221,by kernel_rfl,by kernel_rfl,by kernel_rfl,by kernel_rfl⟩⟩
end Go.Proofs.Y
namespace Go.Proofs.Y
open Go.Abs Go.Proofs.Tryz
attribute [local irreducible] L Code.wp bodyPost Exit.then Exit.inBlock
abbrev Str:=List UInt8
def Str.c(s:Str):List IV:= [S s]
structure Pg where
 ks:List Str
 vs:List Str
def Pg.c(p:Pg):List IV:= [.sl (p.ks.map Str.c),.sl (p.vs.map Str.c)]
def LE{x y:Str}:Op.bytesLess x y=decide (x<y):=by
 induction x generalizing y with
 |nil=>cases y<;>simp[Op.bytesLess]
 |cons a x T=>
  cases y with
  |nil=>simp[Op.bytesLess]
  |cons b y=>
   unfold Op.bytesLess;rw[T,Bool.eq_iff_iff];simp[List.cons_lt_cons_iff]
def leS{x y:Str}:(Op.bytesLess x y||x==y)=decide (x<=y):=by
 rw[LE,Bool.eq_iff_iff];simp only[Bool.or_eq_true,decide_eq_true_eq,beq_iff_eq];constructor
 · rintro (h|rfl)
   · exact List.not_lt.1 (List.lt_asymm h)
   · exact List.not_lt.1 (List.lt_irrefl _)
 · intro h;by_cases h1:x<y
   · exact .inl h1
   · exact .inr (List.le_antisymm h (List.not_lt.1 h1))
def dO:Option Str->List Str->Bool
 |_,[] =>true
 |some a,s::l=>decide (a<s) && dO (some s) l
 |none,s::l=>dO (some s) l
def pG:Option Str->List Str->Option Str
 |o,[] =>o
 |_,s::l=>pG (some s) l
def pI:Option Str->List Pg->Bool
 |_,[] =>true
 |o,p::ps=>decide (1<=p.ks.length) && (decide (p.ks.length<=4) && (decide (p.vs.length=p.ks.length) && (dO o p.ks && pI (pG o p.ks) ps)))
def aG(ps:List Pg):Bool:=pI none ps
def Fp(a:Str):CallA prog 84 [aS a] [] [] [] (aB false):=by
 refine iA func84 ntmps84 (fun w0 E0=> ?_);refine wz ?_;all_goals refine aU ?_
 all_goals simp[resOf]
def Fo(a:Str):CallA prog 146 [aS a] [] [] [] (aB false):=by
 refine iA func146 ntmps146 (fun w0 E0=> ?_);refine wz ?_;all_goals refine aU ?_
 all_goals simp[resOf]
def AQ(a b:Str):CallA prog 145 [aS a,aS b] [] [] [] (aB (decide (a<b))):=by
 refine iA func145 ntmps145 (fun w0 E0=> ?_);(repeat' first|intro T hp|refine LW.is (s_C (Fp _) ?_)|refine am ?_|refine al ?_ ?_|fail)
 all_goals refine aU ?_
 all_goals simp[resOf,LE]
def DW:List Pg->Nat
 | [] =>0
 |p::ps=>p.ks.length+DW ps
def CY(o:Option Str)(p:Pg)(ps:List Pg):pI o (p::ps)=(decide (1<=p.ks.length) && (decide (p.ks.length<=4) && (decide (p.vs.length=p.ks.length) && (dO o p.ks && pI (pG o p.ks) ps)))):=rfl
def CC{o:Option Str}{s:Str}{l:List Str}:dO o (s::l)=((match o with|some a=>decide (a<s)|none=>true) && dO (some s) l):=by
 cases o<;>simp[dO]
def iC(ps:List Pg)(hl:ps.length<=140737488355328):CallA prog 26 [.agg [.iv (.sl (ps.map Pg.c))]] [] [] [] (aB (aG ps)):=by
 refine iA func26 ntmps26 (fun w0 E0=> ?_);refine wz ?_;refine ae (ι:=Nat×Option Str) (fun i=>⟨[(11,aI (i.1:Int)),(10,aI ((ps.map Pg.c).length:Int)),(9,.iv (.sl (ps.map Pg.c))),(3,aS (i.2.getD []))],[],[]⟩) (fun i=>ps.length - i.1) (fun i=>aG ps=pI i.2 (ps.drop i.1)/\(i.2=none↔i.1=0)) (i0:=(0,none)) ?_ ⟨rfl,by simp⟩ ?_
 · exact df
 rintro ⟨i,o⟩ ⟨hi,ho⟩ K hK;dsimp only at hi ho|-;cases hv:ps[i]? with
 |none=>
  have a2:=gc (l:=ps.map Pg.c) (bz hv);rw[oF hv] at hi;refine wz ?_;all_goals refine aU ?_
  rw[hi];rfl
 |some p=>
  have a2:=fZ (l:=ps.map Pg.c) (cM hv);have a4:=fM hv;rw[fu hv,CY] at hi;obtain⟨ks,vs⟩:=p;dsimp only at hi;cases c1:decide (((ks.map Str.c).length:Int)<1) with
  |true=>
   have e:decide (1<=ks.length)=false:=by
    simp only[decide_eq_true_eq,decide_eq_false_iff_not,lM] at c1|-;omega
   rw[e] at hi;refine wz ?_;all_goals refine aU ?_
   rw[hi];rfl
  |false=>
  have e1:decide (1<=ks.length)=true:=by
   simp only[decide_eq_true_eq,decide_eq_false_iff_not,lM] at c1|-;omega
  cases c2:decide ((4:Int)<((ks.map Str.c).length:Int)) with
  |true=>
   have e:decide (ks.length<=4)=false:=by simp at c2|-;omega
   rw[e1,e] at hi;refine wz ?_;all_goals refine aU ?_
   rw[hi];rfl
  |false=>
  have e2:decide (ks.length<=4)=true:=by simp at c2|-;omega
  cases c3:(((vs.map Str.c).length:Int) !=((ks.map Str.c).length:Int)) with
  |true=>
   have e:decide (vs.length=ks.length)=false:=by simp at c3|-;omega
   rw[e1,e2,e] at hi;refine wz ?_;all_goals refine aU ?_
   rw[hi];rfl
  |false=>
  have e3:decide (vs.length=ks.length)=true:=by simp at c3|-;omega
  rw[e1,e2,e3] at hi;simp only[Bool.true_and] at hi;have a5:ks.length<=4:=by simpa using e2
  refine wz ?_;refine ae (ι:=Nat×Option Str) (fun k=>⟨[(38,aI (k.1:Int)),(37,aI ((ks.map Str.c).length:Int)),(36,.iv (.sl (ks.map Str.c))),(4,aI (i:Int)),(3,aS (k.2.getD [])),(11,aI (i:Int)),(10,aI ((ps.map Pg.c).length:Int)),(9,.iv (.sl (ps.map Pg.c)))],[],[]⟩) (fun k=>ks.length - k.1)
   (fun k=>aG ps=(dO k.2 (ks.drop k.1) && pI (pG k.2 (ks.drop k.1)) (ps.drop (i+1)))/\(k.2=none↔(i=0/\k.1=0))) (i0:=(0,o)) ?_ ⟨hi,by simp[ho]⟩ ?_
  · exact df
  rintro ⟨k,o'⟩ ⟨T,ar⟩ K2 a0;dsimp only at T ar|-;cases hw:ks[k]? with
  |none=>
   have a1:=gc (l:=ks.map Str.c) (bz hw);have a6:ks.length<=k:=gO hw;rw[oF hw] at T;refine wz ?_;refine hK _ (i+1,o') ⟨by rw[T];rfl,by dsimp only;rw[ar];simp at e1;omega⟩ oD ?_;exact df
  |some s=>
   have a1:=fZ (l:=ks.map Str.c) (cM hw);have a3:=fM hw;rw[fu hw,CC] at T;cases o' with
   |none=>
    obtain⟨rfl,rfl⟩:=ar.1 U;refine wz ?_;refine a0 _ (1,some s) ⟨by rw[T];rfl,by simp⟩ oD ?_;exact df
   |some a=>
    have a7: ¬(i=0/\k=0):=fun h=>by have:=ar.2 h;cases this
    have aR:(Op.bytesLess s a||s==a)=decide (s<=a):=leS;cases q0:decide ((0:Int)<(i:Int)) with
    |true=>
     cases q2:decide (a<s) with
     |true=>
      have ad:(Op.bytesLess s a||s==a)=false:=by rw[aR];simpa using q2
      refine wz ?_;refine a0 _ (k+1,some s) ⟨by rw[T];simp[pG,q2],by simp⟩ oD ?_;exact df
     |false=>
      have ad:(Op.bytesLess s a||s==a)=true:=by rw[aR];simpa using q2
      refine wz ?_;all_goals refine aU ?_
      rw[T];simp[q2]
    |false=>
     have q1:decide ((0:Int)<(k:Int))=true:=by simp at q0|-;omega
     cases q2:decide (a<s) with
     |true=>
      have ad:(Op.bytesLess s a||s==a)=false:=by rw[aR];simpa using q2
      refine wz ?_;refine a0 _ (k+1,some s) ⟨by rw[T];simp[pG,q2],by simp⟩ oD ?_;exact df
     |false=>
      have ad:(Op.bytesLess s a||s==a)=true:=by rw[aR];simpa using q2
      refine wz ?_;all_goals refine aU ?_
      rw[T];simp[q2]
def pre{α:Type}(p:α->Bool):List α->Nat
 | [] =>0
 |x::l=>if p x then pre p l+1 else 0
def Falls{α:Type}(p:α->Bool)(l:List α):Prop:= ∀(i j:Nat) (x y:α),i<=j->l[i]?=some x->l[j]?=some y->p y=true->p x=true
def jc{α:Type}(p:α->Bool): ∀l:List α,pre p l<=l.length
 | [] =>Nat.le_refl _
 |x::l=>by
  have:=jc p l;simp only[pre,lC];split<;>omega
def uM{α:Type}{p:α->Bool}: ∀{l:List α} {i:Nat} {x:α},l[i]?=some x->i<pre p l->p x=true
 | [],i,x,h,_=>by simp at h
 |y::l,0,x,h,hi=>by
  simp at h;subst h;simp only[pre] at hi;split at hi
  · assumption
  · omega
 |y::l,i+1,x,h,hi=>by
  simp only[pre] at hi;split at hi
  · exact uM (l:=l) (by simpa using h) C
  · omega
def Hs{α:Type}{p:α->Bool}: ∀{l:List α} {x:α},l[pre p l]?=some x->p x=false
 | [],x,h=>by simp at h
 |y::l,x,h=>by
  simp only[pre] at h;split at h
  · exact Hs (l:=l) (by simpa using h)
  · rename_i T;simp at h;subst h;simpa using T
def Falls.le{α:Type}{p:α->Bool}{l:List α}(hf:Falls p l){i:Nat}{x:α}(h:l[i]?=some x)(hp:p x=true):i<pre p l:=by
 refine Nat.lt_of_not_le (fun T=> ?_);have ad:=(gS h).1;obtain⟨y,hy⟩: ∃y,l[pre p l]?=some y:=⟨_,gG C⟩
 have:=hf _ _ y x T hy h hp;rw[Hs hy] at this;cases this
def rj{α:Type}{p:α->Bool}{l:List α}{i:Nat}{x:α}(h:l[i]?=some x)(hp:p x=false):pre p l<=i:=by
 refine Nat.le_of_not_lt (fun T=> ?_);rw[uM h T] at hp;cases hp
def aX(ks:List Str)(key:Str):Nat:=pre (fun s=>decide (s<key)) ks
def bM(ks:List Str)(key:Str):Bool:=ks[aX ks key]?==some key
def HX(i j:Nat)(h:i+j<4611686018427387904):IntKind.i64.wrap ((IntKind.u64.wrap ((i:Int)+(j:Int))).fdiv (2 ^ min (Int.toNat 1) IntKind.u64.bits))=(((i+j) / 2:Nat):Int):=by
 have h1:IntKind.u64.wrap ((i:Int)+(j:Int))=(i:Int)+j:=by rw[IntKind.wrap_u64];omega
 rw[h1];have h2:((i:Int)+(j:Int)).fdiv (2 ^ min (Int.toNat 1) IntKind.u64.bits)=((i:Int)+j) / 2:=Int.fdiv_eq_ediv_of_nonneg _ dD;rw[h2,IntKind.wrap_i64];omega
def BQ(ks:List Str)(key:Str)(hl:ks.length<=140737488355328)(hf:Falls (fun s=>decide (s<key)) ks):
 CallA prog 100 [.iv (.sl (ks.map Str.c)),aS key] [] [] [] (.tup [.iv (I (aX ks key:Int)),.iv (B (bM ks key))]):=by
 refine iA func100 ntmps100 (fun w0 E0=> ?_);have ar:=jc (fun s=>decide (s<key)) ks;refine wz ?_;refine ae (ι:=Nat×Nat) (fun i=>⟨[(7,aI (i.1:Int)),(8,aI (i.2:Int)),(6,aI ((ks.map Str.c).length:Int)),(0,.iv (.sl (ks.map Str.c))),(1,aS key)],[],[]⟩) (fun i=>i.2 - i.1) (fun i=>i.1<=aX ks key/\aX ks key<=i.2/\i.2<=ks.length) (i0:=(0,ks.length)) ?_ ⟨Nat.zero_le _,ar,Nat.le_refl _⟩ ?_
 · refine Wk.mk' kK (wF (.cons U (Sub.of_eq ?_) F3)) .nil .nil;simp
 rintro ⟨i,j⟩ ⟨h1,h2,h3⟩ K hK;dsimp only at h1 h2 h3|-;cases T:decide ((i:Int)<(j:Int)) with
 |true=>
  have aR:i<j:=by simpa using T
  have hh:=HX i j C;have hm:(i+j) / 2<ks.length:=C;obtain⟨s,hs⟩: ∃s,ks[(i+j) / 2]?=some s:=⟨_,gG hm⟩
  have g0:0<=IntKind.i64.wrap ((IntKind.u64.wrap ((i:Int)+(j:Int))).fdiv (2 ^ min (Int.toNat 1) IntKind.u64.bits)):=by rw[hh];omega
  have g1:(ks.map Str.c)[(IntKind.i64.wrap ((IntKind.u64.wrap ((i:Int)+(j:Int))).fdiv (2 ^ min (Int.toNat 1) IntKind.u64.bits))).toNat]?=some [S s]:=by rw[hh,iN,gP,hs];rfl
  have g2: -9223372036854775808<=IntKind.i64.wrap ((IntKind.u64.wrap ((i:Int)+(j:Int))).fdiv (2 ^ min (Int.toNat 1) IntKind.u64.bits))+1:=C;have g3:IntKind.i64.wrap ((IntKind.u64.wrap ((i:Int)+(j:Int))).fdiv (2 ^ min (Int.toNat 1) IntKind.u64.bits))+1<=9223372036854775807:=by rw[hh];omega
  cases hp:decide (s<key) with
  |true=>
   have:=hf.le hs (by simpa using hp);(repeat' first|intro hb hp|(refine LW.is ?_;first|refine ag U (cd U U g0 g1 U) ?_|refine ag U (iU U U g2 g3) ?_|refine s_C (AQ s key) ?_)|refine am ?_|refine al ?_ ?_|fail)
   refine hK _ ((i+j) / 2+1,j) ⟨by unfold aX;omega,h2,h3⟩ oD (Wk.mk' kK (.cons U (Sub.of_eq (congrArg (fun z=>aI z) ?_)) F4) .nil .nil);rw[hh];rfl
  |false=>
   have:=rj (p:=fun s=>decide (s<key)) hs (by simpa using hp);(repeat' first|intro hb hp|(refine LW.is ?_;first|refine ag U (cd U U g0 g1 U) ?_|refine s_C (AQ s key) ?_)|refine am ?_|refine al ?_ ?_|fail)
   refine hK _ (i,(i+j) / 2) ⟨h1,by unfold aX;omega,by dsimp only;omega⟩ oD (Wk.mk' kK (wF (.cons U (Sub.of_eq (congrArg (fun z=>aI z) ?_)) F3)) .nil .nil);rw[hh]
 |false=>
  have aR: ¬i<j:=by simpa using T
  obtain rfl:i=aX ks key:=C;cases hs:ks[aX ks key]? with
  |none=>
   have ad:=gc (l:=ks.map Str.c) (bz hs);refine wz ?_;all_goals refine aU ?_
   simp[bM,hs]
  |some s=>
   have ad:=fZ (l:=ks.map Str.c) (cM hs);have g1:(ks.map Str.c)[((aX ks key:Nat):Int).toNat]?=some [S s]:=by simp[hs,Str.c]
   cases hq:s==key with
   |true=>
    refine wz ?_;all_goals refine aU ?_
    simp at hq;simp[bM,hs,hq]
   |false=>
    (repeat' first|intro hb hp|refine LW.is (s_C (Fo s) ?_)|refine am ?_|refine al ?_ ?_|fail)
    all_goals refine aU ?_
    simp at hq;simp[bM,hs,hq]
def kW(key:Str)(p:Pg):Bool:=decide (p.ks.headD [] <=key)
def be(ps:List Pg)(key:Str):Nat:=pre (kW key) ps - 1
def dl(ps:List Pg)(key:Str):Nat×Nat×Bool:=
 match ps[be ps key]? with
 |some p=>(be ps key,aX p.ks key,bM p.ks key)
 |none=>(0,0,false)
structure G8 (ps:List Pg) (key:Str):Prop where
 ne: ∀p∈ps,p.ks≠ []
 len: ∀p∈ps,p.ks.length<=4
 vs: ∀p∈ps,p.vs.length=p.ks.length
 pages:Falls (kW key) ps
 keys: ∀p∈ps,Falls (fun s=>decide (s<key)) p.ks
def MB(i j:Nat):((i:Int)+(j:Int)).tdiv 2=(((i+j) / 2:Nat):Int):=by
 rw[Int.tdiv_eq_ediv_of_nonneg C];omega
def pi(ps:List Pg)(key:Str)(hl:ps.length<=140737488355328)(hs:G8 ps key):
 CallA prog 66 [.agg [.iv (.sl (ps.map Pg.c))],aS key] [] [] [] (.tup [.iv (I ((dl ps key).1:Int)),.iv (I ((dl ps key).2.1:Int)),.iv (B (dl ps key).2.2)]):=by
 refine iA func66 ntmps66 (fun w0 E0=> ?_);have ad:=jc (kW key) ps;generalize hq:pre (kW key) ps=q at ad;refine wz ?_;refine ae (ι:=Nat×Nat) (fun i=>⟨[(7,aI ((i.1 - 1:Nat):Int)),(8,aI (i.1:Int)),(9,aI (i.2:Int)),(2,.ptr 2 0),(1,aS key)],[(2,⟨51,.l [.iv (.sl (ps.map Pg.c))]⟩)],[]⟩) (fun i=>i.2 - i.1) (fun i=>i.1<=q/\q<=i.2/\i.2<=ps.length) (i0:=(0,ps.length)) ?_ ⟨Nat.zero_le _,ad,Nat.le_refl _⟩ ?_
 · refine Wk.mk' kK (wF (wF (.cons U (Sub.of_eq ?_) F2))) B1 .nil;simp
 rintro ⟨i,j⟩ ⟨h1,h2,h3⟩ K hK;dsimp only at h1 h2 h3|-;cases a0:decide ((i:Int)<(j:Int)) with
 |true=>
  have a1:i<j:=by simpa using a0
  have hh:=MB i j;have hm:(i+j) / 2<ps.length:=C;obtain⟨p,hp⟩: ∃p,ps[(i+j) / 2]?=some p:=⟨_,gG hm⟩
  have T:=gE hp;have a2:=hs.ne p T;obtain⟨ks,vs⟩:=p;cases ks with
  |nil=>exact absurd U a2
  |cons s ks=>
  have g0:0<=((i:Int)+(j:Int)).tdiv 2:=by rw[hh];omega
  have g1:(ps.map Pg.c)[(((i:Int)+(j:Int)).tdiv 2).toNat]?=some [.sl ((s::ks).map Str.c),.sl (vs.map Str.c)]:=by rw[hh,iN,gP,hp];rfl
  have g2: -9223372036854775808<=((i:Int)+(j:Int)).tdiv 2+1:=C;have g3:((i:Int)+(j:Int)).tdiv 2+1<=9223372036854775807:=by rw[hh];omega
  have aR:(Op.bytesLess s key||s==key)=decide (s<=key):=leS;cases ar:decide (s<=key) with
  |true=>
   rw[ar] at aR;have a3:(i+j) / 2<q:=by
    rw[<-hq];exact hs.pages.le hp (by simpa[kW] using ar)
   (repeat' first|intro hb hp|(refine LW.is ?_;first|refine ag U (cd U U g0 g1 U) ?_|refine ag U (cd U U dD U U) ?_|refine ag U (iU U U g2 g3) ?_)|refine am ?_|refine al ?_ ?_|fail)
   refine hK _ ((i+j) / 2+1,j) ⟨by omega,h2,h3⟩ oD (Wk.mk' kK (.cons U (Sub.of_eq (congrArg (fun z=>aI z) ?_)) (.cons U (Sub.of_eq (congrArg (fun z=>aI z) ?_)) F3)) B1 .nil)
   · rw[hh];simp
   · rw[hh];rfl
  |false=>
   rw[ar] at aR;have a3:q<=(i+j) / 2:=by
    rw[<-hq];exact rj hp (by simpa[kW] using ar)
   (repeat' first|intro hb hp|(refine LW.is ?_;first|refine ag U (cd U U g0 g1 U) ?_|refine ag U (cd U U dD U U) ?_)|refine am ?_|refine al ?_ ?_|fail)
   refine hK _ (i,(i+j) / 2) ⟨h1,by omega,by dsimp only;omega⟩ oD (Wk.mk' kK (wF (wF (.cons U (Sub.of_eq (congrArg (fun z=>aI z) ?_)) F2))) B1 .nil);rw[hh]
 |false=>
  have a1: ¬i<j:=by simpa using a0
  obtain rfl:i=q:=C;have a4:be ps key=i - 1:=by rw[be,hq]
  cases hp:ps[i - 1]? with
  |none=>
   have a5:ps= []:=by
    cases ps with
    |nil=>rfl
    |cons p ps=>
     have:=gO hp;simp at this ad;omega
   subst a5;refine wz ?_;all_goals refine aU ?_
   all_goals simp[dl]
  |some p=>
   have T:=gE hp;have a6:=hs.len p T;have kb:=BQ p.ks key C (hs.keys p T);have hm:dl ps key=(i - 1,aX p.ks key,bM p.ks key):=by rw[dl,a4,hp]
   rw[hm];have a2:(((ps.map Pg.c).length:Int)==0)=false:=by
    cases ps with
    |nil=>simp at hp
    |cons p ps=>simp;omega
   obtain⟨ks,vs⟩:=p;have g1:(ps.map Pg.c)[((i - 1:Nat):Int).toNat]?=some [.sl (ks.map Str.c),.sl (vs.map Str.c)]:=by rw[iN,gP,hp];rfl
   clear a1 h1 h2 h3 ad hK;refine wz ?_;all_goals refine aU ?_
   all_goals rfl
end Go.Proofs.Y
namespace Go.Proofs.Y
open Go.Abs
def dn{a b c:Str}(h:a<b)(k:b<c):a<c:=List.lt_trans h k
def uG: ∀(l:List Str) (a:Str),dO (some a) l=true↔(a::l).Pairwise (· < ·)
 | [],a=>by simp[dO]
 |s::l,a=>by
  rw[dO,aE,uG l s,decide_eq_true_eq];constructor
  · rintro ⟨h1,h2⟩;refine List.pairwise_cons.2 ⟨fun x T=> ?_,h2⟩;rcases List.mem_cons.1 T with rfl|T
    · exact h1
    · exact dn h1 ((List.pairwise_cons.1 h2).1 x T)
  · intro h;have:=List.pairwise_cons.1 h;exact⟨this.1 s sP,this.2⟩
def CD: ∀(l:List Str),dO none l=true↔l.Pairwise (· < ·)
 | [] =>by simp[dO]
 |s::l=>by rw[dO,uG]
def Eo(p:Pg):Prop:=1<=p.ks.length/\p.ks.length<=4/\p.vs.length=p.ks.length
def fN(ps:List Pg):List Str:=ps.flatMap Pg.ks
def lY: ∀(l m:List Str) (o:Option Str),dO o (l++m)=(dO o l && dO (pG o l) m)
 | [],m,o=>by simp[dO,pG]
 |s::l,m,none=>by simp[dO,pG,lY l m]
 |s::l,m,some a=>by simp[dO,pG,lY l m,Bool.and_assoc]
def xN: ∀(ps:List Pg) (o:Option Str),pI o ps=true↔(∀p∈ps,Eo p)/\dO o (fN ps)=true
 | [],o=>by cases o<;>simp[pI,fN,dO]
 |p::ps,o=>by
  rw[pI];simp only[aE,decide_eq_true_eq,xN ps,fN,List.flatMap_cons,lY,List.mem_cons,forall_eq_or_imp,Eo];constructor
  · rintro ⟨a,b,c,d,e,f⟩;exact⟨⟨⟨a,b,c⟩,e⟩,d,f⟩
  · rintro ⟨⟨⟨a,b,c⟩,e⟩,d,f⟩;exact⟨a,b,c,d,e,f⟩
def eO(ps:List Pg):aG ps=true↔(∀p∈ps,Eo p)/\(fN ps).Pairwise (· < ·):=by
 rw[aG,xN,CD]
def nv{ks:List Str}(key:Str)(h:ks.Pairwise (· < ·)):Falls (fun s=>decide (s<key)) ks:=by
 intro i j x y T hx hy hp;simp only[decide_eq_true_eq] at hp|-;rcases Nat.lt_or_eq_of_le T with h1|rfl
 · obtain⟨ad,ex⟩:=gS hx;obtain⟨ar,ey⟩:=gS hy;have:=List.pairwise_iff_getElem.1 h i j ad ar h1;rw[ex,ey] at this;exact dn this hp
 · rw[hx] at hy;cases hy;exact hp
def rV{ps:List Pg}(h:(fN ps).Pairwise (· < ·)){p:Pg}(T:p∈ps):p.ks.Pairwise (· < ·):=by
 obtain⟨a,b,rfl⟩:=List.append_of_mem T;simp only[fN,List.flatMap_append,List.flatMap_cons] at h;exact(List.pairwise_append.1 (List.pairwise_append.1 h).2.1).1
def dE{ps:List Pg}(key:Str)(h:aG ps=true):G8 ps key:=by
 obtain⟨h1,h2⟩:=(eO ps).1 h;refine⟨fun p hp e=> ?_,fun p hp=>(h1 p hp).2.1,fun p hp=>(h1 p hp).2.2,?_,fun p hp=>nv key (rV h2 hp)⟩
 · have:=(h1 p hp).1;rw[e] at this;simp at this
 · intro i j x y ad hx hy T;simp only[kW,decide_eq_true_eq] at T|-;rcases Nat.lt_or_eq_of_le ad with a3|rfl
   · obtain⟨a4,ex⟩:=gS hx;obtain⟨ar,ey⟩:=gS hy;have aR:=(h1 x (gE hx)).1;have a0:=(h1 y (gE hy)).1;obtain⟨kx,vx⟩:=x;obtain⟨ky,vy⟩:=y;cases kx with
     |nil=>simp at aR
     |cons a kx=>
      cases ky with
      |nil=>simp at a0
      |cons b ky=>
       have a1:a<b:=by
        have a2:ps=ps.take j++ps.drop j:=(List.take_append_drop j ps).symm;rw[a2,fN,List.flatMap_append] at h2;have h3:=(List.pairwise_append.1 h2).2.2;refine h3 a (List.mem_flatMap.2 ⟨⟨a::kx,vx⟩,?_,by simp⟩) b (List.mem_flatMap.2 ⟨⟨b::ky,vy⟩,?_,by simp⟩)
        · rw[<-ex];exact List.mem_take_iff_getElem.2 ⟨i,by omega,rfl⟩
        · rw[<-ey];exact gE (i:=0) (by rw[List.getElem?_drop,Nat.add_zero];exact gG ar)
       simp only[List.headD_cons] at T|-;exact List.not_lt.1 (fun hc=>(List.not_lt.2 T) (dn hc a1))
   · rw[hx] at hy;cases hy;exact T
end Go.Proofs.Y
namespace Go.Proofs.Y
open Go.Abs Go.Proofs.Tryz
attribute [local irreducible] L Code.wp bodyPost Exit.then Exit.inBlock
def getM(ps:List Pg)(key:Str):Str×Bool:=
 if aG ps then
  match ps[be ps key]? with
  |some p=>if bM p.ks key then((p.vs[aX p.ks key]?).getD [],true) else([],false)
  |none=>([],false)
 else([],false)
def zj(ps:List Pg)(key:Str)(hl:ps.length<=140737488355328):
 CallA prog 39 [.agg [.iv (.sl (ps.map Pg.c))],aS key] [] [] [] (.tup [.iv (S (getM ps key).1),.iv (B (getM ps key).2)]):=by
 have kg:=iC ps hl;refine iA func39 ntmps39 (fun w0 E0=> ?_);cases hg:aG ps with
 |false=>
  rw[hg] at kg;have e:getM ps key=([],false):=by simp[getM,hg]
  rw[e];refine wz ?_;all_goals refine aU ?_
  all_goals rfl
 |true=>
  rw[hg] at kg;have hs:=dE key hg;have kp:=pi ps key hl hs;cases T:ps[be ps key]? with
  |none=>
   have e:getM ps key=([],false):=by simp[getM,T]
   have em:dl ps key=(0,0,false):=by rw[dl,T]
   rw[e];rw[em] at kp;refine wz ?_;all_goals refine aU ?_
   all_goals rfl
  |some p=>
   have em:dl ps key=(be ps key,aX p.ks key,bM p.ks key):=by rw[dl,T]
   rw[em] at kp;have hv:=hs.vs p (gE T);cases hf:bM p.ks key with
   |false=>
    rw[hf] at kp;have e:getM ps key=([],false):=by simp[getM,T,hf]
    rw[e];refine wz ?_;all_goals refine aU ?_
    all_goals rfl
   |true=>
    rw[hf] at kp;have ad:aX p.ks key<p.vs.length:=by
     rw[hv];unfold bM at hf;have:p.ks[aX p.ks key]?=some key:=by simpa using hf
     exact(gS this).1
    obtain⟨x,hx⟩: ∃x,p.vs[aX p.ks key]?=some x:=⟨_,gG ad⟩
    have e:getM ps key=(x,true):=by simp[getM,hg,T,hf,hx]
    rw[e];have g1:(ps.map Pg.c)[((be ps key:Nat):Int).toNat]?=some [.sl (p.ks.map Str.c),.sl (p.vs.map Str.c)]:=by rw[iN,gP,T];rfl
    have g2:(p.vs.map Str.c)[((aX p.ks key:Nat):Int).toNat]?=some [S x]:=by rw[iN,gP,hx];rfl
    refine wz ?_;all_goals refine aU ?_
    all_goals rfl
abbrev Pr:=Str×Str
def Pg.prs(p:Pg):List Pr:=p.ks.zip p.vs
def az(ps:List Pg):List Pr:=ps.flatMap Pg.prs
def fp(ps:List Pg)(i k:Nat):List Pr:=match ps[i]? with
 |some p=>p.prs.drop k++az (ps.drop (i+1))
 |none=> []
def dG(ps:List Pg)(lo hi:Str):List Pr:=
 if aG ps then(fp ps (dl ps lo).1 (dl ps lo).2.1).takeWhile (fun x=>decide (x.1<hi)) else []
def Dc{ps:List Pg}{i:Nat}{p:Pg}(hp:ps[i]?=some p){k:Nat}(hk:p.prs.length<=k):fp ps i k=fp ps (i+1) 0:=by
 rw[fp,hp];simp only[dL hk,List.nil_append];rw[fp];cases T:ps[i+1]? with
 |none=>rw[oF T];rfl
 |some q=>rw[fu T];simp[az]
def Db{ps:List Pg}{i k:Nat}{p:Pg}(T:ps[i]?=some p){s x:Str}(hs:p.ks[k]?=some s)(hx:p.vs[k]?=some x):fp ps i k=(s,x)::fp ps i (k+1):=by
 have h:p.prs[k]?=some (s,x):=by simp[Pg.prs,List.getElem?_zip_eq_some,hs,hx]
 rw[fp,fp,T];simp only[fu h,List.cons_append]
def xU{ps:List Pg}(h: ∀p∈ps,p.ks.length<=4):(az ps).length<=4*ps.length:=by
 induction ps with
 |nil=>simp[az]
 |cons p ps T=>
  have h1:=T (fun q hq=>h q (by simp[hq]));have h2:=h p sP;have h3:p.prs.length<=4:=by simp only[Pg.prs,List.length_zip];omega
  have e:az (p::ps)=p.prs++az ps:=rfl;rw[e,gV,lC];omega
def xP{ps:List Pg}(h: ∀p∈ps,p.ks.length<=4)(i k:Nat):(fp ps i k).length<=4*ps.length:=by
 unfold fp;cases T:ps[i]? with
 |none=>simp
 |some p=>
  have hi:=(gS T).1;have h1:=xU (ps:=ps.drop (i+1)) (fun q hq=>h q (mD hq));have h2:=h p (gE T);simp only[gV,lD,Pg.prs,List.length_zip] at h1|-;omega
def xm(ps:List Pg)(lo hi:Str)(hl:64*ps.length<=225000000000000):
 CallA prog 54 [.agg [.iv (.sl (ps.map Pg.c))],aS lo,aS hi] [] [] [] (.tup [.iv (.sl ((dG ps lo hi).map fun x=>Str.c x.1)),.iv (.sl ((dG ps lo hi).map fun x=>Str.c x.2))]):=by
 have kg:=iC ps C;refine iA func54 ntmps54 (fun w0 E0=> ?_);cases hg:aG ps with
 |false=>
  rw[hg] at kg;have e:dG ps lo hi= []:=by simp[dG,hg]
  rw[e];refine wz ?_;all_goals refine aU ?_
  all_goals rfl
 |true=>
  rw[hg] at kg;have hs:=dE lo hg;have kp:=pi ps lo C hs;have e:dG ps lo hi=(fp ps (dl ps lo).1 (dl ps lo).2.1).takeWhile (fun x=>decide (x.1<hi)):=by simp[dG,hg]
  rw[e];clear e;generalize dl ps lo=pl at kp;obtain⟨i0,k0,ok⟩:=pl;dsimp only at kp|-;refine wz ?_;refine L.adopt 8 (s:=8) (t:=9) (k:=1) U U U ?_;refine L.adopt 9 (s:=9) (t:=9) (k:=1) U U U ?_;have a0:=xP hs.len i0 k0;refine ae (ι:=Nat×Nat×List Pr) (fun i=>⟨[(10,aI (i.1:Int)),(11,aI (i.2.1:Int)),(8,.row 8 (i.2.2.map fun x=>Str.c x.1)),(9,.row 9 (i.2.2.map fun x=>Str.c x.2)),(2,aS hi),(3,.ptr 3 0)],[(3,⟨51,.l [.iv (.sl (ps.map Pg.c))]⟩)],[(9,⟨9,1⟩),(8,⟨9,1⟩)]⟩) (fun i=>ps.length - i.1)
   (fun i=>(fp ps i0 k0).takeWhile (fun x=>decide (x.1<hi))=i.2.2++(fp ps i.1 i.2.1).takeWhile (fun x=>decide (x.1<hi))/\i.2.2.length+(fp ps i.1 i.2.1).length<=4*ps.length) (i0:=(i0,k0,[])) ?_ ⟨by simp,by simpa using a0⟩ ?_
  · exact df
  rintro ⟨i,k,ad⟩ ⟨T,hb⟩ K hK;dsimp only at T hb|-;cases hp:ps[i]? with
  |none=>
   have a1:=gc (l:=ps.map Pg.c) (bz hp);have ef:fp ps i k= []:=by rw[fp,hp]
   rw[ef] at T;refine wz ?_;all_goals refine aU ?_
   rw[T];simp
  |some p=>
   have a1:=fZ (l:=ps.map Pg.c) (cM hp);have a5:=fM hp;have hv:=hs.vs p (gE hp);have a2:=hs.len p (gE hp);obtain⟨ks,vs⟩:=p;dsimp only at hv a2;have g1:(ps.map Pg.c)[((i:Nat):Int).toNat]?=some [.sl (ks.map Str.c),.sl (vs.map Str.c)]:=by rw[iN,gP,hp];rfl
   refine wz ?_;refine ae (ι:=Nat×List Pr) (fun j=>⟨[(10,aI (i:Int)),(11,aI (j.1:Int)),(8,.row 8 (j.2.map fun x=>Str.c x.1)),(9,.row 9 (j.2.map fun x=>Str.c x.2)),(2,aS hi),(3,.ptr 3 0)],[(3,⟨51,.l [.iv (.sl (ps.map Pg.c))]⟩)],[(9,⟨9,1⟩),(8,⟨9,1⟩)]⟩) (fun j=>ks.length - j.1)
    (fun j=>(fp ps i0 k0).takeWhile (fun x=>decide (x.1<hi))=j.2++(fp ps i j.1).takeWhile (fun x=>decide (x.1<hi))/\j.2.length+(fp ps i j.1).length<=4*ps.length) (i0:=(k,ad)) ?_ ⟨T,hb⟩ ?_
   · exact df
   clear T hb;rintro ⟨k,ad⟩ ⟨T,hb⟩ K2 a3;dsimp only at T hb|-;cases hw:ks[k]? with
   |none=>
    have ar:=gc (l:=ks.map Str.c) (bz hw);have hk:(Pg.prs ⟨ks,vs⟩).length<=k:=by
     have:=gO hw;simp[Pg.prs];omega
    rw[Dc hp hk] at T hb;refine wz ?_;refine hK _ (i+1,0,ad) ⟨T,hb⟩ oD ?_;exact df
   |some s=>
    have ar:=fZ (l:=ks.map Str.c) (cM hw);have a4:=fM hw;obtain⟨x,hx⟩: ∃x,vs[k]?=some x:=⟨_,gG C⟩
    have g2:(ks.map Str.c)[((k:Nat):Int).toNat]?=some [S s]:=by rw[iN,gP,hw];rfl
    have g3:(vs.map Str.c)[((k:Nat):Int).toNat]?=some [S x]:=by rw[iN,gP,hx];rfl
    rw[Db hp hw hx] at T hb;simp only[lC] at hb;have aR:(!(Op.bytesLess s hi))=(!decide (s<hi)):=by rw[LE]
    cases hq:decide (s<hi) with
    |false=>
     rw[hq] at aR;refine wz ?_;all_goals refine aU ?_
     rw[T,List.takeWhile_cons,hq];simp
    |true=>
     rw[hq] at aR;rw[List.takeWhile_cons,hq] at T;refine wz ?_;refine L.only [10,11,8,9,2,3] ?_;refine L.retok 8 65 8 U U U U ?_;refine L.retok 9 77 9 U U U U ?_;refine a3 _ (k+1,ad++ [(s,x)]) ⟨by rw[T];simp,by simp;omega⟩ oD (Wk.mk' kK (wF (wF (.cons U (Sub.of_eq (congrArg (AV.row 8) ?_)) (.cons U (Sub.of_eq (congrArg (AV.row 9) ?_)) F2)))) B1 (.cons U (.cons U .nil)))
     · simp[cY,Str.c]
     · simp[cY,Str.c]
end Go.Proofs.Y
namespace Go.Proofs.Y
open Go.Abs
def Jz{p:Pg}{x:Pr}(h:x∈p.prs):x.1∈p.ks:=(List.of_mem_zip h).1
def ED{p:Pg}(h:p.vs.length=p.ks.length):p.prs.map Prod.fst=p.ks:=by
 unfold Pg.prs;rw[List.map_fst_zip C]
def xH{ps:List Pg}(h: ∀p∈ps,Eo p):(az ps).map Prod.fst=fN ps:=by
 induction ps with
 |nil=>rfl
 |cons p ps T=>
  have e:az (p::ps)=p.prs++az ps:=rfl;rw[e,pA,ED (h p sP).2.2,T (fun q hq=>h q (by simp[hq]))];rfl
def iD(a b:List Pg):az (a++b)=az a++az b:=by simp[az]
def qP(a b:List Pg):fN (a++b)=fN a++fN b:=by simp[fN]
def jN{ps:List Pg}{x:Pr}(h:x∈az ps):x.1∈fN ps:=by
 obtain⟨p,T,hx⟩:=List.mem_flatMap.1 h;exact List.mem_flatMap.2 ⟨p,T,Jz hx⟩
def AD{key:Str}: ∀(p:Pg),p.ks.Pairwise (· < ·)->p.prs.drop (aX p.ks key)=p.prs.filter (fun x=> !decide (x.1<key)):=by
 rintro ⟨ks,vs⟩ h;induction ks generalizing vs with
 |nil=>simp[Pg.prs]
 |cons s ks T=>
  cases vs with
  |nil=>simp[Pg.prs]
  |cons v vs=>
   have hp:=List.pairwise_cons.1 h;have T:=T vs hp.2;simp only[Pg.prs,aX,pre] at T|-;by_cases hs:s<key
   · simp only[hs,decide_true,if_true,List.zip_cons_cons,List.drop_succ_cons,List.filter_cons,Bool.not_true,Bool.false_eq_true,if_false];exact T
   · have all: ∀x∈(ks.zip vs),(!decide (x.1<key))=true:=by
      intro x hx;have ad:x.1∈ks:=(List.of_mem_zip (a:=x.1) (b:=x.2) hx).1;have h1:=hp.1 _ ad;simp only[Bool.not_eq_true',decide_eq_false_iff_not];exact fun hc=>hs (dn h1 hc)
     simp only[hs,decide_false,Bool.false_eq_true,if_false,List.zip_cons_cons,List.drop_zero,List.filter_cons,Bool.not_false,if_true];rw[List.filter_eq_self.2 all]
def Da{ps:List Pg}(lo:Str)(h:aG ps=true):fp ps (dl ps lo).1 (dl ps lo).2.1=(az ps).filter (fun x=> !decide (x.1<lo)):=by
 obtain⟨h1,h2⟩:=(eO ps).1 h;have hs:=dE lo h;cases hp:ps[be ps lo]? with
 |none=>
  have:ps= []:=by
   cases ps with
   |nil=>rfl
   |cons p t=>
    have bl:=jc (kW lo) (p::t);have:=gO hp;simp only[be,lC] at this bl;omega
  subst this;rfl
 |some p=>
  have em:dl ps lo=(be ps lo,aX p.ks lo,bM p.ks lo):=by rw[dl,hp]
  rw[em];dsimp only;rw[fp,hp];dsimp only;have a2:=gE hp;have hi:=(gS hp).1;have ad:ps=ps.take (be ps lo)++p::ps.drop (be ps lo+1):=by
   rw[<-fu hp,List.take_append_drop]
  have hk:=rV h2 a2;have T:=h2;rw[ad,qP] at T;have a4:fN (p::ps.drop (be ps lo+1))=p.ks++fN (ps.drop (be ps lo+1)):=rfl;rw[a4] at T;obtain⟨_,hr,a0⟩:=List.pairwise_append.1 T;obtain⟨_,_,a8⟩:=List.pairwise_append.1 hr;have bm:=(h1 p a2).1;have a1:(az (ps.take (be ps lo))).filter (fun x=> !decide (x.1<lo))= []:=by
   rw[List.filter_eq_nil_iff];intro x hx;have ar:=jN hx;have a9:0<be ps lo:=by
    refine Nat.pos_of_ne_zero (fun e=> ?_);rw[e] at hx;simp[az] at hx
   have hq:be ps lo<pre (kW lo) ps:=by unfold be at a9|-;omega
   have hf:=uM hp hq;obtain⟨ks,vs⟩:=p;cases ks with
   |nil=>simp at bm
   |cons s ks=>
    have bp:=a0 x.1 ar s sP;have hf:s<=lo:=of_decide_eq_true hf;have:x.1<lo:=by
     refine List.not_le.1 (fun hc=> ?_);exact absurd bp (List.not_lt.2 (List.le_trans hf hc))
    simp[this]
  have a5:(az (ps.drop (be ps lo+1))).filter (fun x=> !decide (x.1<lo))=az (ps.drop (be ps lo+1)):=by
   rw[List.filter_eq_self];intro x hx;cases hq:ps.drop (be ps lo+1) with
   |nil=>rw[hq] at hx;simp[az] at hx
   |cons q t=>
    have ba:ps[be ps lo+1]?=some q:=by
     have:=congrArg (fun l=>l[0]?) hq;simpa using this
    have aR:kW lo q=false:=by
     cases bP:kW lo q with
     |false=>rfl
     |true=>
      have:=hs.pages.le ba bP;unfold be at this;omega
    have a6:=gE ba;have bh:=(h1 q a6).1;have ar:=jN hx;rw[hq] at ar;have a3:(fN (q::t)).Pairwise (· < ·):=by
     have:=(List.pairwise_append.1 hr).2.1
     rwa [hq] at this
    obtain⟨ks,vs⟩:=q;cases ks with
    |nil=>simp at bh
    |cons s ks=>
     have aR: ¬s<=lo:=of_decide_eq_false aR;have bi:lo<s:=List.not_le.1 aR;have bR:x.1=s\/s<x.1:=by
      have e:fN (⟨s::ks,vs⟩::t)=s::(ks++fN t):=rfl;rw[e] at ar a3;rcases List.mem_cons.1 ar with h|h
      · exact .inl h
      · exact .inr ((List.pairwise_cons.1 a3).1 _ h)
     have: ¬x.1<lo:=by
      rcases bR with h|h
      · rw[h];exact List.lt_asymm bi
      · exact List.lt_asymm (dn bi h)
     simp[this]
  have a7:az ps=az (ps.take (be ps lo))++(p.prs++az (ps.drop (be ps lo+1))):=by
   conv=>lhs;rw[ad]
   rw[iD];rfl
  rw[a7,List.filter_append,List.filter_append,a1,a5,<-AD p hk];rfl
def sH{hi:Str}: ∀{l:List Pr},(l.map Prod.fst).Pairwise (· < ·)->l.takeWhile (fun x=>decide (x.1<hi))=l.filter (fun x=>decide (x.1<hi))
 | [],_=>rfl
 |x::l,h=>by
  simp only[List.map_cons] at h;have hp:=List.pairwise_cons.1 h;rw[List.takeWhile_cons,List.filter_cons];by_cases T:x.1<hi
  · simp only[T,decide_true,if_true];rw[sH hp.2]
  · simp only[T,decide_false,Bool.false_eq_true,if_false];rw[eq_comm,List.filter_eq_nil_iff];intro y hy;have:=hp.1 y.1 (List.mem_map.2 ⟨y,hy,rfl⟩);simp only[decide_eq_true_eq];exact fun hc=>T (dn this hc)
def xk{ps:List Pg}(lo hi:Str)(h:aG ps=true):dG ps lo hi=(az ps).filter (fun x=> !decide (x.1<lo) && decide (x.1<hi)):=by
 obtain⟨h1,h2⟩:=(eO ps).1 h;have hk:((az ps).map Prod.fst).Pairwise (· < ·):=by rw[xH h1];exact h2
 rw[dG,if_pos h,Da lo h,sH,List.filter_filter]
 · congr 1;funext x;rw[Bool.and_comm]
 · exact hk.sublist (List.Sublist.map _ List.filter_sublist)
end Go.Proofs.Y
namespace Go.Proofs.Y
open Go.Abs
attribute [local irreducible] L Code.wp bodyPost Exit.then Exit.inBlock
def xj(ps:List Pg)(lo hi:Str):(dG ps lo hi).length<=4*ps.length:=by
 unfold dG;split
 · rename_i T;exact Nat.le_trans (List.takeWhile_sublist _).length_le (xP (dE lo T).len _ _)
 · simp
end Go.Proofs.Y
namespace Go.Proofs.Y
open Go.Abs Go.Proofs.Tryz
attribute [local irreducible] L Code.wp bodyPost Exit.then Exit.inBlock
def Dp(es:List (List IV))(hk: ∀e∈es,e.length=1)(T:es≠ [])(hm:es.length<=maxLen)(hl:es.length*16<=140737488355328):
 CallA prog 51 [.iv (.sl es)] [] [(1000,⟨9,.r es.flatten 0⟩)] [] (.bsh 1000 0 es.length 1):=by
 refine iA func51 ntmps51 (fun w0 E0=> ?_);(repeat' first|intro hb hp|(refine LW.is ?_;first|apply ag;rfl;apply jZ;rfl;rfl;exact T|apply eA;rfl;rfl;rfl;rfl;rfl|apply kC 1000;rfl;rfl;rfl;exact hk;exact T;exact hm;exact hl;rfl)|refine am ?_|refine al ?_ ?_|fail)
 all_goals(apply L.ends;rfl;rfl;exact fR;exact Wk.mk' kK .nil B1 .nil)
def Ds(es:List (List IV))(hk: ∀e∈es,e.length=2)(T:es≠ [])(hm:es.length<=maxLen)(hl:es.length*48<=140737488355328):
 CallA prog 160 [.iv (.sl es)] [] [(1000,⟨93,.r es.flatten 0⟩)] [] (.bsh 1000 0 es.length 2):=by
 refine iA func160 ntmps160 (fun w0 E0=> ?_);(repeat' first|intro hb hp|(refine LW.is ?_;first|apply ag;rfl;apply jZ;rfl;rfl;exact T|apply eA;rfl;rfl;rfl;rfl;rfl|apply kC 1000;rfl;rfl;rfl;exact hk;exact T;exact hm;exact hl;rfl)|refine am ?_|refine al ?_ ?_|fail)
 all_goals(apply L.ends;rfl;rfl;exact fR;exact Wk.mk' kK .nil B1 .nil)
def Dq:
 CallA prog 160 [.iv (.sl [])] [] [] [] (.iv (.sl [])):=by
 refine iA func160 ntmps160 (fun w0 E0=> ?_);(repeat' first|intro T hp|apply mu;rfl;rfl;rfl;rintro (_|_)|(refine LW.is ?_;first|apply ag;rfl;apply Li;rfl;rfl)|refine am ?_|refine al ?_ ?_|fail)
 all_goals refine aU ?_
 all_goals rfl
end Go.Proofs.Y
