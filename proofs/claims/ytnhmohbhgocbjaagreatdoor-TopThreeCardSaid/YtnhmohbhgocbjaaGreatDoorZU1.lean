/- Lemmas towards the law. Conditions: each one says its own. -/
import Derived.WalkKit
import Derived.Orders
import Derived.Below
import Derived.Deep.DeepAppendWide
import Derived.Laws.StructEq
import Derived.Laws.Slices
import Derived.Laws.Strings2
import Derived.Laws.BytesString
import Derived.Laws.Externs
import Derived.Lib.Bytealg
import Derived.Laws.Small
import Derived.Laws.Cover3
set_option linter.all false
set_option maxHeartbeats 64000000
set_option maxRecDepth 100000
namespace Go.Abs
def C{p:Prop}(h:p:=by omega):p:=h
def dD{p:Prop}(h:p:=by decide):p:=h
def U.{u}{α:Sort u}{a:α}:a=a:=rfl
def oD{p:Prop}(h:p:=by dsimp only;omega):p:=h
def oO{p:Prop}(h:p:=by simp[Op.operands,Call.operands]):p:=h
def kR{p:Prop}(h:p:=by kernel_rfl):p:=h
def nR{n:Nat}:n<=n:=Nat.le_refl n
def oM{p:Prop}(h:p:=by rw[List.length_map];omega):p:=h
def sP{p:Prop}(h:p:=by simp):p:=h
def gS{α:Type}{l:List α}{i:Nat}{a:α}(h:l[i]?=some a): ∃k:i<l.length,l[i] =a:=List.getElem?_eq_some_iff.1 h
def gO{α:Type}{l:List α}{i:Nat}(h:l[i]?=none):l.length<=i:=List.getElem?_eq_none_iff.1 h
def gE{α:Type}{l:List α}{i:Nat}{a:α}(h:l[i]?=some a):a∈l:=List.mem_of_getElem? h
def mM{α:Type}{β:Type}{f:α->β}{l:List α}{b:β}(h:b∈l.map f): ∃a,a∈l/\f a=b:=List.mem_map.1 h
def mA{α:Type}{s t:List α}{a:α}(h:a∈s++t):a∈s\/a∈t:=List.mem_append.1 h
def gU{α:Type}{l:List α}(h:l≠ []):0<l.length:=List.length_pos_iff.2 h
def mT{α:Type}{a:α}{n:Nat}{l:List α}(h:a∈l.take n):a∈l:=List.mem_of_mem_take h
def mD{α:Type}{a:α}{n:Nat}{l:List α}(h:a∈l.drop n):a∈l:=List.mem_of_mem_drop h
def tL{α:Type}{n:Nat}{l:List α}(h:l.length<=n):l.take n=l:=List.take_of_length_le h
def dL{α:Type}{l:List α}{n:Nat}(h:l.length<=n):l.drop n= []:=List.drop_eq_nil_of_le h
def nZ{α:Type}{l:List α}(h:l.length=0):l= []:=List.eq_nil_of_length_eq_zero h
def gL{α:Type}{l t:List α}{n:Nat}(h:n<l.length):(l++t)[n]?=l[n]?:=List.getElem?_append_left h
def gG{α:Type}{l:List α}{n:Nat}(h:n<l.length):l[n]?=some l[n]:=List.getElem?_eq_getElem h
def tA{α:Type}{l t:List α}{n:Nat}(h:n<=l.length):(l++t).take n=l.take n:=List.take_append_of_le_length h
def bT{n m:Nat}(h:Nat.ble n m=true):n<=m:=Nat.le_of_ble_eq_true h
def mR{m n:Nat}(k:Nat)(h:m<=n):m*k<=n*k:=Nat.mul_le_mul_right k h
def aT{α:Type}{p:α->Bool}{l:List α}(h:l.all p=true): ∀x,x∈l->p x=true:=List.all_eq_true.1 h
def cN{α:Type}(a:α)(l:List α):a::l≠ []:=List.cons_ne_nil a l
def lM{α:Type}{β:Type}{as:List α}(f:α->β):(as.map f).length=as.length:=List.length_map f
def gP{α:Type}{β:Type}{f:α->β}{l:List α}{i:Nat}:(l.map f)[i]?=Option.map f l[i]?:=List.getElem?_map
def gV{α:Type}{as bs:List α}:(as++bs).length=as.length+bs.length:=List.length_append
def lT{α:Type}{i:Nat}{l:List α}:(l.take i).length=min i l.length:=List.length_take
def lD{α:Type}{i:Nat}{l:List α}:(l.drop i).length=l.length - i:=List.length_drop
def pA{α:Type}{β:Type}{f:α->β}{l₁ l₂:List α}:(l₁++l₂).map f=l₁.map f++l₂.map f:=List.map_append
def iN(n:Nat):((n:Nat):Int).toNat=n:=Int.toNat_natCast n
def aE(a b:Bool):((a && b)=true)=(a=true/\b=true):=Bool.and_eq_true a b
def lC{α:Type}{a:α}{as:List α}:(a::as).length=as.length+1:=List.length_cons
end Go.Abs
namespace Go.Abs
open Go.RowKit (Below)
inductive IV where
 |im (v:Value)
 |sl (es:List (List IV))
inductive C8 (φ:Nat->Nat) (w:World):IV->Value->Prop
 |im {v:Value} (h:v.oneCell'=true):C8 φ w (.im v) v
 |emp {a:Option Addr} {cap:Nat} (hn:a=none->cap=0) (hm:cap<=maxLen):C8 φ w (.sl []) (.slice a 0 cap)
 |sl {es:List (List IV)} {b o cap k:Nat} (f:Nat->Nat->Value) (hc:es.length<=cap) (hm:cap<=maxLen)
   (hk: ∀(i:Nat) (e:List IV),es[i]?=some e->e.length=k)
   (hφ: ∀(i:Nat) (e:List IV) (j:Nat) (x:IV),es[i]?=some e->e[j]?=some x->o+i*k+j<φ b)
   (hcell: ∀(i:Nat) (e:List IV) (j:Nat) (x:IV),es[i]?=some e->e[j]?=some x->w.cell? ⟨b,o+i*k+j,none⟩=some (f i j))
   (hrep: ∀(i:Nat) (e:List IV) (j:Nat) (x:IV),es[i]?=some e->e[j]?=some x->C8 φ w x (f i j)):
   C8 φ w (.sl es) (.slice (some ⟨b,o,none⟩) es.length cap)
def C8.nil{φ:Nat->Nat}{w:World}:C8 φ w (.sl []) (.slice none 0 0):= .emp (fun _=>rfl) (Nat.zero_le _)
def C8.oneCell{φ:Nat->Nat}{w:World}{x:IV}{v:Value}(h:C8 φ w x v):v.oneCell'=true:=by
 cases h<;>first|assumption|rfl
def C8.im_eq{φ:Nat->Nat}{w:World}{v u:Value}(h:C8 φ w (.im v) u):u=v:=by
 cases h;rfl
def Keeps(φ:Nat->Nat)(w w':World):Prop:= ∀b o,o<φ b->w'.cell? ⟨b,o,none⟩=w.cell? ⟨b,o,none⟩
def C8.mono{φ T:Nat->Nat}{w w':World}(hk:Keeps φ w w')(hφ: ∀b,φ b<=T b){x:IV}{v:Value}(h:C8 φ w x v):C8 T w' x v:=by
 induction h with
 |im h=>exact .im h
 |emp hn hm=>exact .emp hn hm
 |sl f hc hm ar ad hcell _ ih=>
  exact .sl f hc hm ar (fun i e j x h1 h2=>Nat.lt_of_lt_of_le (ad i e j x h1 h2) (hφ _))
   (fun i e j x h1 h2=>(hk _ _ (ad i e j x h1 h2)).trans (hcell i e j x h1 h2)) ih
inductive AV where
 |any
 |iv (x:IV)
 |nils
 |emp
 |row (id:Nat) (es:List (List IV))
 |ptr (id off:Nat)
 |bsl (id off n cap:Nat)
 |bsh (id off n k:Nat)
 |el (cs:List IV)
 |agg (cs:List AV)
 |tup (vs:List AV)
 |fn (f:FuncId) (caps:List AV)
 |opt (c:Bool) (v:AV)
def ri(k cap:Nat):Value:= .tuple #[.int .i64 k,.int .i64 cap]
def mV{k cap k' cap':Nat}(h:ri k cap=ri k' cap'):k=k'/\cap=cap':=by
 simp only[ri,Value.tuple.injEq,Array.mk.injEq,List.cons.injEq,Value.int.injEq,true_and,and_true] at h;omega
structure B9 where
 φ:Nat->Nat
 ρ:Nat->Nat
 η:Nat->Value
inductive A6 (E:B9) (w:World):AV->Value->Prop
 |any {u:Value}:A6 E w .any u
 |iv {x:IV} {u:Value} (h:C8 E.φ w x u):A6 E w (.iv x) u
 |nils:A6 E w .nils (.slice none 0 0)
 |emp {a:Option Addr} {u:Value} (hu:u= .slice a 0 0):A6 E w .emp u
 |row {id:Nat} {es:List (List IV)} {u:Value} (hu:u=E.η id) (h:C8 E.φ w (.sl es) u):A6 E w (.row id es) u
 |ptr {id off:Nat} {u:Value} (hu:u= .pointer (some ⟨E.ρ id,off,none⟩)):A6 E w (.ptr id off) u
 |bsl {id off n cap o:Nat} {u:Value} (hn:n<=cap) (hm:cap<=maxLen) (ho:cap≠0->o=off) (hu:u= .slice (some ⟨E.ρ id,o,none⟩) n cap):A6 E w (.bsl id off n cap) u
 |bsh {id off n k cap o:Nat} {u:Value} (hn:off+n<=cap) (hm:cap<=maxLen) (he:E.η id=ri k cap) (ho:cap - off≠0->o=off*k) (hu:u= .slice (some ⟨E.ρ id,o,none⟩) n (cap - off)):A6 E w (.bsh id off n k) u
 |el {cs:List IV} {b o:Nat} (f:Nat->Value) (hc: ∀(j:Nat) (x:IV),cs[j]?=some x->o+j<E.φ b/\w.cell? ⟨b,o+j,none⟩=some (f j))
   (hr: ∀(j:Nat) (x:IV),cs[j]?=some x->C8 E.φ w x (f j)):A6 E w (.el cs) (.pointer (some ⟨b,o,none⟩))
 |agg {cs:List AV} {us:List Value} (hl:us.length=cs.length) (h1: ∀u∈us,u.oneCell'=true)
   (h: ∀(i:Nat) (c:AV) (u:Value),cs[i]?=some c->us[i]?=some u->A6 E w c u):A6 E w (.agg cs) (.agg us.toArray)
 |tup {cs:List AV} {us:List Value} (hl:us.length=cs.length)
   (h: ∀(i:Nat) (c:AV) (u:Value),cs[i]?=some c->us[i]?=some u->A6 E w c u):A6 E w (.tup cs) (.tuple us.toArray)
 |fn {f:FuncId} {caps:List AV} {us:List Value} (hl:us.length=caps.length)
   (h: ∀(i:Nat) (c:AV) (u:Value),caps[i]?=some c->us[i]?=some u->A6 E w c u):A6 E w (.fn f caps) (.func (.func f) #[] us.toArray)
 |optT {v:AV} {u:Value} (h:A6 E w v u):A6 E w (.opt true v) u
 |optF {v:AV}:A6 E w (.opt false v) undef
mutual
def AV.ment(id:Nat):AV->Bool
 | .any| .iv _| .nils| .emp| .el _=>false
 | .row i _=>i==id
 | .ptr i _=>i==id
 | .bsl i _ _ _=>i==id
 | .bsh i _ _ _=>i==id
 | .agg cs=>AV.ments id cs
 | .tup cs=>AV.ments id cs
 | .fn _ cs=>AV.ments id cs
 | .opt _ v=>AV.ment id v
def AV.ments(id:Nat):List AV->Bool
 | [] =>false
 |c::cs=>AV.ment id c||AV.ments id cs
end
section
variable {E:B9}{id n off:Nat}{u:Value}{v:AV}{w w':World}
def bA: ∀{cs:List AV},AV.ments id cs=false-> ∀(i:Nat) (c:AV),cs[i]?=some c->AV.ment id c=false
 | [],_,i,c,h=>by simp at h
 |d::cs,hm,0,c,h=>by
  simp only[AV.ments,Bool.or_eq_false_iff] at hm;simp at h;subst h;exact hm.1
 |d::cs,hm,i+1,c,h=>by
  simp only[AV.ments,Bool.or_eq_false_iff] at hm;exact bA hm.2 i c (by simpa using h)
def A6.mono{E':B9}(hk:Keeps E.φ w w')(hφ: ∀b,E.φ b<=E'.φ b){v:AV}{u:Value}(h:A6 E w v u):
 (∀id,AV.ment id v=true->E'.ρ id=E.ρ id/\E'.η id=E.η id)->A6 E' w' v u:=by
 induction h with
 |any=>exact fun _=> .any
 |iv h=>exact fun _=> .iv (h.mono hk hφ)
 |nils=>exact fun _=> .nils
 |emp hu=>exact fun _=> .emp hu
 |row hu h=>exact fun hm=> .row (by rw[hu];exact(hm _ (by simp[AV.ment])).2.symm) (h.mono hk hφ)
 |ptr hu=>exact fun hm=> .ptr (by rw[hu,(hm _ (by simp[AV.ment])).1])
 |bsl hn hx ho hu=>exact fun hm=> .bsl hn hx ho (by rw[hu,(hm _ (by simp[AV.ment])).1])
 |bsh hn hx he ho hu=>exact fun hm=> .bsh hn hx (by rw[(hm _ (by simp[AV.ment])).2];exact he) ho (by rw[hu,(hm _ (by simp[AV.ment])).1])
 |el f hc hr=>exact fun _=> .el f (fun j x hx=>⟨Nat.lt_of_lt_of_le (hc j x hx).1 (hφ _),(hk _ _ (hc j x hx).1).trans (hc j x hx).2⟩) (fun j x hx=>(hr j x hx).mono hk hφ)
 |agg hl h1 _ ih=>
  refine fun hm=> .agg hl h1 (fun i c u hc hu=>ih i c u hc hu (fun id T=>hm id ?_))
  cases hq:AV.ment id (.agg _) with
  |true=>rfl
  |false=>simp only[AV.ment] at hq;rw[bA hq i c hc] at T;cases T
 |tup hl _ ih=>
  refine fun hm=> .tup hl (fun i c u hc hu=>ih i c u hc hu (fun id T=>hm id ?_))
  cases hq:AV.ment id (.tup _) with
  |true=>rfl
  |false=>simp only[AV.ment] at hq;rw[bA hq i c hc] at T;cases T
 |fn hl _ ih=>
  refine fun hm=> .fn hl (fun i c u hc hu=>ih i c u hc hu (fun id T=>hm id ?_))
  cases hq:AV.ment id (.fn _ _) with
  |true=>rfl
  |false=>simp only[AV.ment] at hq;rw[bA hq i c hc] at T;cases T
 |optT h ih=>exact fun hm=> .optT (ih (fun id T=>hm id (by simpa[AV.ment] using T)))
 |optF=>exact fun _=> .optF
def A6.keep(hk:Keeps E.φ w w'){v:AV}{u:Value}(h:A6 E w v u):A6 E w' v u:=
 h.mono hk (fun _=>Nat.le_refl _) (fun _ _=>⟨rfl,rfl⟩)
def A6.iv_im{v:Value}(h:A6 E w (.iv (.im v)) u):u=v:=by
 cases h with|iv h=>exact h.im_eq
def A6.iv_inv{x:IV}(h:A6 E w (.iv x) u):C8 E.φ w x u:=by
 cases h with|iv h=>exact h
def A6.bsl_inv{cap:Nat}(h:A6 E w (.bsl id off n cap) u): ∃o,u= .slice (some ⟨E.ρ id,o,none⟩) n cap/\n<=cap/\cap<=maxLen/\(cap≠0->o=off):=by
 cases h with|bsl hn hm ho h=>exact⟨_,h,hn,hm,ho⟩
def A6.bsh_inv{k:Nat}(h:A6 E w (.bsh id off n k) u): ∃cap o,u= .slice (some ⟨E.ρ id,o,none⟩) n (cap - off)/\off+n<=cap/\cap<=maxLen/\E.η id=ri k cap/\(cap - off≠0->o=off*k):=by
 cases h with|bsh hn hm he ho h=>exact⟨_,_,h,hn,hm,he,ho⟩
def A6.ptr_inv(h:A6 E w (.ptr id off) u):u= .pointer (some ⟨E.ρ id,off,none⟩):=by
 cases h with|ptr h=>exact h
def AV.one:AV->Bool
 | .agg _| .tup _| .any| .opt _ _=>false
 |_=>true
def A6.oneCell(h:A6 E w v u)(h1:v.one=true):u.oneCell'=true:=by
 cases h with
 |iv h=>exact h.oneCell
 |nils=>rfl
 |emp hu=>subst hu;rfl
 |row hu h=>exact h.oneCell
 |ptr hu=>subst hu;rfl
 |bsl hn T ho hu=>subst hu;rfl
 |bsh hn T he ho hu=>subst hu;rfl
 |el=>rfl
 |fn=>rfl
 |_=>simp[AV.one] at h1
def AV.cells:AV->List AV
 | .agg cs=>cs
 |v=> [v]
def A6.cells(h:A6 E w v u)(h1:v.one=true\/ ∃cs,v= .agg cs):
 u.cells.toList.length=v.cells.length/\(∀x∈u.cells.toList,x.oneCell'=true)/\
   ∀(i:Nat) (c:AV) (x:Value),v.cells[i]?=some c->u.cells.toList[i]?=some x->A6 E w c x:=by
 rcases h1 with h1|⟨cs,rfl⟩
 · have ho:=h.oneCell h1;have e1:u.cells= #[u]:=by cases u<;>first|rfl|simp[Value.oneCell'] at ho
   have e2:v.cells= [v]:=by cases v<;>first|rfl|simp[AV.one] at h1
   rw[e1,e2];refine⟨by simp,by simpa using ho,fun i c x hc T=> ?_⟩;cases i with
   |zero=>simp at hc T;subst hc;subst T;exact h
   |succ i=>simp at hc
 · cases h with
   |agg hl h1 h=>exact⟨by simpa[AV.cells,Value.cells] using hl,by simpa[Value.cells] using h1,fun i c x hc T=>h i c x hc (by simpa[Value.cells] using T)⟩
end
end Go.Abs
namespace Go.Abs
class Dr where
 p:Prop
instance (priority:=low) noDr:Dr:=⟨False⟩
variable [Dr]
open Go.RowKit (Below)
inductive G6 where
 |l (cs:List AV)
 |r (xs:List IV) (m:Nat)
def G6.list:G6->List AV
 | .l cs=>cs
 | .r xs m=>xs.map .iv++List.replicate m .any
instance:Coe (List AV) G6:=⟨.l⟩
structure A5 where
 ty:TypeId
 c:G6
def A5.cs(b:A5):List AV:=b.c.list
@[simp] def A5.cs_l(ty:TypeId)(cs:List AV):(A5.mk ty (.l cs)).cs=cs:=rfl
@[simp] def A5.cs_r(ty:TypeId)(xs:List IV)(m:Nat):(A5.mk ty (.r xs m)).cs=xs.map .iv++List.replicate m .any:=rfl
def A5.ment(id:Nat)(b:A5):Bool:=
 match b.c with
 | .l cs=>AV.ments id cs
 | .r _ _=>false
def pp{id:Nat}: ∀{l m:List AV},AV.ments id l=false->AV.ments id m=false->AV.ments id (l++m)=false
 | [],m,_,h=>h
 |x::l,m,h,T=>by
  simp only[AV.ments,Bool.or_eq_false_iff] at h;simp only[List.cons_append,AV.ments,Bool.or_eq_false_iff];exact⟨h.1,pp h.2 T⟩
def gg(id:Nat): ∀xs:List IV,AV.ments id (xs.map .iv)=false
 | [] =>rfl
 |x::xs=>by simp[AV.ments,AV.ment,gg id xs]
def rS(id:Nat): ∀m:Nat,AV.ments id (List.replicate m .any)=false
 |0=>rfl
 |m+1=>by simp[List.replicate_succ,AV.ments,AV.ment,rS id m]
def A5.ment_eq(id:Nat)(b:A5):b.ment id=AV.ments id b.cs:=by
 obtain⟨ty,c⟩:=b;cases c with
 |l cs=>rfl
 |r xs m=>exact(pp (gg id xs) (rS id m)).symm
structure C9 where
 ty:TypeId
 k:Nat
structure St where
 fr:List (Nat×AV)
 bx:List (Nat×A5)
 tk:List (Nat×C9)
structure C7 where
 nt:Nat
 w0:World
 E0:B9
 ins:List Nat
def C7.M(c:C7)(g:Nat):Prop:= ∃id∈c.ins,c.E0.ρ id=g/\c.E0.φ g=0
def BoxOk(E:B9)(w:World)(id:Nat)(b:A5):Prop:=
 E.φ (E.ρ id)=0/\ ∃arr:List Value,w.heap[E.ρ id]?=some (.cells arr.toArray b.ty (0,0))/\b.cs.length<=arr.length/\(∀u∈arr,u.oneCell'=true)/\
   (∀(i:Nat) (c:AV) (u:Value),b.cs[i]?=some c->arr[i]?=some u->A6 E w c u)/\ ∀k cap,E.η id=ri k cap->cap*k<=arr.length
def TokOk(E:B9)(w:World)(id:Nat)(t:C9):Prop:=
 E.η id= .slice none 0 0\/
 ∃(g n cap:Nat) (cur:Array Value),E.η id= .slice (some ⟨g,0,none⟩) n cap/\w.heap[g]?=some (.cells cur t.ty (0,0))/\n<=cap/\cap<=maxLen/\
  cap*t.k<=cur.size/\E.φ g<=n*t.k
structure D1 (M:Nat->Prop) (w w':World):Prop where
 os:w'.os=w.os
 tape:w'.tape=w.tape
 output:w'.output=w.output
 size:w.heap.size<=w'.heap.size
 block: ∀k,k<w.heap.size-> ¬M k->w'.heap[k]?=w.heap[k]?
 drawn:Dr.p->w.drawn<=w'.drawn
def D1.refl(M:Nat->Prop)(w:World):D1 M w w:=⟨rfl,rfl,rfl,Nat.le_refl _,fun _ _ _=>rfl,fun _=>Nat.le_refl _⟩
def nE{M:Nat->Prop}{w w':World}(h:Below w.heap.size w w')(T:Dr.p->w.drawn<=w'.drawn:=by exact fun h=>False.elim h):D1 M w w':=⟨h.os,h.tape,h.output,h.size,fun k hk _=>h.block k hk,T⟩
def D1.next{M:Nat->Prop}{w0 w w':World}(h:D1 M w0 w)(os:w'.os=w.os)(tape:w'.tape=w.tape)(output:w'.output=w.output)(size:w.heap.size<=w'.heap.size)
 (block: ∀k,k<w0.heap.size-> ¬M k->w'.heap[k]?=w.heap[k]?) (drawn:Dr.p->w.drawn<=w'.drawn:=by intro _;first|exact Nat.le_refl _|exact Nat.le_succ _):D1 M w0 w':=
 ⟨os.trans h.os,tape.trans h.tape,output.trans h.output,Nat.le_trans h.size size,fun k hk hm=>(block k hk hm).trans (h.block k hk hm),fun T=>Nat.le_trans (h.drawn T) (drawn T)⟩
structure C4 (c:C7) (E:B9) (bx:List (Nat×A5)) (tk:List (Nat×C9)) (w:World):Prop where
 box: ∀(id:Nat) (b:A5),bx.lookup id=some b->b.cs≠ [] ->BoxOk E w id b
 tok: ∀(id:Nat) (t:C9),tk.lookup id=some t->TokOk E w id t
 bb: ∀(i j:Nat) (b b':A5),bx.lookup i=some b->bx.lookup j=some b'->b.cs≠ [] ->b'.cs≠ [] ->E.ρ i=E.ρ j->i=j
 tt: ∀(i j:Nat) (t t':C9) (g:Nat),tk.lookup i=some t->tk.lookup j=some t'->(E.η i).ownBlock=some g->(E.η j).ownBlock=some g->i=j
 bt: ∀(i j:Nat) (b:A5) (t:C9),bx.lookup i=some b->b.cs≠ [] ->tk.lookup j=some t->(E.η j).ownBlock≠some (E.ρ i)
 own: ∀(i:Nat) (b:A5),bx.lookup i=some b->b.cs≠ [] ->c.w0.heap.size<=E.ρ i\/c.M (E.ρ i)
 ownt: ∀(j:Nat) (t:C9) (g:Nat),tk.lookup j=some t->(E.η j).ownBlock=some g->c.w0.heap.size<=g
 new: ∀b,w.heap.size<=b->E.φ b=0
 old: ∀b,b<c.w0.heap.size->E.φ b=c.E0.φ b
 ins: ∀id∈c.ins,E.ρ id=c.E0.ρ id/\E.η id=c.E0.η id/\(bx.lookup id).isSome=true
 kept:D1 c.M c.w0 w
structure Inv (c:C7) (E:B9) (st:St) (a:Act) (w:World):Prop where
 defers:a.defers= []
 size:a.tmps.size=c.nt
 slot: ∀(s:Nat) (v:AV),st.fr.lookup s=some v->A6 E w v (a.tmps.getD s undef)
 heap:C4 c E st.bx st.tk w
def R(c:C7)(st:St)(a:Act)(w:World):Prop:= ∃E,Inv c E st a w
def L(c:C7)(st:St)(X:Act->World->Prop):Prop:= ∀a w,R c st a w->X a w
def Sub(v v':AV):Prop:= ∀(E:B9) (w:World) (u:Value),A6 E w v u->A6 E w v' u
def Sub.refl(v:AV):Sub v v:=fun _ _ _ h=>h
def Sub.any(v:AV):Sub v .any:=fun _ _ _ _=> .any
def Sub.row(id:Nat)(es:List (List IV)):Sub (.row id es) (.iv (.sl es)):=fun _ _ _ h=>by cases h with|row hu h=>exact .iv h
def Sub.nils:Sub .nils (.iv (.sl [])):=fun _ _ _ h=>by cases h;exact .iv .nil
def Sub.emp:Sub .emp (.iv (.sl [])):=fun _ _ _ h=>by
 cases h with
 |emp hu=>subst hu;exact .iv (.emp (fun _=>rfl) (Nat.zero_le _))
def Sub.nilsEmp:Sub .nils .emp:=fun _ _ _ h=>by cases h;exact .emp U
def Sub.trans{a b c:AV}(h:Sub a b)(k:Sub b c):Sub a c:=fun E w u x=>k E w u (h E w u x)
def Subs(l l':List AV):Prop:=l'.length=l.length/\ ∀(i:Nat) (x y:AV),l[i]?=some x->l'[i]?=some y->Sub x y
def Subs.nil:Subs [] []:=⟨rfl,fun i x y h=>by simp at h⟩
def Subs.cons{x y:AV}{l l':List AV}(h:Sub x y)(t:Subs l l'):Subs (x::l) (y::l'):=
 ⟨by simp[t.1],fun i a b ha T=>by
   cases i with
   |zero=>simp at ha T;subst ha;subst T;exact h
   |succ i=>exact t.2 i a b (by simpa using ha) (by simpa using T)⟩
def Subs.refl(l:List AV):Subs l l:=⟨rfl,fun i x y h1 h2=>by rw[h1] at h2;cases h2;exact Sub.refl _⟩
def Subs.ne{l l':List AV}(h:Subs l l')(hn:l'≠ []):l≠ []:=fun e=>by
 have:=h.1;rw[e] at this;exact hn (nZ (by simpa using this))
def Sub.agg{l l':List AV}(h:Subs l l'):Sub (.agg l) (.agg l'):=fun E w u x=>by
 cases x with
 |agg hl h1 hr=>
  refine .agg (by rw[hl,h.1]) h1 (fun i c u hc hu=> ?_);have hi:i<l.length:=by
   have:=(gS hc).1;rw[h.1] at this;exact this
  exact h.2 i _ _ (gG hi) hc E w u (hr i _ u (gG hi) hu)
def Sub.tup{l l':List AV}(h:Subs l l'):Sub (.tup l) (.tup l'):=fun E w u x=>by
 cases x with
 |tup hl hr=>
  refine .tup (by rw[hl,h.1]) (fun i c u hc hu=> ?_);have hi:i<l.length:=by
   have:=(gS hc).1;rw[h.1] at this;exact this
  exact h.2 i _ _ (gG hi) hc E w u (hr i _ u (gG hi) hu)
def AV.pub:AV->AV
 | .row _ es=> .iv (.sl es)
 | .nils=> .iv (.sl [])
 | .emp=> .iv (.sl [])
 | .agg cs=> .agg (pubs cs)
 |v=>v
 where pubs:List AV->List AV
  | [] => []
  |c::cs=>AV.pub c::pubs cs
mutual
def Sub.pub: ∀v:AV,Sub v v.pub
 | .row id es=>Sub.row id es
 | .nils=>Sub.nils
 | .emp=>Sub.emp
 | .agg cs=>Sub.agg (Subs.pubs cs)
 | .any=>Sub.refl _
 | .iv _=>Sub.refl _
 | .ptr _ _=>Sub.refl _
 | .bsl _ _ _ _=>Sub.refl _
 | .bsh _ _ _ _=>Sub.refl _
 | .el _=>Sub.refl _
 | .tup _=>Sub.refl _
 | .fn _ _=>Sub.refl _
 | .opt _ _=>Sub.refl _
def Subs.pubs: ∀l:List AV,Subs l (AV.pub.pubs l)
 | [] =>Subs.nil
 |c::cs=>Subs.cons (Sub.pub c) (Subs.pubs cs)
end
structure Wk (c:C7) (st st':St):Prop where
 ins: ∀id∈c.ins,(st'.bx.lookup id).isSome=true
 fr: ∀(s:Nat) (v:AV),st'.fr.lookup s=some v-> ∃v0,st.fr.lookup s=some v0/\Sub v0 v
 bx: ∀(id:Nat) (b:A5),st'.bx.lookup id=some b-> ∃b0,st.bx.lookup id=some b0/\b0.ty=b.ty/\Subs b0.cs b.cs
 tk: ∀(id:Nat) (t:C9),st'.tk.lookup id=some t->st.tk.lookup id=some t
def BoxOk.sub{E:B9}{w:World}{id:Nat}{b b':A5}(h:BoxOk E w id b)(ht:b.ty=b'.ty)(hs:Subs b.cs b'.cs):BoxOk E w id b':=by
 obtain⟨h0,arr,ha,hl,h1,hr,T⟩:=h;refine⟨h0,arr,by rw[<-ht];exact ha,by rw[hs.1];exact hl,h1,fun i c u hc hu=> ?_,T⟩;have hi:i<b.cs.length:=by
  have:=(gS hc).1;rw[hs.1] at this;exact this
 exact hs.2 i _ _ (gG hi) hc E w u (hr i _ u (gG hi) hu)
def C4.wk{c:C7}{E:B9}{w:World}{st st':St}(h:C4 c E st.bx st.tk w)(T:Wk c st st'):C4 c E st'.bx st'.tk w where
 box id b hb hn:=by obtain⟨b0,h0,ht,hs⟩:=T.bx id b hb;exact(h.box id b0 h0 (hs.ne hn)).sub ht hs
 tok id t ht:=h.tok id t (T.tk id t ht)
 bb i j b b' hi hj hn ar he:=by
  obtain⟨b0,h0,_,hs⟩:=T.bx i b hi;obtain⟨b1,h1,_,aR⟩:=T.bx j b' hj;exact h.bb i j b0 b1 h0 h1 (hs.ne hn) (aR.ne ar) he
 tt i j t t' g hi hj:=h.tt i j t t' g (T.tk i t hi) (T.tk j t' hj)
 bt i j b t hi hn hj:=by
  obtain⟨b0,h0,_,hs⟩:=T.bx i b hi;exact h.bt i j b0 t h0 (hs.ne hn) (T.tk j t hj)
 own i b hi hn:=by obtain⟨b0,h0,_,hs⟩:=T.bx i b hi;exact h.own i b0 h0 (hs.ne hn)
 ownt j t g hj:=h.ownt j t g (T.tk j t hj)
 new:=h.new
 old:=h.old
 ins id ad:=⟨(h.ins id ad).1,(h.ins id ad).2.1,T.ins id ad⟩
 kept:=h.kept
def R.wk{c:C7}{st st':St}{a:Act}{w:World}(h:R c st a w)(T:Wk c st st'):R c st' a w:=by
 obtain⟨E,hi⟩:=h;exact⟨E,hi.defers,hi.size,fun s v hv=>by obtain⟨v0,h0,hs⟩:=T.fr s v hv;exact hs E w _ (hi.slot s v0 h0),hi.heap.wk T⟩
def L.wk{c:C7}{st st':St}{X:Act->World->Prop}(T:Wk c st st')(h:L c st' X):L c st X:=fun a w hr=>h a w (hr.wk T)
inductive E6 (fr:List (Nat×AV)):List (Nat×AV)->Prop
 |nil:E6 fr []
 |cons {s:Nat} {v v0:AV} {r:List (Nat×AV)} (h:fr.lookup s=some v0) (hs:Sub v0 v) (t:E6 fr r):E6 fr ((s,v)::r)
inductive E3 (bx:List (Nat×A5)):List (Nat×A5)->Prop
 |nil:E3 bx []
 |cons {id:Nat} {b:A5} {b0:A5} {r:List (Nat×A5)} (h:bx.lookup id=some b0) (ht:b0.ty=b.ty) (hs:Subs b0.cs b.cs) (t:E3 bx r):E3 bx ((id,b)::r)
inductive F9 (tk:List (Nat×C9)):List (Nat×C9)->Prop
 |nil:F9 tk []
 |cons {id:Nat} {t:C9} {r:List (Nat×C9)} (h:tk.lookup id=some t) (l:F9 tk r):F9 tk ((id,t)::r)
def E6.get{fr T:List (Nat×AV)}(h:E6 fr T): ∀(s:Nat) (v:AV),T.lookup s=some v-> ∃v0,fr.lookup s=some v0/\Sub v0 v:=by
 induction h with
 |nil=>intro s v h;simp at h
 | @cons s0 v1 v0 r h hs _ ih=>
   intro s v hl;by_cases e:s=s0
   · subst e;simp[List.lookup] at hl;subst hl;exact⟨v0,h,hs⟩
   · have e':(s==s0)=false:=by simpa using e
     exact ih s v (by simpa[List.lookup,e'] using hl)
def E3.get{bx bx':List (Nat×A5)}(h:E3 bx bx'): ∀(s:Nat) (v:A5),bx'.lookup s=some v-> ∃v0,bx.lookup s=some v0/\v0.ty=v.ty/\Subs v0.cs v.cs:=by
 induction h with
 |nil=>intro s v h;simp at h
 | @cons T v1 v0 r h ht hs _ ih=>
   intro s v hl;by_cases e:s=T
   · subst e;simp[List.lookup] at hl;subst hl;exact⟨v0,h,ht,hs⟩
   · have e':(s==T)=false:=by simpa using e
     exact ih s v (by simpa[List.lookup,e'] using hl)
def F9.get{tk tk':List (Nat×C9)}(h:F9 tk tk'): ∀(s:Nat) (v:C9),tk'.lookup s=some v->tk.lookup s=some v:=by
 induction h with
 |nil=>intro s v h;simp at h
 | @cons T v1 r h _ ih=>
   intro s v hl;by_cases e:s=T
   · subst e;simp[List.lookup] at hl;subst hl;exact h
   · have e':(s==T)=false:=by simpa using e
     exact ih s v (by simpa[List.lookup,e'] using hl)
def Wk.mk'{c:C7}{st:St}{fr:List (Nat×AV)}{bx:List (Nat×A5)}{tk:List (Nat×C9)}(h0: ∀id∈c.ins,(bx.lookup id).isSome=true)(h1:E6 st.fr fr)(h2:E3 st.bx bx)(h3:F9 st.tk tk):Wk c st ⟨fr,bx,tk⟩:=
 ⟨h0,h1.get,h2.get,h3.get⟩
def ix{β:Type}(p:Nat->Bool): ∀(l:List (Nat×β)) (s:Nat) (v:β),(l.filter (fun q=>p q.1)).lookup s=some v->l.lookup s=some v
 | [],s,v,h=>by simp at h
 |(t,u)::l,s,v,h=>by
  by_cases e:s=t
  · subst e;by_cases T:p s=true
    · simpa[List.filter_cons,T,List.lookup] using h
    · simp only[Bool.not_eq_true] at T;exfalso;have:(List.filter (fun q=>p q.1) ((s,u)::l))=List.filter (fun q=>p q.1) l:=by simp[T]
      rw[this] at h;have ad: ∀(m:List (Nat×β)),(m.filter (fun q=>p q.1)).lookup s=some v->p s=true:=by
       intro m;induction m with
       |nil=>intro h;simp at h
       |cons x m ih=>
        intro h;by_cases hx:p x.1=true
        · by_cases e:s=x.1
          · rw[e];exact hx
          · have e':(s==x.1)=false:=by simpa using e
            obtain⟨x1,x2⟩:=x;simp only at hx e';exact ih (by simpa[List.filter_cons,hx,List.lookup,e'] using h)
        · simp only[Bool.not_eq_true] at hx;exact ih (by simpa[List.filter_cons,hx] using h)
      rw[ad l h] at T;cases T
  · have e':(s==t)=false:=by simpa using e
    by_cases T:p t=true
    · simp only[List.filter_cons,T,if_true,List.lookup,e'] at h|-;exact ix p l s v h
    · simp only[Bool.not_eq_true] at T;simp only[List.filter_cons,T,List.lookup,e'] at h|-;exact ix p l s v (by simpa using h)
end Go.Abs
namespace Go.Abs
variable [Dr]
open Go.RowKit (Below)
abbrev S(l:List UInt8):IV:= .im (.string ⟨l.toArray⟩)
abbrev I(n:Int):IV:= .im (.int .i64 n)
abbrev B(b:Bool):IV:= .im (.bool b)
abbrev aS(l:List UInt8):AV:= .iv (.im (.string ⟨l.toArray⟩))
abbrev aI(n:Int):AV:= .iv (.im (.int .i64 n))
abbrev aB(b:Bool):AV:= .iv (.im (.bool b))
def cy:Value->AV
 | .slice none 0 0=> .nils
 |v=> .iv (.im v)
def zv:Value->AV
 | .slice none 0 0=> .nils
 | .agg cs=>if cs.toList.all (·.oneCell') then .agg (cs.toList.map cy) else .any
 | .tuple _=> .any
 |v=> .iv (.im v)
def jp(E:B9)(w:World)(v:Value)(h:v.oneCell'=true):A6 E w (cy v) v:=by
 unfold cy;split
 · exact .nils
 · exact .iv (.im h)
def BE(E:B9)(w:World)(v:Value):A6 E w (zv v) v:=by
 unfold zv;split
 · exact .nils
 · rename_i cs;split
   · rename_i T;have:(Value.agg cs)= .agg cs.toList.toArray:=by simp
     rw[this];refine .agg sP (fun u hu=>by simpa using aT T u hu) (fun i c u hc hu=> ?_);simp only[gP] at hc;rw[hu] at hc;simp at hc;subst hc;exact jp E w u (aT T u (gE hu))
   · exact .any
 · exact .any
 · rename_i h1 h2 h3;exact .iv (.im (by cases v<;>first|rfl|(exact(h2 _ U).elim)|(exact(h3 _ U).elim)))
def AV.strip:AV->AV
 | .opt true v=>v.strip
 |v=>v
def A6.strip{E:B9}{w:World}: ∀{v:AV} {u:Value},A6 E w v u->A6 E w v.strip u
 | .opt true v,u,h=>by cases h with|optT h=>exact A6.strip (v:=v) h
 | .opt false v,u,h=>h
 | .any,u,h=>h
 | .iv _,u,h=>h
 | .nils,u,h=>h
 | .emp,u,h=>h
 | .row _ _,u,h=>h
 | .ptr _ _,u,h=>h
 | .bsl _ _ _ _,u,h=>h
 | .bsh _ _ _ _,u,h=>h
 | .el _,u,h=>h
 | .agg _,u,h=>h
 | .tup _,u,h=>h
 | .fn _ _,u,h=>h
def St.ev(st:St):Operand->AV
 | .tmp t=>match st.fr.lookup t with
   |some v=>v.strip
   |none=> .any
 | .const v=>zv v
 | .func f=> .fn f []
 | .global _=> .any
def Inv.ev{c:C7}{E:B9}{st:St}{a:Act}{w:World}(h:Inv c E st a w)(x:Operand):A6 E w (st.ev x) (a.eval x):=by
 cases x with
 |tmp t=>
  simp only[St.ev,Act.eval];split
  · rename_i v T;exact(h.slot t v T).strip
  · exact .any
 |const v=>exact BE E w v
 |global g=>exact .any
 |func f=>exact .fn (us:= []) U (fun i c u hc hu=>by simp at hc)
def Inv.put{c:C7}{E:B9}{st:St}{a:Act}{w:World}(h:Inv c E st a w){d:Nat}(hd:d<c.nt){v:AV}{u:Value}(hr:A6 E w v u):
 Inv c E ⟨(d,v)::st.fr,st.bx,st.tk⟩ (a.put (some d) u) w:=by
 refine⟨h.defers,by simpa[Act.put] using h.size,fun s v' T=> ?_,h.heap⟩;by_cases e:s=d
 · subst e;simp[List.lookup] at T;subst T;have:s<a.tmps.size:=by rw[h.size];exact hd
   simpa[Act.put,this] using hr
 · have e':(s==d)=false:=by simpa using e
   have:=h.slot s v' (by simpa[List.lookup,e'] using T);have ad:d≠s:=fun x=>e x.symm
   simpa[Act.put,Array.getElem?_setIfInBounds_ne ad] using this
section
variable {P:Program}{c:C7}{st:St}{ops:Array Oper}{Q:Exit->Act->World->Prop}{rest:List Oper}{o:Oper}
def Yields(P:Program)(c:C7)(st:St)(o:Oper)(v:AV):Prop:=
 ∀(E:B9) (a:Act) (w:World),Inv c E st a w-> ∃u,(execOp a.eval o).run P w= .ok (.value u) w/\A6 E w v u
section
variable {a:Act}{after:Array Edge}{b:Bool}{d j s:Nat}{k:IntKind}{m n:Int}{op:Op}{pos:String}{t t' ty:TypeId}{u:Value}{w:World}{x y z:Operand}
def ek{w':World}{K:Act->World->Prop}(hr:(execOp a.eval o).run P w= .ok (.value u) w')(h:K (a.put o.dst u) w'):o.wp P a w K Q:=by
 unfold Oper.wp;rw[hr];exact h
def L.val{v:AV}(hg:o.guard=none)(hd:o.dst=some d)(T:Nat.ble (d+1) c.nt=true)(hy:Yields P c st o v)
 (h:L c ⟨(d,v)::st.fr,st.bx,st.tk⟩ (wpList P ops Q rest)):L c st (wpList P ops Q (o::rest)):=by
 rintro a w ⟨E,hi⟩;obtain⟨u,hr,hv⟩:=hy E a w hi;refine wpList_plain hg (fun K hK=>ek hr (hK _ _ ?_));rw[hd];exact h _ _ ⟨E,hi.put (bT T) hv⟩
def L.nil(h:L c st (Q .normal)):L c st (wpList P ops Q []):=h
def L.guardDo{dst:Option Tmp}
 (hj:(ops[j]?).bind (·.dst)=some s) (hb:st.ev (.tmp s)=aB b)
 (h:L c st (wpList P ops Q (⟨dst,op,ty,pos,after,none⟩::rest))):L c st (wpList P ops Q (⟨dst,op,ty,pos,after,some (j,b)⟩::rest)):=by
 rintro a w hr;have h':=h a w hr;obtain⟨E,hi⟩:=hr;have hv:=(hi.ev (.tmp s))
 rw[hb] at hv;have T:=hv.iv_im;have hy:yielded ops a.tmps j=some b:=by
  simp only[yielded,hj,Option.bind_some];simp only[Act.eval,Array.getD_eq_getD_getElem?] at T;cases hx:a.tmps[s]? with
  |none=>rw[hx] at T;simp[undef] at T
  |some x=>rw[hx] at T;simp at T;subst T;rfl
 unfold wpList at h'|-;simp only[Region.wanted,if_true,hy] at h'|-;rw[if_pos sP];exact h'
def L.guardSkip{b':Bool}(ad:Nat.ble (d+1) c.nt=true)
 (hj:(ops[j]?).bind (·.dst)=some s) (hb:st.ev (.tmp s)=aB b') (ar:b'≠b)
 (h:L c ⟨(d,.opt false .any)::st.fr,st.bx,st.tk⟩ (wpList P ops Q rest)):L c st (wpList P ops Q (⟨some d,op,ty,pos,after,some (j,b)⟩::rest)):=by
 rintro a w ⟨E,hi⟩;have hv:=(hi.ev (.tmp s))
 rw[hb] at hv;have T:=hv.iv_im;have hy:yielded ops a.tmps j=some b':=by
  simp only[yielded,hj,Option.bind_some];simp only[Act.eval,Array.getD_eq_getD_getElem?] at T;cases hx:a.tmps[s]? with
  |none=>rw[hx] at T;simp[undef] at T
  |some x=>rw[hx] at T;simp at T;subst T;rfl
 unfold wpList;simp only[Region.wanted,hy];rw[if_neg (by simpa using ar)];exact h _ _ ⟨E,hi.put (bT ad) .optF⟩
def L.guardSkipU(ad:Nat.ble (d+1) c.nt=true)
 (hj:(ops[j]?).bind (·.dst)=some s) (hb:st.ev (.tmp s)= .opt false .any)
 (h:L c ⟨(d,.opt false .any)::st.fr,st.bx,st.tk⟩ (wpList P ops Q rest)):L c st (wpList P ops Q (⟨some d,op,ty,pos,after,some (j,b)⟩::rest)):=by
 rintro a w ⟨E,hi⟩;have hv:=(hi.ev (.tmp s))
 rw[hb] at hv;have T:a.eval (.tmp s)=undef:=by generalize a.eval (.tmp s)=u at hv;cases hv;rfl
 have hy:yielded ops a.tmps j=none:=by
  simp only[yielded,hj,Option.bind_some];simp only[Act.eval,Array.getD_eq_getD_getElem?] at T;cases hx:a.tmps[s]? with
  |none=>rfl
  |some x=>rw[hx] at T;simp at T;subst T;rfl
 unfold wpList;simp only[Region.wanted,hy];rw[if_neg sP];exact h _ _ ⟨E,hi.put (bT ad) .optF⟩
def Yields.of_eval(h: ∀a:Act,(execOp a.eval o)=pure (.value (a.eval x))):Yields P c st o (st.ev x):=
 fun E a w hi=>⟨_,by rw[h a];rfl,hi.ev x⟩
def Yields.move(ho:o.op= .move x):Yields P c st o (st.ev x):= .of_eval fun a=>by simp[execOp,ho]
def Yields.assign(ho:o.op= .assign x):Yields P c st o (st.ev x):= .of_eval fun a=>by simp[execOp,ho]
def Yields.pickT(ho:o.op= .pick x y z)(T:st.ev x=aB true):Yields P c st o (st.ev y):=fun E a w hi=>by
 have h:=hi.ev x;rw[T] at h;exact⟨_,by simp[execOp,ho,h.iv_im,asBool],hi.ev y⟩
def Yields.pickF(ho:o.op= .pick x y z)(T:st.ev x=aB false):Yields P c st o (st.ev z):=fun E a w hi=>by
 have h:=hi.ev x;rw[T] at h;exact⟨_,by simp[execOp,ho,h.iv_im,asBool],hi.ev z⟩
def Yields.im(h1:u.oneCell'=true)(h: ∀(E:B9) (a:Act) (w:World),Inv c E st a w->(execOp a.eval o).run P w= .ok (.value u) w):Yields P c st o (.iv (.im u)):=
 fun E a w hi=>⟨u,h E a w hi,.iv (.im h1)⟩
def Inv.im{E:B9}(hi:Inv c E st a w){x:Operand}{u:Value}(T:st.ev x= .iv (.im u)):a.eval x=u:=by
 have h:=hi.ev x;rw[T] at h;exact h.iv_im
def Yields.addI(ho:o.op= .binOp .add t x y t')(hx:st.ev x=aI m)(hy:st.ev y=aI n)
 (T: -9223372036854775808<=m+n) (ad:m+n<=9223372036854775807):Yields P c st o (aI (m+n)):=
 .im U fun E a w hi=>by
   have:IntKind.i64.wrap (m+n)=m+n:=IntWalk.i64_in _ ⟨T,ad⟩;simp[execOp,ho,hi.im hx,hi.im hy,eqGuard,binOp,Op.intArith,this]
def Yields.subI(ho:o.op= .binOp .sub t x y t')(hx:st.ev x=aI m)(hy:st.ev y=aI n)
 (T: -9223372036854775808<=m - n) (ad:m - n<=9223372036854775807):Yields P c st o (aI (m - n)):=
 .im U fun E a w hi=>by
   have:IntKind.i64.wrap (m - n)=m - n:=IntWalk.i64_in _ ⟨T,ad⟩;simp[execOp,ho,hi.im hx,hi.im hy,eqGuard,binOp,Op.intArith,this]
def Yields.mulI(ho:o.op= .binOp .mul t x y t')(hx:st.ev x=aI m)(hy:st.ev y=aI n)
 (T: -9223372036854775808<=m*n) (ad:m*n<=9223372036854775807):Yields P c st o (aI (m*n)):=
 .im U fun E a w hi=>by
   have:IntKind.i64.wrap (m*n)=m*n:=IntWalk.i64_in _ ⟨T,ad⟩;simp[execOp,ho,hi.im hx,hi.im hy,eqGuard,binOp,Op.intArith,this]
def Yields.eqlI(ho:o.op= .binOp .eql t x y t')(T:st.ev x= .iv (.im (.int k m)))(hy:st.ev y= .iv (.im (.int k n))):Yields P c st o (aB (m==n)):=
 .im U fun E a w hi=>by simp[execOp,ho,hi.im T,hi.im hy,eqGuard,binOp,Op.intCmp]
def Yields.neqI(ho:o.op= .binOp .neq t x y t')(T:st.ev x= .iv (.im (.int k m)))(hy:st.ev y= .iv (.im (.int k n))):Yields P c st o (aB (m !=n)):=
 .im U fun E a w hi=>by simp[execOp,ho,hi.im T,hi.im hy,eqGuard,binOp,Op.intCmp]
def Yields.lssI(ho:o.op= .binOp .lss t x y t')(T:st.ev x= .iv (.im (.int k m)))(hy:st.ev y= .iv (.im (.int k n))):Yields P c st o (aB (decide (m<n))):=
 .im U fun E a w hi=>by simp[execOp,ho,hi.im T,hi.im hy,eqGuard,binOp,Op.intCmp]
def Yields.leqI(ho:o.op= .binOp .leq t x y t')(T:st.ev x= .iv (.im (.int k m)))(hy:st.ev y= .iv (.im (.int k n))):Yields P c st o (aB (decide (m<=n))):=
 .im U fun E a w hi=>by simp[execOp,ho,hi.im T,hi.im hy,eqGuard,binOp,Op.intCmp]
def Yields.gtrI(ho:o.op= .binOp .gtr t x y t')(T:st.ev x= .iv (.im (.int k m)))(hy:st.ev y= .iv (.im (.int k n))):Yields P c st o (aB (decide (n<m))):=
 .im U fun E a w hi=>by simp[execOp,ho,hi.im T,hi.im hy,eqGuard,binOp,Op.intCmp]
def Yields.geqI(ho:o.op= .binOp .geq t x y t')(T:st.ev x= .iv (.im (.int k m)))(hy:st.ev y= .iv (.im (.int k n))):Yields P c st o (aB (decide (n<=m))):=
 .im U fun E a w hi=>by simp[execOp,ho,hi.im T,hi.im hy,eqGuard,binOp,Op.intCmp]
def Yields.arith{op:BinOp}{r:Int}(ho:o.op= .binOp op t x y t')(T:st.ev x= .iv (.im (.int k m)))(hy:st.ev y= .iv (.im (.int k n)))
 (hr: ∀w,(binOp op t (.int k m) (.int k n)).run P w= .ok (.int k r) w) (hq: ∀w,(eqGuard op t x y (.int k m) (.int k n)).run P w= .ok () w):Yields P c st o (.iv (.im (.int k r))):=
 .im U fun E a w hi=>by simp[execOp,ho,hi.im T,hi.im hy,hr,hq]
def Yields.conv{s:TypeId}{k':IntKind}(ho:o.op= .convert s t x)(T:st.ev x= .iv (.im (.int k m)))
 (ht:P.underlying t=some (.int k')) (hs:(P.underlying s).isSome=true):Yields P c st o (.iv (.im (.int k' (k'.wrap m)))):=
 .im U fun E a w hi=>by
   obtain⟨d,hd⟩:=Option.isSome_iff_exists.1 hs;simp[execOp,ho,hi.im T,convert,run_underlying hd,run_underlying ht,Conv.intToInt]
def Yields.not(ho:o.op= .unOp .not t x)(T:st.ev x=aB b):Yields P c st o (aB (!b)):=
 .im U fun E a w hi=>by simp[execOp,ho,hi.im T,Op.unary]
def Yields.negI(ho:o.op= .unOp .neg t x)(hx:st.ev x=aI m)(T: -9223372036854775808<=0 - m)(ad:0 - m<=9223372036854775807):Yields P c st o (aI (0 - m)):=
 .im U fun E a w hi=>by
   have:IntKind.i64.wrap (0 - m)=0 - m:=IntWalk.i64_in _ ⟨T,ad⟩;simp[execOp,ho,hi.im hx,Op.unary,Op.intArith] at this|-;exact this
abbrev MQ:AV:= .iv (.im (.pointer none))
def Yields.eqlPP{id off:Nat}(ho:o.op= .binOp .eql t x y t')(T:st.ev x= .ptr id off)(hy:st.ev y=MQ)(ht:P.underlying t=some (.pointer (P.pointee t))):Yields P c st o (aB false):=
 .im U fun E a w hi=>by
   have h:=hi.ev x;rw[T] at h;simp[execOp,ho,h.ptr_inv,hi.im hy,eqGuard,run_eql_pointer_nil w t _ ht]
def Yields.eqlS{m n:List UInt8}(ho:o.op= .binOp .eql t x y t')(T:st.ev x=aS m)(hy:st.ev y=aS n):Yields P c st o (aB (m==n)):=
 .im U fun E a w hi=>by simp[execOp,ho,hi.im T,hi.im hy,eqGuard,binOp,Op.stringOp]
def Yields.neqS{m n:List UInt8}(ho:o.op= .binOp .neq t x y t')(T:st.ev x=aS m)(hy:st.ev y=aS n):Yields P c st o (aB (!(m==n))):=
 .im U fun E a w hi=>by simp[execOp,ho,hi.im T,hi.im hy,eqGuard,binOp,Op.stringOp]
def Yields.lssS{m n:List UInt8}(ho:o.op= .binOp .lss t x y t')(T:st.ev x=aS m)(hy:st.ev y=aS n):Yields P c st o (aB (Op.bytesLess m n)):=
 .im U fun E a w hi=>by simp[execOp,ho,hi.im T,hi.im hy,eqGuard,binOp,Op.stringOp]
def Yields.leqS{m n:List UInt8}(ho:o.op= .binOp .leq t x y t')(T:st.ev x=aS m)(hy:st.ev y=aS n):Yields P c st o (aB (Op.bytesLess m n||m==n)):=
 .im U fun E a w hi=>by simp[execOp,ho,hi.im T,hi.im hy,eqGuard,binOp,Op.stringOp]
def Yields.gtrS{m n:List UInt8}(ho:o.op= .binOp .gtr t x y t')(T:st.ev x=aS m)(hy:st.ev y=aS n):Yields P c st o (aB (!(Op.bytesLess m n||m==n))):=
 .im U fun E a w hi=>by simp[execOp,ho,hi.im T,hi.im hy,eqGuard,binOp,Op.stringOp]
def Yields.geqS{m n:List UInt8}(ho:o.op= .binOp .geq t x y t')(T:st.ev x=aS m)(hy:st.ev y=aS n):Yields P c st o (aB (!(Op.bytesLess m n))):=
 .im U fun E a w hi=>by simp[execOp,ho,hi.im T,hi.im hy,eqGuard,binOp,Op.stringOp]
def Yields.addS{m n:List UInt8}(ho:o.op= .binOp .add t x y t')(T:st.ev x=aS m)(hy:st.ev y=aS n)(hl:m.length+n.length<=9223372036854775807):Yields P c st o (aS (m++n)):=
 .im U fun E a w hi=>by
   have h1: ¬(((m.length+n.length:Nat):Int)>IntKind.i64.max):=by simp[IntKind.max,IntKind.signed,IntKind.bits];omega
   have h2:((ByteArray.mk m.toArray)++(ByteArray.mk n.toArray))=ByteArray.mk (m++n).toArray:=by
    apply ByteArray.ext;simp
   simp only[execOp,ho,hi.im T,hi.im hy,eqGuard,binOp,Op.stringOp,ByteArray.size,List.size_toArray,h1,if_false,h2];simp
def Yields.lenS{m:List UInt8}(ho:o.op= .call {callee:= .builtin .len,args:= #[x],argTypes:= #[t]})(T:st.ev x=aS m)
 (ht:P.underlying t=some .string):Yields P c st o (aI m.length):=
 .im U fun E a w hi=>by simp[execOp,ho,resolve,invoke,builtin,hi.im T,run_len_string w t _ _ ht,goInt,ByteArray.size]
def Yields.indexS{i:Operand}{m:List UInt8}{b:UInt8}(ho:o.op= .index t x i)(hx:st.ev x=aS m)(ad:st.ev i= .iv (.im (.int k n)))
 (ht:P.underlying t=some .string) (h0:0<=n) (hb:m[n.toNat]?=some b):Yields P c st o (.iv (.im (.int .u8 b.toNat))):=
 .im U fun E a w hi=>by
   have:(ByteArray.mk m.toArray)[n.toNat]?=some b:=by
    have T:=(gS hb).1;rw[ByteArray.getElem?_lt' _ _ (by simpa[ByteArray.size] using T)];rw[<-hb];simp[T];rfl
   simp[execOp,ho,hi.im hx,hi.im ad,Instr.index,asIntOf,run_underlying ht,h0,this]
end
end
def RelL(E:B9)(w:World)(cs:List AV)(us:List Value):Prop:=
 us.length=cs.length/\ ∀(i:Nat) (c:AV) (u:Value),cs[i]?=some c->us[i]?=some u->A6 E w c u
def RelL.nil(E:B9)(w:World):RelL E w [] []:=⟨rfl,fun i c u h=>by simp at h⟩
section
variable {E:B9}{P:Program}{a cs:List AV}{k:Nat}{t:TypeId}{u:Value}{w:World}{x:List Value}
def RelL.append{b:List AV}{y:List Value}(h:RelL E w a x)(k:RelL E w b y):RelL E w (a++b) (x++y):=by
 refine⟨by simp[h.1,k.1],fun i c u hc hu=> ?_⟩;by_cases hi:i<a.length
 · rw[gL hi] at hc;rw[gL (by rw[h.1];exact hi)] at hu;exact h.2 i c u hc hu
 · rw[List.getElem?_append_right C] at hc;rw[List.getElem?_append_right (by rw[h.1];omega),h.1] at hu;exact k.2 _ c u hc hu
def RelL.take(h:RelL E w a x)(n:Nat):RelL E w (a.take n) (x.take n):=by
 refine⟨by simp[h.1],fun i c u hc hu=> ?_⟩;rw[List.getElem?_take] at hc hu;split at hc
 · rename_i hi;rw[if_pos hi] at hu;exact h.2 i c u hc hu
 · cases hc
def RelL.drop(h:RelL E w a x)(n:Nat):RelL E w (a.drop n) (x.drop n):=by
 refine⟨by simp[h.1],fun i c u hc hu=> ?_⟩;rw[List.getElem?_drop] at hc hu;exact h.2 _ c u hc hu
def RelL.keep{w':World}(hk:Keeps E.φ w w'){a:List AV}{x:List Value}(h:RelL E w a x):RelL E w' a x:=
 ⟨h.1,fun i c u hc hu=>(h.2 i c u hc hu).keep hk⟩
def tp(E:B9)(w:World): ∀(us:List Value),us.all (·.oneCell')=true->RelL E w (us.map cy) us
 |us,h=>⟨by simp,fun i c u hc hu=>by
    simp only[gP] at hc;rw[hu] at hc;simp at hc;subst hc;exact jp E w u (aT h u (gE hu))⟩
def RelL.agg{us:List Value}(h:RelL E w cs us)(h1: ∀u∈us,u.oneCell'=true):A6 E w (.agg cs) (.agg us.toArray):= .agg h.1 h1 h.2
def A6.agg_inv(h:A6 E w (.agg cs) u): ∃us:List Value,u= .agg us.toArray/\RelL E w cs us/\ ∀u∈us,u.oneCell'=true:=by
 cases h with
 |agg hl h1 h=>exact⟨_,rfl,⟨hl,h⟩,h1⟩
def A6.tup_inv(h:A6 E w (.tup cs) u): ∃us:List Value,u= .tuple us.toArray/\RelL E w cs us:=by
 cases h with
 |tup hl h=>exact⟨_,rfl,⟨hl,h⟩⟩
def AV.lays:AV->Bool
 | .agg _=>true
 |v=>v.one
def A6.lay{v:AV}(h:A6 E w v u)(h1:v.lays=true):RelL E w v.cells u.cells.toList/\ ∀x∈u.cells.toList,x.oneCell'=true:=by
 have:=h.cells (by cases v<;>first|exact .inl h1|exact .inr ⟨_,rfl⟩);exact⟨⟨this.1,this.2.2⟩,this.2.1⟩
def aK(b o n:Nat):(⟨b,o,none⟩:Addr).add n=⟨b,o+n,none⟩:=by unfold Addr.add;split<;>simp_all
def qY(P:Program)(s:TypeId)(f fo:Nat):Bool:=
 match P.underlying s with
 |some (.struct fs)=>match fs[f]? with
  |some T=>T.offset==fo && (match P.info? T.type with|some i=>i.size !=0|none=>false)
  |none=>false
 |_=>false
def nB(P:Program)(t:TypeId)(agg:Bool)(k:Nat):Bool:=
 match P.underlying t,P.info? t with
 |some d,some i=>(match d with| .struct _| .array _ _=>true|_=>false)==agg && i.size==k
 |_,_=>false
def bH(P:Program)(t e:TypeId)(k:Nat):Bool:=
 (match P.underlying t with|some (.slice T)=>T==e|_=>false) && (match P.info? e with|some i=>i.size==k|none=>false)
def sL{s:TypeId}{f fo:Nat}(h:qY P s f fo=true)(b o:Nat)(w:World):
 (Instr.fieldAt s (.pointer (some ⟨b,o,none⟩)) f).run P w= .ok (.pointer (some ⟨b,o+fo,none⟩)) w:=by
 unfold qY at h;split at h
 · rename_i fs hu;split at h
   · rename_i fd T;simp only[aE,beq_iff_eq] at h;obtain⟨h1,h2⟩:=h;split at h2
     · rename_i i hi;have h3:i.size≠0:=by simpa using h2
       simp[Instr.fieldAt,run_underlying hu,T,Instr.sureAddr,fieldPlace,sizeOf,typeInfo,hi,h3,h1,aK]
     · cases h2
   · cases h
 · cases h
def fF{agg:Bool}(h:nB P t agg k=true)(w:World):
 (isAgg t).run P w= .ok agg w/\(sizeOf t).run P w= .ok k w:=by
 unfold nB at h;split at h
 · rename_i d i hu hi;simp only[aE,beq_iff_eq] at h;refine⟨?_,by simp[sizeOf,typeInfo,hi,h.2]⟩;unfold isAgg;rw[Sem.run_bind,run_underlying hu w];cases d<;>simp_all
 · cases h
def aH{e:TypeId}(h:bH P t e k=true):P.underlying t=some (.slice e)/\ ∃i,P.info? e=some i/\i.size=k:=by
 unfold bH at h;simp only[aE] at h;obtain⟨h1,h2⟩:=h;split at h1
 · rename_i T hu;simp only[beq_iff_eq] at h1;subst h1;split at h2
   · rename_i i hi;exact⟨hu,i,hi,by simpa using h2⟩
   · cases h2
 · cases h1
end
section
variable {P:Program}{c:C7}{st:St}{ops:Array Oper}{Q:Exit->Act->World->Prop}{rest:List Oper}{o:Oper}
section
variable {E:B9}{a:Act}{b:A5}{cs:List IV}{e s t:TypeId}{es:List (List IV)}{f fo id k off:Nat}{u:Value}{v:AV}{w:World}{x:Operand}
def Inv.ptr(hi:Inv c E st a w){x:Operand}{id off:Nat}(T:st.ev x= .ptr id off):a.eval x= .pointer (some ⟨E.ρ id,off,none⟩):=by
 have h:=hi.ev x;rw[T] at h;exact h.ptr_inv
def Yields.fieldP(ho:o.op= .fieldAddr s x f)(T:st.ev x= .ptr id off)(hf:qY P s f fo=true):Yields P c st o (.ptr id (off+fo)):=
 fun E a w hi=>⟨_,by simp only[execOp,ho,hi.ptr T,sL hf,Sem.run_bind,Result.andThen_ok,Sem.run_pure],.ptr U⟩
def Yields.fieldE(ho:o.op= .fieldAddr s x f)(T:st.ev x= .el cs)(hf:qY P s f fo=true):Yields P c st o (.el (cs.drop fo)):=
 fun E a w hi=>by
  have h:=hi.ev x;rw[T] at h;generalize hq:a.eval x=u at h;cases h with
  | @el _ b o' g hc hr=>
    refine⟨.pointer (some ⟨b,o'+fo,none⟩),by simp only[execOp,ho,hq,sL hf,Sem.run_bind,Result.andThen_ok,Sem.run_pure],.el (fun j=>g (fo+j)) (fun j x T=> ?_) (fun j x T=> ?_)⟩
    · have:=hc (fo+j) x (by rw[List.getElem?_drop] at T;exact T);rw[Nat.add_assoc];exact this
    · exact hr (fo+j) x (by rw[List.getElem?_drop] at T;exact T)
def C8.sl_inv{φ:Nat->Nat}(h:C8 φ w (.sl es) u):
 (u= .slice none 0 0/\es= [])\/(∃(T:Addr) (cap:Nat),u= .slice (some T) 0 cap/\T.spot≠none/\cap<=maxLen/\es= [])\/ ∃(b o cap k:Nat) (f:Nat->Nat->Value),u= .slice (some ⟨b,o,none⟩) es.length cap/\es.length<=cap/\cap<=maxLen/\(∀(i:Nat) (e:List IV),es[i]?=some e->e.length=k)/\
   (∀(i:Nat) (e:List IV) (j:Nat) (x:IV),es[i]?=some e->e[j]?=some x->o+i*k+j<φ b/\w.cell? ⟨b,o+i*k+j,none⟩=some (f i j)/\C8 φ w x (f i j)):=by
 cases h with
 | @emp a cap hn hm=>cases a with
   |none=>obtain rfl:=hn U;exact .inl ⟨rfl,rfl⟩
   |some T=>
    by_cases hs:T.spot=none
    · obtain⟨b,o,ar⟩:=T;simp only at hs;subst hs;exact .inr (.inr ⟨b,o,cap,0,fun _ _=>undef,rfl,Nat.zero_le _,hm,fun i e h=>by simp at h,fun i e j x h=>by simp at h⟩)
    · exact .inr (.inl ⟨T,cap,rfl,hs,hm,rfl⟩)
 |sl f hc hm hk hφ hcell hrep=>exact .inr<| .inr ⟨_,_,_,_,f,rfl,hc,hm,hk,fun i e j x h1 h2=>⟨hφ i e j x h1 h2,hcell i e j x h1 h2,hrep i e j x h1 h2⟩⟩
def AV.sl?:AV->Option (List (List IV))
 | .iv (.sl es)=>some es
 | .row _ es=>some es
 | .nils=>some []
 | .emp=>some []
 |_=>none
def A6.sl(h:A6 E w v u)(T:v.sl?=some es):C8 E.φ w (.sl es) u:=by
 cases v<;>simp only[AV.sl?] at T<;>try (cases T;done)
 · rename_i x;cases x with
   |im _=>simp at T
   |sl _=>simp at T;subst T;exact h.iv_inv
 · simp at T;subst T;cases h;exact .nil
 · simp at T;subst T;cases h with|emp hu=>subst hu;exact .emp (fun _=>rfl) (Nat.zero_le _)
 · simp at T;subst T;cases h with|row hu h=>exact h
def Yields.indexAddr{i:Operand}{kd:IntKind}{n:Int}(ho:o.op= .indexAddr t x i)(hs:bH P t e k=true)(T:(st.ev x).sl?=some es)
 (hn:st.ev i= .iv (.im (.int kd n))) (h0:0<=n) (hc:es[n.toNat]?=some cs) (hl:cs.length=k):Yields P c st o (.el cs):=
 fun E a w hi=>by
  obtain⟨hu,a1,ad,aR⟩:=aH hs;have ar:=(gS hc).1;rcases((hi.ev x).sl T).sl_inv with⟨_,rfl⟩|⟨_,_,_,_,_,rfl⟩|⟨b,o',cap,k',f,hq,_,_,hk,hcell⟩
  · simp at ar
  · simp at ar
  · have a0:k'=k:=by rw[<-hk _ _ hc,hl]
    subst a0;have hb:n<(es.length:Int):=C;refine⟨.pointer (some ⟨b,o'+n.toNat*k',none⟩),?_,.el (fun j=>f n.toNat j) (fun j x T=>⟨(hcell _ _ _ _ hc T).1,(hcell _ _ _ _ hc T).2.1⟩) (fun j x T=>(hcell _ _ _ _ hc T).2.2)⟩;simp[execOp,ho,hq,hi.im hn,Instr.indexAt,asIntOf,run_underlying hu,h0,hb,sizeOf,typeInfo,ad,aR,aK]
def Yields.lenSl(ho:o.op= .call {callee:= .builtin .len,args:= #[x],argTypes:= #[t]})(hs:bH P t e k=true)(hx:(st.ev x).sl?=some es):
 Yields P c st o (aI es.length):=
 .im U fun E a w hi=>by
   obtain⟨hu,_⟩:=aH hs;rcases((hi.ev x).sl hx).sl_inv with⟨T,rfl⟩|⟨_,_,T,_,_,rfl⟩|⟨b,o',cap,k',f,T,_⟩
   · simp[execOp,ho,resolve,invoke,builtin,T,Builtin.len_,run_underlying hu,goInt]
   · simp[execOp,ho,resolve,invoke,builtin,T,Builtin.len_,run_underlying hu,goInt]
   · simp[execOp,ho,resolve,invoke,builtin,T,Builtin.len_,run_underlying hu,goInt]
def Inv.boxCell(hi:Inv c E st a w){id:Nat}{b:A5}(hb:st.bx.lookup id=some b):
 ∃arr rest:List Value,(b.cs≠ [] ->w.heap[E.ρ id]?=some (.cells (arr++rest).toArray b.ty (0,0)))/\RelL E w b.cs arr/\(∀u∈arr,u.oneCell'=true)/\(∀u∈rest,u.oneCell'=true)/\
  ∀j,j<arr.length->w.cell? ⟨E.ρ id,j,none⟩=arr[j]?:=by
 by_cases hn:b.cs= []
 · exact⟨[],[],fun h=>(h hn).elim,by rw[hn];exact RelL.nil E w,by simp,by simp,fun j T=>by simp at T⟩
 obtain⟨_,arr,ha,hl,h1,hr,_⟩:=hi.heap.box id b hb hn;refine⟨arr.take b.cs.length,arr.drop b.cs.length,fun _=>by rw[List.take_append_drop];exact ha,⟨by rw[lT];omega,fun i c u hc hu=>hr i c u hc ?_⟩,fun u hu=>h1 u (mT hu),fun u hu=>h1 u (mD hu),fun j T=> ?_⟩
 · rw[List.getElem?_take] at hu;split at hu
   · exact hu
   · cases hu
 · rw[cell_of_row w _ j _ _ _ ha,List.getElem?_take,if_pos (by rw[lT] at T;omega)];simp
def Yields.load1P(ho:o.op= .load t x)(ht:nB P t false 1=true)(hx:st.ev x= .ptr id off)(hb:st.bx.lookup id=some b)(hv:b.cs[off]?=some v):Yields P c st o v:=
 fun E a w hi=>by
  obtain⟨arr,_,_,hr,_,_,hc⟩:=hi.boxCell hb;have T:off<arr.length:=by rw[hr.1];exact(gS hv).1
  have hcell:w.cell? ⟨E.ρ id,off,none⟩=some arr[off]:=by rw[hc off T];exact gG T
  refine⟨arr[off],?_,hr.2 off v _ hv (gG T)⟩;simp[execOp,ho,hi.ptr hx,Instr.loadAt,Instr.sureAddr,loadVar,(fF ht w).1,hcell]
def Yields.loadAP(ho:o.op= .load t x)(ht:nB P t true k=true)(hx:st.ev x= .ptr id off)(hb:st.bx.lookup id=some b)(hk:((b.cs.drop off).take k).length=k):
 Yields P c st o (.agg ((b.cs.drop off).take k)):=
 fun E a w hi=>by
  obtain⟨arr,_,_,hr,h1,_,hc⟩:=hi.boxCell hb;have ad:=(hr.drop off).take k;have hl:((arr.drop off).take k).length=k:=by rw[ad.1,hk]
  have T:(loadCells ⟨E.ρ id,off,none⟩ ((arr.drop off).take k).length).run P w= .ok ((arr.drop off).take k).toArray w:=
   run_loadCells_list w _ _ (fun j v hv=>by
    rw[List.getElem?_take] at hv;split at hv
    · rw[List.getElem?_drop] at hv;rw[aK,hc _ (gS hv).1];exact hv
    · cases hv)
  rw[hl] at T;refine⟨.agg ((arr.drop off).take k).toArray,?_,ad.agg (fun u hu=>h1 u (mD (mT hu)))⟩;simp[execOp,ho,hi.ptr hx,Instr.loadAt,Instr.sureAddr,loadVar,(fF ht w).1,(fF ht w).2,T]
def Yields.load1E{y:IV}(ho:o.op= .load t x)(ht:nB P t false 1=true)(hx:st.ev x= .el cs)(T:cs[0]?=some y):Yields P c st o (.iv y):=
 fun E a w hi=>by
  have h:=hi.ev x;rw[hx] at h;generalize hq:a.eval x=u at h;cases h with
  | @el _ b o' g hc hr=>
    have h0:=(hc 0 y T).2;simp only[Nat.add_zero] at h0;refine⟨g 0,?_,.iv (hr 0 y T)⟩;simp[execOp,ho,hq,Instr.loadAt,Instr.sureAddr,loadVar,(fF ht w).1,h0]
def Yields.loadAE(ho:o.op= .load t x)(ht:nB P t true k=true)(hx:st.ev x= .el cs)(hk:(cs.take k).length=k):Yields P c st o (.agg ((cs.take k).map .iv)):=
 fun E a w hi=>by
  have h:=hi.ev x;rw[hx] at h;generalize hq:a.eval x=u at h;cases h with
  | @el _ b o' g hc hr=>
    have a0:k<=cs.length:=by rw[lT] at hk;omega
    have ar:(loadCells ⟨b,o',none⟩ k).run P w= .ok ((List.range k).map g).toArray w:=
     run_loadCells w _ k g (fun j hj=>by rw[aK];exact(hc j cs[j] (gG C)).2)
    refine⟨.agg ((List.range k).map g).toArray,?_,.agg (by simp;omega) (fun u hu=> ?_) (fun i c u T hu=> ?_)⟩
    · simp[execOp,ho,hq,Instr.loadAt,Instr.sureAddr,loadVar,(fF ht w).1,(fF ht w).2,ar]
    · simp only[List.mem_map,List.mem_range] at hu;obtain⟨j,hj,rfl⟩:=hu;exact(hr j cs[j] (gG C)).oneCell
    · simp only[gP,List.getElem?_take] at T;simp only[gP] at hu;split at T
      · rename_i aR;rw[List.getElem?_range aR] at hu;simp at hu;subst hu;cases ad:cs[i]? with
        |none=>rw[ad] at T;simp at T
        |some y=>rw[ad] at T;simp at T;subst T;exact .iv (hr i y ad)
      · simp at T
def Yields.extract{i:Nat}{vs:List AV}(ho:o.op= .extract x i)(hx:st.ev x= .tup vs)(hv:vs[i]?=some v):Yields P c st o v:=
 fun E a w hi=>by
  have h:=hi.ev x;rw[hx] at h;obtain⟨us,hq,hr⟩:=h.tup_inv;have T:i<us.length:=by rw[hr.1];exact(gS hv).1
  exact⟨us[i],by simp[execOp,ho,hq,Instr.extract,gG T],hr.2 i v _ hv (gG T)⟩
def Yields.nilCheckP(ho:o.op= .nilCheck x)(T:st.ev x= .ptr id off):Yields P c st o (.ptr id off):=
 fun E a w hi=>⟨_,by simp[execOp,ho,hi.ptr T],.ptr U⟩
end
end
def St.fresh(id:Nat)(st:St):Bool:=
 st.fr.all (fun p=> !AV.ment id p.2) && st.bx.all (fun p=>p.1 !=id && !p.2.ment id) && st.tk.all (fun p=>p.1 !=id)
section
variable {E:B9}{a:Act}{bx:List (Nat×A5)}{c:C7}{id s:Nat}{st:St}{tk:List (Nat×C9)}{w:World}{β:Type}
def dY: ∀{l:List (Nat×β)} {s:Nat} {v:β},l.lookup s=some v->(s,v)∈l
 | [],s,v,h=>by simp at h
 |(t,u)::l,s,v,h=>by
  by_cases e:s=t
  · subst e;simp[List.lookup] at h;subst h;exact List.mem_cons_self
  · have T:(s==t)=false:=by simpa using e
    exact List.mem_cons_of_mem _ (dY (by simpa[List.lookup,T] using h))
def St.fresh_fr(h:st.fresh id=true){s:Nat}{v:AV}(hl:st.fr.lookup s=some v):AV.ment id v=false:=by
 simp only[St.fresh,aE,List.all_eq_true] at h;simpa using h.1.1 _ (dY hl)
def St.fresh_bx(h:st.fresh id=true){s:Nat}{b:A5}(hl:st.bx.lookup s=some b):s≠id/\AV.ments id b.cs=false:=by
 simp only[St.fresh,aE,List.all_eq_true] at h;have:=h.1.2 _ (dY hl);rw[A5.ment_eq] at this;simpa using this
def St.fresh_tk(h:st.fresh id=true){s:Nat}{t:C9}(hl:st.tk.lookup s=some t):s≠id:=by
 simp only[St.fresh,aE,List.all_eq_true] at h;simpa using h.2 _ (dY hl)
def B9.upd(E:B9)(id g p:Nat)(v:Value):B9:=
 ⟨fun b=>if b=g then p else E.φ b,fun i=>if i=id then g else E.ρ i,fun i=>if i=id then v else E.η i⟩
def Keeps.alloc{φ:Nat->Nat}(hn: ∀b,w.heap.size<=b->φ b=0)(T:Obj):Keeps φ w (w.alloc T):=fun b o ho=>by
 have hb:b<w.heap.size:=by
  rcases Nat.lt_or_ge b w.heap.size with h|h
  · exact h
  · rw[hn b h] at ho;cases ho
 exact World.cell?_alloc_lt _ _ _ hb
def zf(w:World)(T:Obj)(i:Nat)(h:i<w.heap.size):(w.alloc T).heap[i]?=w.heap[i]?:=by
 show(w.heap.push T)[i]?=w.heap[i]?;rw[Array.getElem?_push,if_neg (Nat.ne_of_lt h)]
def zg(w:World)(T:Obj):(w.alloc T).heap[w.heap.size]?=some T:=by
 show(w.heap.push T)[w.heap.size]?=some T;simp
def C4.alloc(h:C4 c E st.bx st.tk w){id:Nat}(hf:st.fresh id=true)(ob:Obj)(p:Nat)(v:Value):
 C4 c (E.upd id w.heap.size p v) st.bx st.tk (w.alloc ob)/\(∀(x:AV) (u:Value),AV.ment id x=false->A6 E w x u->A6 (E.upd id w.heap.size p v) (w.alloc ob) x u):=by
 have hk:Keeps E.φ w (w.alloc ob):=Keeps.alloc h.new ob;have a0: ∀b,E.φ b<=(E.upd id w.heap.size p v).φ b:=fun b=>by
  simp only[B9.upd];split
  · rename_i e;rw[h.new b C];exact Nat.zero_le _
  · exact Nat.le_refl _
 have ar: ∀i,i≠id->(E.upd id w.heap.size p v).ρ i=E.ρ i:=fun i hi=>by simp[B9.upd,hi]
 have T: ∀i,i≠id->(E.upd id w.heap.size p v).η i=E.η i:=fun i hi=>by simp[B9.upd,hi]
 have mono: ∀(x:AV) (u:Value),AV.ment id x=false->A6 E w x u->A6 (E.upd id w.heap.size p v) (w.alloc ob) x u:=fun x u hm hr=>
  hr.mono hk a0 (fun i hi=>by
    have:i≠id:=fun e=>by subst e;rw[hm] at hi;cases hi
    exact⟨ar i this,T i this⟩)
 refine⟨⟨fun i b hb hn=> ?_,fun i t ht=> ?_,fun i j b b' hi hj hn a1 he=> ?_,fun i j t t' g hi hj h1 h2=> ?_,fun i j b t hi hn hj=> ?_,fun i b hi hn=> ?_,fun j t g hj hg=> ?_,fun b hb=> ?_,fun b hb=> ?_,fun i a2=> ?_,?_⟩,mono⟩
 · obtain⟨ad,hm⟩:=St.fresh_bx hf hb;obtain⟨h0,arr,ha,hl,h1,hr,hq⟩:=h.box i b hb hn;have aR:E.ρ i<w.heap.size:=(Array.getElem?_eq_some_iff.1 ha).1;rw[BoxOk,ar i ad,T i ad];refine⟨by simp only[B9.upd];rw[if_neg C];exact h0,arr,by rw[zf w ob _ aR];exact ha,hl,h1,fun k x u hx hu=>mono x u ?_ (hr k x u hx hu),hq⟩;exact bA hm k x hx
 · have ad:=St.fresh_tk hf ht;rcases h.tok i t ht with hn|⟨g,n,cap,cur,hv,hg,a3,a4,a5,hφ⟩
   · exact .inl (by rw[T i ad];exact hn)
   · have aR:g<w.heap.size:=(Array.getElem?_eq_some_iff.1 hg).1;exact .inr ⟨g,n,cap,cur,by rw[T i ad];exact hv,by rw[zf w ob _ aR];exact hg,a3,a4,a5,by simp only[B9.upd];rw[if_neg C];exact hφ⟩
 · rw[ar i (St.fresh_bx hf hi).1,ar j (St.fresh_bx hf hj).1] at he;exact h.bb i j b b' hi hj hn a1 he
 · rw[T i (St.fresh_tk hf hi)] at h1;rw[T j (St.fresh_tk hf hj)] at h2;exact h.tt i j t t' g hi hj h1 h2
 · rw[ar i (St.fresh_bx hf hi).1,T j (St.fresh_tk hf hj)];exact h.bt i j b t hi hn hj
 · rw[ar i (St.fresh_bx hf hi).1];exact h.own i b hi hn
 · rw[T j (St.fresh_tk hf hj)] at hg;exact h.ownt j t g hj hg
 · have a6:w.heap.size<b:=by simp at hb;omega
   simp only[B9.upd];rw[if_neg C];exact h.new b C
 · have:b<w.heap.size:=Nat.lt_of_lt_of_le hb h.kept.size;simp only[B9.upd];rw[if_neg C];exact h.old b hb
 · obtain⟨e1,e2,e3⟩:=h.ins i a2;obtain⟨b,hb⟩:=Option.isSome_iff_exists.1 e3;have ad:=(St.fresh_bx hf hb).1;exact⟨(ar i ad).trans e1,(T i ad).trans e2,e3⟩
 · refine h.kept.next U U U sP (fun k hk _=> ?_);exact zf w ob k (Nat.lt_of_lt_of_le hk h.kept.size)
def aa{t:Nat}{v:β}{l:List (Nat×β)}(h:s≠t):List.lookup s ((t,v)::l)=l.lookup s:=by
 have T:(s==t)=false:=by simpa using h
 simp[List.lookup,T]
def aj{v:β}{l:List (Nat×β)}:List.lookup s ((s,v)::l)=some v:=by simp[List.lookup]
def C4.addBox(h:C4 c E bx tk w){id:Nat}{b:A5}(hn:bx.lookup id=none)(hb:BoxOk E w id b)
 (h1: ∀(j:Nat) (b':A5),bx.lookup j=some b'->b'.cs≠ [] ->E.ρ j≠E.ρ id) (h2: ∀(j:Nat) (t:C9),tk.lookup j=some t->(E.η j).ownBlock≠some (E.ρ id)) (h3:c.w0.heap.size<=E.ρ id\/c.M (E.ρ id)):
 C4 c E ((id,b)::bx) tk w:=by
 refine⟨fun i b' hi hc=> ?_,h.tok,fun i j b1 b2 hi T hc ad he=> ?_,h.tt,fun i j b1 t hi hc T=> ?_,fun i b' hi hc=> ?_,h.ownt,h.new,h.old,fun i ar=> ?_,h.kept⟩
 · by_cases e:i=id
   · subst e;rw[aj] at hi;cases hi;exact hb
   · rw[aa e] at hi;exact h.box i b' hi hc
 · by_cases e:i=id
   · by_cases e':j=id
     · rw[e,e']
     · rw[aa e'] at T;subst e;exact(h1 j b2 T ad he.symm).elim
   · rw[aa e] at hi;by_cases e':j=id
     · subst e';exact(h1 i b1 hi hc he).elim
     · rw[aa e'] at T;exact h.bb i j b1 b2 hi T hc ad he
 · by_cases e:i=id
   · subst e;exact h2 j t T
   · rw[aa e] at hi;exact h.bt i j b1 t hi hc T
 · by_cases e:i=id
   · subst e;exact h3
   · rw[aa e] at hi;exact h.own i b' hi hc
 · obtain⟨e1,e2,e3⟩:=h.ins i ar;refine⟨e1,e2,?_⟩;by_cases e:i=id
   · subst e;rw[aj];rfl
   · rw[aa e];exact e3
def C4.addTok(h:C4 c E bx tk w){id:Nat}{t:C9}(ht:Go.Abs.TokOk E w id t)
 (h1: ∀(j:Nat) (t':C9) (g:Nat),j≠id->tk.lookup j=some t'->(E.η j).ownBlock=some g->(E.η id).ownBlock≠some g) (h2: ∀(i:Nat) (b:A5),bx.lookup i=some b->b.cs≠ [] ->(E.η id).ownBlock≠some (E.ρ i))
 (h3: ∀g,(E.η id).ownBlock=some g->c.w0.heap.size<=g):C4 c E bx ((id,t)::tk) w:=by
 refine⟨h.box,fun i t' hi=> ?_,h.bb,fun i j t1 t2 g hi T e1 e2=> ?_,fun i j b t' hi hn T=> ?_,h.own,fun j t' g T hg=> ?_,h.new,h.old,h.ins,h.kept⟩
 · by_cases e:i=id
   · subst e;rw[aj] at hi;cases hi;exact ht
   · rw[aa e] at hi;exact h.tok i t' hi
 · by_cases e:i=id
   · by_cases e':j=id
     · rw[e,e']
     · rw[aa e'] at T;subst e;exact(h1 j t2 g e' T e2 e1).elim
   · rw[aa e] at hi;by_cases e':j=id
     · subst e';exact(h1 i t1 g e hi e1 e2).elim
     · rw[aa e'] at T;exact h.tt i j t1 t2 g hi T e1 e2
 · by_cases e:j=id
   · subst e;exact h2 i b hi hn
   · rw[aa e] at T;exact h.bt i j b t' hi hn T
 · by_cases e:j=id
   · subst e;exact h3 g hg
   · rw[aa e] at T;exact h.ownt j t' g T hg
def jv{t:C9}(h:Go.Abs.TokOk E w id t){g:Nat}(T:(E.η id).ownBlock=some g):g<w.heap.size:=by
 rcases h with hn|⟨g',n,cap,cur,hv,hh,_⟩
 · rw[hn] at T;simp[Value.ownBlock] at T
 · rw[hv] at T;simp[Value.ownBlock] at T;subst T;exact(Array.getElem?_eq_some_iff.1 hh).1
def sA{b:A5}(h:BoxOk E w id b):E.ρ id<w.heap.size:=by
 obtain⟨_,arr,ha,_⟩:=h;exact(Array.getElem?_eq_some_iff.1 ha).1
def Inv.newBox(hi:Inv c E st a w){id:Nat}(hf:st.fresh id=true){ty:TypeId}{cs:List AV}{us:List Value}
 (hr:RelL E w cs us) (h1: ∀u∈us,u.oneCell'=true) (hm:AV.ments id cs=false):
 Inv c (E.upd id w.heap.size 0 undef) ⟨st.fr,(id,⟨ty,cs⟩)::st.bx,st.tk⟩ a (w.alloc (.cells us.toArray ty (0,0))):=by
 obtain⟨hh,mono⟩:=hi.heap.alloc hf (.cells us.toArray ty (0,0)) 0 undef;have T:(E.upd id w.heap.size 0 undef).ρ id=w.heap.size:=by simp[B9.upd]
 refine⟨hi.defers,hi.size,fun s v hv=>mono v _ (St.fresh_fr hf hv) (hi.slot s v hv),hh.addBox ?_ ?_ ?_ ?_ ?_⟩
 · cases hq:st.bx.lookup id with
   |none=>rfl
   |some b=>exact((St.fresh_bx hf hq).1 U).elim
 · refine⟨by rw[T];simp[B9.upd],us,by rw[T];exact zg w _,Nat.le_of_eq hr.1.symm,h1,fun i x u hx hu=>mono x u (bA hm i x hx) (hr.2 i x u hx hu),fun k cap he=>by simp[B9.upd,undef,ri] at he⟩
 · intro j b' hj hn;rw[T];have:(E.upd id w.heap.size 0 undef).ρ j=E.ρ j:=by simp[B9.upd,(St.fresh_bx hf hj).1]
   rw[this];have:=sA (hi.heap.box j b' hj hn);omega
 · intro j t hj;rw[T];have e:(E.upd id w.heap.size 0 undef).η j=E.η j:=by simp[B9.upd,St.fresh_tk hf hj]
   rw[e];intro hg;have:=jv (hi.heap.tok j t hj) hg;omega
 · rw[T];exact .inl hi.heap.kept.size
def Inv.newRow(hi:Inv c E st a w){id:Nat}(hf:st.fresh id=true){ty:TypeId}{k cap:Nat}{es:List (List IV)}{us:List Value}
 (hk: ∀(i:Nat) (e:List IV),es[i]?=some e->e.length=k) (hl:us.length=cap*k) (hc:es.length<=cap) (hm:cap<=maxLen)
 (hr: ∀(i:Nat) (e:List IV) (j:Nat) (x:IV) (u:Value),es[i]?=some e->e[j]?=some x->us[i*k+j]?=some u->C8 E.φ w x u):
 ∃E',Inv c E' ⟨st.fr,st.bx,(id,⟨ty,k⟩)::st.tk⟩ a (w.alloc (.cells us.toArray ty (0,0)))/\
  A6 E' (w.alloc (.cells us.toArray ty (0,0))) (.row id es) (.slice (some ⟨w.heap.size,0,none⟩) es.length cap):=by
 obtain⟨hh,mono⟩:=hi.heap.alloc hf (.cells us.toArray ty (0,0)) (es.length*k) (.slice (some ⟨w.heap.size,0,none⟩) es.length cap);have T:(E.upd id w.heap.size (es.length*k) (.slice (some ⟨w.heap.size,0,none⟩) es.length cap)).η id= .slice (some ⟨w.heap.size,0,none⟩) es.length cap:=by simp[B9.upd]
 have ad: ∀(i:Nat) (e:List IV) (j:Nat) (x:IV),es[i]?=some e->e[j]?=some x->i*k+j<es.length*k:=fun i e j x h1 h2=>by
  have aR:=(gS h1).1;have a0:=(gS h2).1;rw[hk i e h1] at a0;calc i*k+j<i*k+k:=C
   _=(i+1)*k:=by rw[Nat.add_mul,Nat.one_mul]
   _<=es.length*k:=mR k aR
 have a4:es.length*k<=cap*k:=mR k hc;have a1:Keeps E.φ w (w.alloc (.cells us.toArray ty (0,0))):=Keeps.alloc hi.heap.new _;have a2: ∀b,E.φ b<=(E.upd id w.heap.size (es.length*k) (.slice (some ⟨w.heap.size,0,none⟩) es.length cap)).φ b:=fun b=>by
  simp only[B9.upd];split
  · rename_i e;rw[hi.heap.new b C];exact Nat.zero_le _
  · exact Nat.le_refl _
 refine⟨_,⟨hi.defers,hi.size,fun s v hv=>mono v _ (St.fresh_fr hf hv) (hi.slot s v hv),hh.addTok ?_ ?_ ?_ ?_⟩,.row T.symm ?_⟩
 · refine .inr ⟨w.heap.size,es.length,cap,us.toArray,T,zg w _,hc,hm,Nat.le_of_eq (by simpa using hl.symm),by simp[B9.upd]⟩
 · intro j t' g a3 hj hg;rw[T];simp only[Value.ownBlock,ne_eq,Option.some.injEq];have e:(E.upd id w.heap.size (es.length*k) (.slice (some ⟨w.heap.size,0,none⟩) es.length cap)).η j=E.η j:=by simp[B9.upd,a3]
   rw[e] at hg;have:=jv (hi.heap.tok j t' hj) hg;omega
 · intro i b hb hn;rw[T];simp only[Value.ownBlock,ne_eq,Option.some.injEq];have e:(E.upd id w.heap.size (es.length*k) (.slice (some ⟨w.heap.size,0,none⟩) es.length cap)).ρ i=E.ρ i:=by simp[B9.upd,(St.fresh_bx hf hb).1]
   rw[e];have:=sA (hi.heap.box i b hb hn);omega
 · intro g hg;rw[T] at hg;simp[Value.ownBlock] at hg;subst hg;exact hi.heap.kept.size
 · refine .sl (k:=k) (fun i j=>us.getD (i*k+j) undef) hc hm hk (fun i e j x h1 h2=> ?_) (fun i e j x h1 h2=> ?_) (fun i e j x h1 h2=> ?_)
   · have:=ad i e j x h1 h2;simp only[B9.upd,if_true];omega
   · have:=ad i e j x h1 h2;rw[Nat.zero_add,World.cell?_alloc_new];have ar:i*k+j<us.length:=C;simp[ar]
   · have:=ad i e j x h1 h2;have ar:i*k+j<us.length:=C;have hu:us[i*k+j]?=some (us.getD (i*k+j) undef):=by simp[gG ar]
     exact(hr i e j x _ h1 h2 hu).mono a1 a2
def Inv.drew(hi:Inv c E st a w):Inv c E st a w.drew:=by
 have hk:Keeps E.φ w w.drew:=fun _ _ _=>rfl
 refine⟨hi.defers,hi.size,fun s v T=>(hi.slot s v T).keep hk,⟨fun i b hb hn=> ?_,fun i t ht=>hi.heap.tok i t ht,hi.heap.bb,hi.heap.tt,hi.heap.bt,hi.heap.own,hi.heap.ownt,hi.heap.new,hi.heap.old,hi.heap.ins,?_⟩⟩
 · obtain⟨h0,arr,ha,hl,h1,hr,hq⟩:=hi.heap.box i b hb hn;exact⟨h0,arr,ha,hl,h1,fun k x u hx hu=>(hr k x u hx hu).keep hk,hq⟩
 · exact hi.heap.kept.next U U U nR (fun _ _ _=>rfl)
end
section
variable {P:Program}{c:C7}{st:St}{ops:Array Oper}{Q:Exit->Act->World->Prop}{rest:List Oper}{o:Oper}
def Makes(P:Program)(c:C7)(st:St)(o:Oper)(v:AV)(bx:List (Nat×A5))(tk:List (Nat×C9)):Prop:=
 ∀(E:B9) (a:Act) (w:World),Inv c E st a w-> ∃(u:Value) (E':B9) (w':World),(execOp a.eval o).run P w= .ok (.value u) w'/\Inv c E' ⟨st.fr,bx,tk⟩ a w'/\A6 E' w' v u
def L.make{d:Nat}{v:AV}{bx:List (Nat×A5)}{tk:List (Nat×C9)}(hg:o.guard=none)(hd:o.dst=some d)(T:Nat.ble (d+1) c.nt=true)(hy:Makes P c st o v bx tk)
 (h:L c ⟨(d,v)::st.fr,bx,tk⟩ (wpList P ops Q rest)):L c st (wpList P ops Q (o::rest)):=by
 rintro a w ⟨E,hi⟩;obtain⟨u,E',w',hr,ad,hv⟩:=hy E a w hi;refine wpList_plain hg (fun K hK=>ek hr (hK _ _ ?_));rw[hd];exact h _ _ ⟨E',ad.put (bT T) hv⟩
def Makes.box{t:TypeId}{x:Operand}{id:Nat}{v:AV}(ho:o.op= .box t x)(T:st.ev x=v)(hv:v.lays=true)(hf:st.fresh id=true)(hm:AV.ments id v.cells=false):
 Makes P c st o (.ptr id 0) ((id,⟨t,v.cells⟩)::st.bx) st.tk:=fun E a w hi=>by
 have h:=hi.ev x;rw[T] at h;obtain⟨hr,h1⟩:=h.lay hv;refine⟨_,_,_,?_,hi.newBox hf (ty:=t) hr h1 hm,.ptr U⟩;simp[execOp,ho,Instr.box,newVar,newRow,B9.upd]
def Makes.alloc{t:TypeId}{id:Nat}{z:Value}{i:TypeInfo}(ho:o.op= .alloc t)(T:(P.info? t).bind (·.zero)=some z)(h1:z.cells.toList.all (·.oneCell')=true)(hf:st.fresh id=true)
 (hm:AV.ments id (z.cells.toList.map cy)=false):
 Makes P c st o (.ptr id 0) ((id,⟨t,z.cells.toList.map cy⟩)::st.bx) st.tk:=fun E a w hi=>by
 refine⟨_,_,_,?_,hi.newBox hf (ty:=t) (tp E w _ h1) (aT h1) hm,.ptr U⟩;cases hq:P.info? t with
 |none=>simp[hq] at T
 |some i=>
  simp only[hq,Option.bind_some] at T;simp[execOp,ho,Instr.alloc,zeroValue,typeInfo,hq,T,newVar,newRow,B9.upd]
end
def lX(cs:List AV)(off:Nat)(vs:List AV):List AV:=cs.take off++(vs++cs.drop (off+vs.length))
def lK(place:Nat->Option (Nat×Nat)):List AV->List (Nat×AV)->Option (List AV)
 |cs,[] =>some cs
 |cs,(i,v)::r=>
  match place i with
  |none=>none
  |some (off,size)=>if v.lays && v.cells.length==size && off+size<=cs.length then lK place (lX cs off v.cells) r else none
def xR(off:Nat): ∀(vs:List Value) (k:Nat) (arr:Array Value),off+k+vs.length<=arr.size->
 ((vs.zipIdx k).foldl (fun cs (p:Value×Nat)=>cs.setIfInBounds (off+p.2) p.1) arr).toList=arr.toList.take (off+k)++(vs++arr.toList.drop (off+k+vs.length))
 | [],k,arr,h=>by simp
 |v::vs,k,arr,h=>by
  simp only[lC] at h;simp only[List.zipIdx_cons,List.foldl_cons];rw[xR off vs (k+1) _ (by simp;omega)];apply List.ext_getElem?;intro i;simp only[Array.toList_setIfInBounds,lC,List.getElem?_append,lT,List.length_set,Array.length_toList,List.getElem?_take,List.getElem?_set,List.getElem?_drop];by_cases h1:i<off+k
  · have T:i<min (off+(k+1)) arr.size:=C;have e2:i<min (off+k) arr.size:=C;simp only[T,e2,if_true];rw[if_pos C,if_neg C,if_pos h1]
  · by_cases h2:i=off+k
    · subst h2;have T:off+k<min (off+(k+1)) arr.size:=C;have e2: ¬off+k<min (off+k) arr.size:=C;simp only[T,e2,if_true,if_false];rw[if_pos C];have e3:off+k - min (off+k) arr.size=0:=C;have e4:off+k<arr.size:=C;simp[e3,e4]
    · have T: ¬i<min (off+(k+1)) arr.size:=C;have e2: ¬i<min (off+k) arr.size:=C;simp only[T,e2,if_false];have e3:i - min (off+k) arr.size=(i - min (off+(k+1)) arr.size)+1:=C;rw[e3];simp only[List.getElem?_cons_succ,Nat.add_lt_add_iff_right];split
      · rfl
      · rw[if_neg C];congr 1
        omega
def qV{E:B9}{w:World}{place:Nat->Option (Nat×Nat)}: ∀(parts:List (Nat×AV)) (pv:List (Nat×Value)) (cs ad:List AV) (arr:Array Value),
 RelL E w cs arr.toList->(∀u∈arr.toList,u.oneCell'=true)->pv.length=parts.length->(∀(n:Nat) (p:Nat×AV) (q:Nat×Value),parts[n]?=some p->pv[n]?=some q->q.1=p.1/\A6 E w p.2 q.2)->
 lK place cs parts=some ad-> ∃T:Array Value,Instr.fill place arr pv=some T/\RelL E w ad T.toList/\ ∀u∈T.toList,u.oneCell'=true
 | [],pv,cs,ad,arr,hr,h1,hl,hp,hf=>by
   simp[lK] at hf;subst hf;have:pv= []:=nZ (by simpa using hl);subst this;exact⟨arr,rfl,hr,h1⟩
 |(i,v)::parts,pv,cs,ad,arr,hr,h1,hl,hp,hf=>by
  match pv,hl with
  |(i',u)::pv,hl=>
   obtain⟨he,hv⟩:=hp 0 (i,v) (i',u) U U;simp only at he hv;subst he;simp only[lK] at hf;cases aR:place i' with
   |none=>rw[aR] at hf;simp at hf
   |some q=>
    obtain⟨off,size⟩:=q;rw[aR] at hf;simp only at hf;split at hf
    · rename_i hc;simp only[aE,beq_iff_eq,decide_eq_true_eq] at hc;obtain⟨⟨a2,a3⟩,a8⟩:=hc;obtain⟨a4,a6⟩:=hv.lay a2;have a0:u.cells.toList.length=size:=by rw[a4.1,a3]
      have a9:arr.size=cs.length:=by rw[<-hr.1];simp
      have a7:u.cells.size=size:=by simpa using a0
      have ar:(u.cells.zipIdx.foldl (fun cs (x:Value×Nat)=>cs.setIfInBounds (off+x.2) x.1) arr).toList=arr.toList.take off++(u.cells.toList++arr.toList.drop (off+u.cells.toList.length)):=by
       rw[<-Array.foldl_toList];have:=xR off u.cells.toList 0 arr (by rw[a0];omega);simpa using this
      have a5:RelL E w (lX cs off v.cells) (u.cells.zipIdx.foldl (fun cs (x:Value×Nat)=>cs.setIfInBounds (off+x.2) x.1) arr).toList:=by
       rw[ar];unfold lX;have:=(hr.take off).append (a4.append (hr.drop (off+v.cells.length)));rw[a3] at this|-;rw[a0];exact this
      have a1: ∀x∈(u.cells.zipIdx.foldl (fun cs (x:Value×Nat)=>cs.setIfInBounds (off+x.2) x.1) arr).toList,x.oneCell'=true:=by
       rw[ar];intro x hx;rcases mA hx with hx|hx
       · exact h1 x (mT hx)
       · rcases mA hx with hx|hx
         · exact a6 x hx
         · exact h1 x (mD hx)
      obtain⟨T,ha,hb,hc⟩:=qV parts pv _ ad _ a5 a1 (by simpa using hl) (fun n p q h2 h3=>hp (n+1) p q (by simpa using h2) (by simpa using h3)) hf;refine⟨T,?_,hb,hc⟩;simp only[Instr.fill,aR];rw[if_neg (by simp[a7];omega)];exact ha
    · cases hf
def uN(P:Program)(t:TypeId):Option (List (Nat×Nat)):=
 match P.underlying t with
 |some (.struct fs)=>fs.toList.mapM (fun f=>(P.info? f.type).map fun i=>(f.offset,i.size))
 |_=>none
def dy(P:Program)(t:TypeId):Option (List Value):=((P.info? t).bind (·.zero)).map (·.cells.toList)
section
variable {P:Program}{c:C7}{st:St}{ops:Array Oper}{Q:Exit->Act->World->Prop}{rest:List Oper}{o:Oper}
def rJ{E:B9}{a:Act}{w:World}(hi:Inv c E st a w)(parts:Array (Nat×Operand))(n:Nat)(p:Nat×AV)(q:Nat×Value)
 (h1:(parts.toList.map fun x=>(x.1,st.ev x.2))[n]?=some p) (h2:(parts.map fun(i,x)=>(i,a.eval x)).toList[n]?=some q):q.1=p.1/\A6 E w p.2 q.2:=by
 simp only[gP,Array.toList_map] at h1 h2;cases T:parts.toList[n]? with
 |none=>rw[T] at h1;simp at h1
 |some x=>
  rw[T] at h1 h2;simp at h1 h2;subst h1;subst h2;exact⟨rfl,hi.ev x.2⟩
def Yields.build{t:TypeId}{parts:Array (Nat×Operand)}{zs:List Value}{pl:List (Nat×Nat)}{cs:List AV}(ho:o.op= .build t parts)(hz:dy P t=some zs)(h1:zs.all (·.oneCell')=true)
 (hp:uN P t=some pl) (hf:lK (pl[·]?) (zs.map cy) (parts.toList.map fun x=>(x.1,st.ev x.2))=some cs):Yields P c st o (.agg cs):=fun E a w hi=>by
 obtain⟨arr,ha,hr,ad⟩:=qV (E:=E) (w:=w) _ (parts.map fun(i,x)=>(i,a.eval x)).toList _ _ zs.toArray (by simpa using tp E w zs h1) (by simpa using aT h1)
  sP (fun n p q=>rJ hi parts n p q) hf
 have hb:P.built t (parts.map fun(i,x)=>(i,a.eval x)).toList=some arr:=by
  unfold uN at hp;unfold dy at hz;split at hp
  · rename_i fs hu;unfold Program.built;cases T:P.info? t with
    |none=>simp[T] at hz
    |some i=>
     simp only[T,Option.bind_some,Option.map_eq_some_iff] at hz;obtain⟨z,ar,aR⟩:=hz;simp only[hu,ar,hp];have e1:z.cells=zs.toArray:=by rw[<-aR]
     rw[e1,<-ha];congr 1
     funext i
     simp
  · cases hp
 refine⟨.agg arr,by simp only[execOp,ho,run_build w t _ _ hb,Sem.run_bind,Result.andThen_ok,Sem.run_pure],?_⟩;have:=hr.agg ad;simpa using this
def AV.toI:AV->Option IV
 | .iv x=>some x
 | .nils=>some (.sl [])
 | .emp=>some (.sl [])
 | .row _ es=>some (.sl es)
 |_=>none
def A6.toI{E:B9}{w:World}{v:AV}{x:IV}{u:Value}(h:A6 E w v u)(T:v.toI=some x):C8 E.φ w x u:=by
 cases v<;>simp only[AV.toI] at T<;>try (cases T;done)
 · cases T;exact h.iv_inv
 · cases T;cases h;exact .nil
 · cases T;cases h with|emp hu=>subst hu;exact .emp (fun _=>rfl) (Nat.zero_le _)
 · cases T;cases h with|row hu h=>exact h
def tu:List AV->Option (List IV)
 | [] =>some []
 |v::vs=>match v.toI,tu vs with
  |some x,some xs=>some (x::xs)
  |_,_=>none
def uh: ∀{vs:List AV} {xs:List IV},tu vs=some xs->xs.length=vs.length/\ ∀(i:Nat) (v:AV) (x:IV),vs[i]?=some v->xs[i]?=some x->v.toI=some x
 | [],xs,h=>by simp[tu] at h;subst h;exact⟨rfl,fun i v x h=>by simp at h⟩
 |v::vs,xs,h=>by
  simp only[tu] at h;split at h
  · rename_i x ar hx ad;cases h;obtain⟨hl,hg⟩:=uh ad;refine⟨by simp[hl],fun i v' x' hv T=> ?_⟩;cases i with
    |zero=>simp at hv T;subst hv;subst T;exact hx
    |succ i=>exact hg i v' x' (by simpa using hv) (by simpa using T)
  · cases h
def cY(k:Nat):Nat->List IV->List (List IV)
 |0,_=> []
 |n+1,xs=>xs.take k::cY k n (xs.drop k)
def lg(k:Nat): ∀(n:Nat) (xs:List IV) (i:Nat) (e:List IV),(cY k n xs)[i]?=some e->e=(xs.drop (i*k)).take k
 |0,xs,i,e,h=>by simp[cY] at h
 |n+1,xs,0,e,h=>by simp[cY] at h;simp[h]
 |n+1,xs,i+1,e,h=>by
  have:=lg k n (xs.drop k) i e (by simpa[cY] using h);rw[this,List.drop_drop,Nat.add_mul,Nat.one_mul,Nat.add_comm k]
def ah(k:Nat): ∀(n:Nat) (xs:List IV),(cY k n xs).length=n
 |0,_=>rfl
 |n+1,xs=>by simp[cY,ah]
def Makes.buildSlice{t e:TypeId}{n k id:Nat}{parts:Array (Nat×Operand)}{zs:List Value}{cs:List AV}{xs:List IV}(ho:o.op= .buildSlice t n parts)(hs:bH P t e k=true)
 (hz:dy P e=some zs) (h1:zs.all (·.oneCell')=true) (a1:zs.length=k) (hn:n*k<=16777216) (a2:0<k)
 (hf:lK (fun i=>some (i*k,k)) ((List.range (n*k)).map fun i=>cy (zs.getD (i % k) undef)) (parts.toList.map fun x=>(x.1,st.ev x.2))=some cs)
 (hx:tu cs=some xs) (a7:cs.length=n*k) (bm:st.fresh id=true):Makes P c st o (.row id (cY k n xs)) st.bx ((id,⟨e,k⟩)::st.tk):=fun E a w hi=>by
 obtain⟨hu,bp,ar,a8⟩:=aH hs;have bP: ∃z,bp.zero=some z/\z.cells=zs.toArray:=by
  unfold dy at hz;simp only[ar,Option.bind_some,Option.map_eq_some_iff] at hz;obtain⟨z,a3,a4⟩:=hz;exact⟨z,a3,by rw[<-a4]⟩
 obtain⟨z,a3,a4⟩:=bP;have a9: ∀i,i<n*k->zs.toArray[i % zs.toArray.size]! =zs.getD (i % k) undef:=fun i hi=>by
  have:i % k<zs.length:=by rw[a1];exact Nat.mod_lt _ a2
  simp[a1];rw[gG this];rfl
 have a5:((Array.range (n*k)).map (zs.toArray[· % zs.toArray.size]!))=((List.range (n*k)).map fun i=>zs.getD (i % k) undef).toArray:=by
  apply Array.ext';simp only[Array.toList_map,Array.toList_range];exact List.map_congr_left (fun i hi=>a9 i (List.mem_range.1 hi))
 have a0: ∀i,i<n*k->(zs.getD (i % k) undef).oneCell'=true:=fun i hi=>by
  have T:i % k<zs.length:=by rw[a1];exact Nat.mod_lt _ a2
  have:zs.getD (i % k) undef=zs[i % k]:=by simp[T]
  rw[this];exact aT h1 _ (List.getElem_mem T)
 have ba:RelL E w ((List.range (n*k)).map fun i=>cy (zs.getD (i % k) undef)) ((List.range (n*k)).map fun i=>zs.getD (i % k) undef):=by
  refine⟨by simp,fun i c u hc hu=> ?_⟩;simp only[gP] at hc hu;cases hr:(List.range (n*k))[i]? with
  |none=>rw[hr] at hc;simp at hc
  |some j=>
   rw[hr] at hc hu;simp only[Option.map_some,Option.some.injEq] at hc hu;subst hc;subst hu;exact jp E w _ (a0 j (List.mem_range.1 (gE hr)))
 obtain⟨arr,ha,hr,bW⟩:=qV (E:=E) (w:=w) _ (parts.map fun(i,x)=>(i,a.eval x)).toList _ _ ((List.range (n*k)).map fun i=>zs.getD (i % k) undef).toArray (by simpa using ba)
  (fun u hu=>by
    simp only[List.mem_map,List.mem_range] at hu;obtain⟨i,a6,rfl⟩:=hu;exact a0 i a6)
  sP (fun n p q=>rJ hi parts n p q) hf
 obtain⟨bh,bR⟩:=uh hx;have bi: ∀(i:Nat) (e':List IV),(cY k n xs)[i]?=some e'->e'.length=k:=fun i e' he=>by
  have T:=(gS he).1;rw[ah] at T;rw[lg k n xs i e' he];simp only[lT,lD,bh,a7];have:(i+1)*k<=n*k:=mR k T;rw[Nat.add_mul,Nat.one_mul] at this;omega
 obtain⟨E',a6,hv⟩:=hi.newRow bm (ty:=e) (k:=k) (cap:=n) (es:=cY k n xs) (us:=arr.toList) bi (by rw[hr.1,a7]) (by rw[ah];exact Nat.le_refl _) (by have:n<=n*k:=Nat.le_mul_of_pos_right n a2;simp only[maxLen];omega)
  (fun i e' j x u he hj hu=>by
    rw[lg k n xs i e' he] at hj;rw[List.getElem?_take] at hj;split at hj
    · rw[List.getElem?_drop] at hj;have T:i*k+j<cs.length:=by rw[<-bh];exact(gS hj).1
      exact(hr.2 _ _ u (gG T) hu).toI (bR _ _ x (gG T) hj)
    · cases hj)
 rw[ah] at hv;refine⟨_,E',_,?_,a6,hv⟩;have bl: ¬(n*k>2 ^ 24):=C;have aR:Instr.fill (fun i=>some (i*k,k)) ((Array.range (n*k)).map (zs.toArray[· % zs.toArray.size]!)) (parts.map fun(i,x)=>(i,a.eval x)).toList=some arr:=by rw[a5];exact ha
 have bS:arr.toList.toArray=arr:=by simp
 rw[bS];by_cases h0:n*k=0
 · have:n=0:=by
    rcases Nat.mul_eq_zero.1 h0 with h|h
    · exact h
    · omega
   subst this;have e0:Array.range 0= #[]:=rfl;have ad:Instr.fill (fun i=>some (i*k,k)) #[] (parts.map fun(i,x)=>(i,a.eval x)).toList=some arr:=by simpa[e0] using aR
   simp only[Array.toList_map] at ad;simp[execOp,ho,Instr.buildSlice,run_underlying hu,sizeOf,typeInfo,ar,a8,newRow,e0,ad]
 · simp only[execOp,ho,Instr.buildSlice,Sem.run_bind,run_underlying hu,sizeOf,typeInfo,zeroValue,run_program,ar,a8,a3,a4,Result.andThen_ok,Sem.run_pure,bl,h0,if_false,aR,newRow,run_newObj,Sem.run_ite];rfl
end
def je{β:Type}{p:Nat->Bool}: ∀{l:List (Nat×β)} {s:Nat} {v:β},(l.filter (fun q=>p q.1)).lookup s=some v->p s=true
 | [],s,v,h=>by simp at h
 |(t,u)::l,s,v,h=>by
  by_cases T:p t=true
  · by_cases e:s=t
    · rw[e];exact T
    · have e':(s==t)=false:=by simpa using e
      exact je (l:=l) (by simpa[List.filter_cons,T,List.lookup,e'] using h)
  · simp only[Bool.not_eq_true] at T;exact je (l:=l) (by simpa[List.filter_cons,T] using h)
def delTok(id:Nat)(tk:List (Nat×C9)):List (Nat×C9):=tk.filter (fun p=>(fun n=>n !=id) p.1)
def gF{id j:Nat}{tk:List (Nat×C9)}{t:C9}(h:(delTok id tk).lookup j=some t):j≠id/\tk.lookup j=some t:=
 ⟨by simpa using je (p:=fun n=>n !=id) h,ix (fun n=>n !=id) tk j t h⟩
def oN(w:World)(g:Nat)(cs:Array Value)(b o:Nat)(h:b≠g):(w.setRow g cs).cell? ⟨b,o,none⟩=w.cell? ⟨b,o,none⟩:=cell_setRow_other w g cs ⟨b,o,none⟩ h
section
variable {c:C7}{E:B9}{st:St}{a:Act}{w:World}
def C4.recell{bx:List (Nat×A5)}{tk:List (Nat×C9)}(h:C4 c E bx tk w){id:Nat}{b b':A5}(hb:bx.lookup id=some b)(ht:b.ty=b'.ty)(hc:Subs b.cs b'.cs):C4 c E ((id,b')::bx) tk w:=by
 refine C4.wk (st:=⟨[],bx,tk⟩) (st':=⟨[],(id,b')::bx,tk⟩) h ⟨fun i T=> ?_,fun s v hv=>by simp at hv,fun i b1 hi=> ?_,fun i t h=>h⟩
 · by_cases e:i=id
   · subst e;show(List.lookup i ((i,b')::bx)).isSome=true;rw[aj];rfl
   · show(List.lookup i ((id,b')::bx)).isSome=true;rw[aa e];exact(h.ins i T).2.2
 · have hi:List.lookup i ((id,b')::bx)=some b1:=hi;by_cases e:i=id
   · subst e;rw[aj] at hi;cases hi;exact⟨b,hb,ht,hc⟩
   · rw[aa e] at hi;exact⟨b1,hi,rfl,Subs.refl _⟩
def Inv.setBox(hi:Inv c E st a w){id:Nat}{b:A5}(hb:st.bx.lookup id=some b)(T:b.cs≠ []){arr rest:List Value}(ha:w.heap[E.ρ id]?=some (.cells (arr++rest).toArray b.ty (0,0)))
 (a6: ∀u∈rest,u.oneCell'=true) {cs:List AV} {us:List Value} (hl:us.length=arr.length) (hr:RelL E w cs us) (h1: ∀u∈us,u.oneCell'=true):
 Inv c E ⟨st.fr,(id,⟨b.ty,cs⟩)::st.bx,st.tk⟩ a (w.setRow (E.ρ id) (us++rest).toArray):=by
 obtain⟨h0,aR,a0,bl,bm,bp,hq⟩:=hi.heap.box id b hb T;have hk:Keeps E.φ w (w.setRow (E.ρ id) (us++rest).toArray):=fun b' o ho=>by
  have:b'≠E.ρ id:=fun e=>by rw[e,h0] at ho;cases ho
  exact oN w _ _ _ _ this
 have bP:E.ρ id<w.heap.size:=(Array.getElem?_eq_some_iff.1 ha).1;have a7:aR.length=(us++rest).length:=by
  rw[ha] at a0;simp only[Option.some.injEq,Obj.cells.injEq] at a0;have h9:arr++rest=aR:=congrArg Array.toList a0.1;rw[<-h9,gV,gV,hl]
 refine⟨hi.defers,hi.size,fun s v hv=>(hi.slot s v hv).keep hk,⟨fun i b' ad hn=> ?_,fun i t ht=> ?_,fun i j b1 b2 ar hj hn a8 he=> ?_,hi.heap.tt,fun i j b1 t ar hn hj=> ?_,fun i b1 ar hn=> ?_,hi.heap.ownt,fun b' ad=> ?_,hi.heap.old,fun i a9=> ?_,?_⟩⟩
 · by_cases e:i=id
   · subst e;rw[aj] at ad;cases ad;refine⟨h0,us++rest,?_,?_,?_,fun i x u hx hu=> ?_,fun k cap he=>by rw[<-a7];exact hq k cap he⟩
     · exact setRow_heap w _ _ _ _ _ ha
     · rw[gV,hr.1];exact Nat.le_add_right _ _
     · intro u hu;rcases mA hu with hu|hu
       · exact h1 u hu
       · exact a6 u hu
     · have a1:=(gS hx).1;rw[gL (by rw[hr.1];exact a1)] at hu;exact(hr.2 i x u hx hu).keep hk
   · rw[aa e] at ad;obtain⟨ba,a2,bh,a3,a4,a5,bi⟩:=hi.heap.box i b' ad hn;refine⟨ba,a2,?_,a3,a4,fun i x u hx hu=>(a5 i x u hx hu).keep hk,bi⟩;rw[setRow_other w _ _ _ (fun e'=>e (hi.heap.bb i id b' b ad hb hn T e'))];exact bh
 · rcases hi.heap.tok i t ht with hn|⟨g,n,cap,cur,hv,hg,rest⟩
   · exact .inl hn
   · refine .inr ⟨g,n,cap,cur,hv,?_,rest⟩;rw[setRow_other w _ _ _ (fun e'=>hi.heap.bt id i b t hb T ht (by rw[hv];simp[Value.ownBlock,e']))];exact hg
 · have f: ∀(i:Nat) (b1:A5),List.lookup i ((id,⟨b.ty,cs⟩)::st.bx)=some b1->b1.cs≠ [] -> ∃b2,st.bx.lookup i=some b2/\b2.cs≠ []:=fun i b1 h hn=>by
    by_cases e:i=id
    · subst e;exact⟨b,hb,T⟩
    · rw[aa e] at h;exact⟨b1,h,hn⟩
   obtain⟨b3,h3,n3⟩:=f i b1 ar hn;obtain⟨b4,h4,n4⟩:=f j b2 hj a8;exact hi.heap.bb i j b3 b4 h3 h4 n3 n4 he
 · by_cases e:i=id
   · subst e;exact hi.heap.bt i j b t hb T hj
   · rw[aa e] at ar;exact hi.heap.bt i j b1 t ar hn hj
 · by_cases e:i=id
   · subst e;exact hi.heap.own i b hb T
   · rw[aa e] at ar;exact hi.heap.own i b1 ar hn
 · exact hi.heap.new b' (by simpa using ad)
 · obtain⟨e1,e2,e3⟩:=hi.heap.ins i a9;refine⟨e1,e2,?_⟩;by_cases e:i=id
   · subst e;rw[aj];rfl
   · rw[aa e];exact e3
 · refine hi.heap.kept.next U U U sP (fun k bR hm=> ?_);have:k≠E.ρ id:=fun e=>by
    rcases hi.heap.own id b hb T with h|h
    · omega
    · rw[<-e] at h;exact hm h
   exact setRow_other w _ _ _ this
def Inv.growRow(hi:Inv c E st a w){id id':Nat}(hf:st.fresh id'=true){t:C9}(ht:st.tk.lookup id=some t){g n n' cap:Nat}{cur cur':Array Value}(hv:E.η id= .slice (some ⟨g,0,none⟩) n cap)
 (hg:w.heap[g]?=some (.cells cur t.ty (0,0))) (hφ:E.φ g<=n*t.k) (hs:cap*t.k<=cur'.size) (a3: ∀o,o<n*t.k->cur'[o]?=cur[o]?) (hn:n<=n') (hc:n'<=cap) (hm:cap<=maxLen):
 Inv c ⟨fun b=>if b=g then n'*t.k else E.φ b,E.ρ,fun i=>if i=id' then .slice (some ⟨g,0,none⟩) n' cap else E.η i⟩ ⟨st.fr,st.bx,(id',t)::delTok id st.tk⟩ a (w.setRow g cur')/\
  Keeps E.φ w (w.setRow g cur')/\ ∀b,E.φ b<=(if b=g then n'*t.k else E.φ b):=by
 have hk:Keeps E.φ w (w.setRow g cur'):=fun b o ho=>by
  by_cases e:b=g
  · subst e;rw[cell_of_row _ _ _ _ _ _ (setRow_heap w b cur cur' _ _ hg),cell_of_row w _ _ _ _ _ hg];exact a3 o C
  · exact oN w _ _ _ _ e
 have a5: ∀b,E.φ b<=(if b=g then n'*t.k else E.φ b):=fun b=>by
  split
  · rename_i e;subst e;exact Nat.le_trans hφ (mR _ hn)
  · exact Nat.le_refl _
 have bm:g<w.heap.size:=(Array.getElem?_eq_some_iff.1 hg).1;have T:(E.η id).ownBlock=some g:=by rw[hv];rfl
 have a9:id≠id':=St.fresh_tk hf ht;have mono: ∀(x:AV) (u:Value),AV.ment id' x=false->A6 E w x u->A6 ⟨fun b=>if b=g then n'*t.k else E.φ b,E.ρ,fun i=>if i=id' then .slice (some ⟨g,0,none⟩) n' cap else E.η i⟩ (w.setRow g cur') x u:=fun x u hm hr=>
  hr.mono hk a5 (fun i a0=>by
    have:i≠id':=fun e=>by subst e;rw[hm] at a0;cases a0
    exact⟨rfl,by simp[this]⟩)
 refine⟨⟨hi.defers,hi.size,fun s v hv=>mono v _ (St.fresh_fr hf hv) (hi.slot s v hv),?_⟩,hk,a5⟩;have base:C4 c ⟨fun b=>if b=g then n'*t.k else E.φ b,E.ρ,fun i=>if i=id' then .slice (some ⟨g,0,none⟩) n' cap else E.η i⟩ st.bx (delTok id st.tk) (w.setRow g cur'):=by
  have ar: ∀i,i≠id'->(if i=id' then Value.slice (some ⟨g,0,none⟩) n' cap else E.η i)=E.η i:=fun i h=>by simp[h]
  refine⟨fun i b hb hn=> ?_,fun i t' ba=> ?_,hi.heap.bb,fun i j t1 t2 g' a0 hj h1 h2=> ?_,fun i j b t1 hb hn hj=> ?_,hi.heap.own,fun j t1 g' hj ad=> ?_,fun b hb=> ?_,fun b hb=> ?_,fun i bh=> ?_,?_⟩
  · obtain⟨h0,arr,ha,hl,h1,hr,hq⟩:=hi.heap.box i b hb hn;have aR:E.ρ i≠g:=fun e=>hi.heap.bt i id b t hb hn ht (by rw[T,e])
    refine⟨by simp only;rw[if_neg aR];exact h0,arr,by rw[setRow_other w _ _ _ aR];exact ha,hl,h1,fun k x u hx hu=>mono x u (bA (St.fresh_bx hf hb).2 k x hx) (hr k x u hx hu),fun k cap he=>hq k cap (by simpa only[ar i (St.fresh_bx hf hb).1] using he)⟩
  · obtain⟨aR,hl⟩:=gF ba;have a2:=St.fresh_tk hf hl;rcases hi.heap.tok i t' hl with bi|⟨g',m,cap',a6,a7,ad,r1,r2,r3,r4⟩
    · exact .inl (by simp only;rw[ar i a2];exact bi)
    · have a8:g'≠g:=fun e=>aR (hi.heap.tt i id t' t g hl ht (by rw[a7,e];rfl) T)
      exact .inr ⟨g',m,cap',a6,by simp only;rw[ar i a2];exact a7,by rw[setRow_other w _ _ _ a8];exact ad,r1,r2,r3,by simp only;rw[if_neg a8];exact r4⟩
  · obtain⟨n1,l1⟩:=gF a0;obtain⟨n2,l2⟩:=gF hj;simp only at h1 h2;rw[ar i (St.fresh_tk hf l1)] at h1;rw[ar j (St.fresh_tk hf l2)] at h2;exact hi.heap.tt i j t1 t2 g' l1 l2 h1 h2
  · obtain⟨n2,l2⟩:=gF hj;simp only;rw[ar j (St.fresh_tk hf l2)];exact hi.heap.bt i j b t1 hb hn l2
  · obtain⟨n2,l2⟩:=gF hj;simp only at ad;rw[ar j (St.fresh_tk hf l2)] at ad;exact hi.heap.ownt j t1 g' l2 ad
  · simp only;have bl:w.heap.size<=b:=by simpa using hb
    rw[if_neg C];exact hi.heap.new b bl
  · simp only;have:c.w0.heap.size<=g:=hi.heap.ownt id t g ht T;rw[if_neg C];exact hi.heap.old b hb
  · obtain⟨e1,e2,e3⟩:=hi.heap.ins i bh;obtain⟨b,hb⟩:=Option.isSome_iff_exists.1 e3;exact⟨e1,(ar i (St.fresh_bx hf hb).1).trans e2,e3⟩
  · refine hi.heap.kept.next U U U sP (fun k bp hm=> ?_);have:c.w0.heap.size<=g:=hi.heap.ownt id t g ht T;exact setRow_other w _ _ _ C
 have a1:(if id'=id' then Value.slice (some ⟨g,0,none⟩) n' cap else E.η id')= .slice (some ⟨g,0,none⟩) n' cap:=by simp
 refine base.addTok ?_ ?_ ?_ ?_
 · exact .inr ⟨g,n',cap,cur',a1,setRow_heap w g cur cur' _ _ hg,hc,hm,hs,by simp⟩
 · intro j t' g' aR hj ad;show(if id'=id' then Value.slice (some ⟨g,0,none⟩) n' cap else E.η id').ownBlock≠some g';rw[a1];obtain⟨n2,l2⟩:=gF hj;simp only[aR,if_false] at ad;intro e;simp only[Value.ownBlock,Option.some.injEq] at e;subst e;exact n2 (hi.heap.tt j id t' t g l2 ht ad T)
 · intro i b hb hn;show(if id'=id' then Value.slice (some ⟨g,0,none⟩) n' cap else E.η id').ownBlock≠some (E.ρ i);rw[a1];intro e;simp only[Value.ownBlock,Option.some.injEq] at e;exact hi.heap.bt i id b t hb hn ht (by rw[T,e])
 · intro g' ad;have a4:(if id'=id' then Value.slice (some ⟨g,0,none⟩) n' cap else E.η id').ownBlock=some g':=ad;rw[a1] at a4;simp only[Value.ownBlock,Option.some.injEq] at a4;subst a4;exact hi.heap.ownt id t g ht T
end
section
variable {P:Program}{c:C7}{st:St}{ops:Array Oper}{Q:Exit->Act->World->Prop}{rest:List Oper}{o:Oper}
def Does(P:Program)(c:C7)(st:St)(o:Oper)(bx:List (Nat×A5))(tk:List (Nat×C9)):Prop:=
 ∀(E:B9) (a:Act) (w:World),Inv c E st a w-> ∃(E':B9) (w':World),(execOp a.eval o).run P w= .ok .skip w'/\Inv c E' ⟨st.fr,bx,tk⟩ a w'
def L.does{bx:List (Nat×A5)}{tk:List (Nat×C9)}(hg:o.guard=none)(hd:o.dst=none)(hy:Does P c st o bx tk)
 (h:L c ⟨st.fr,bx,tk⟩ (wpList P ops Q rest)):L c st (wpList P ops Q (o::rest)):=by
 rintro a w ⟨E,hi⟩;obtain⟨E',w',hr,T⟩:=hy E a w hi;refine wpList_plain hg (fun K hK=> ?_);unfold Oper.wp;rw[hr];simp only[Oper.upon_skip,hd,Act.put];exact hK _ _ (h _ _ ⟨E',T⟩)
def Does.store{t:TypeId}{x y:Operand}{id off k:Nat}{b:A5}{v:AV}{agg:Bool}(ho:o.op= .store t x y)(ht:nB P t agg k=true)(hx:st.ev x= .ptr id off)(hb:st.bx.lookup id=some b)
 (hy:st.ev y=v) (hv:v.lays=true) (hk:v.cells.length=k) (T:off+k<=b.cs.length):Does P c st o ((id,⟨b.ty,lX b.cs off v.cells⟩)::st.bx) st.tk:=fun E a w hi=>by
 obtain⟨arr,rest,ha,hr,h1,a6,hc⟩:=hi.boxCell hb;have a1:=hi.ev y;rw[hy] at a1;obtain⟨a2,a3⟩:=a1.lay hv;have ar:(a.eval y).cells.toList.length=k:=by rw[a2.1,hk]
 have a4:RelL E w (lX b.cs off v.cells) (arr.take off++((a.eval y).cells.toList++arr.drop (off+k))):=by
  unfold lX;rw[hk];exact(hr.take off).append (a2.append (hr.drop (off+k)))
 by_cases ad:b.cs= []
 ·
  have aR:k=0:=by rw[ad] at T;simp at T;omega
  have a7:off=0:=by rw[ad] at T;simp at T;omega
  have he:(a.eval y).cells= #[]:=by
   apply Array.ext';exact nZ (by rw[ar,aR])
  have a8:v.cells= []:=nZ (by rw[hk,aR]);refine⟨E,w,?_,?_⟩
  · simp[execOp,ho,hi.ptr hx,Instr.storeAt,Instr.sureAddr,storeVar,(fF ht w).2,he,aR,storeCells]
  · have a9:lX b.cs off v.cells=b.cs:=by rw[ad,a8,a7];rfl
    exact⟨hi.defers,hi.size,hi.slot,hi.heap.recell hb U (by rw[A5.cs_l,a9];exact Subs.refl _)⟩
 have a5:=run_storeCells_at P (E.ρ id) off b.ty (a.eval y).cells.toList 0 (arr++rest).toArray w (ha ad) (by rw[ar];simp[hr.1];omega) a3;refine⟨E,_,?_,hi.setBox hb ad (ha ad) a6 (us:=arr.take off++((a.eval y).cells.toList++arr.drop (off+k))) ?_ a4 ?_⟩
 · have ba:(a.eval y).cells.size=k:=by simpa using ar
   have a0:(storeCells ⟨E.ρ id,off,none⟩ (a.eval y).cells.toList).run P w= .ok () (w.setRow (E.ρ id) ((arr.take off++((a.eval y).cells.toList++arr.drop (off+k)))++rest).toArray):=by
    have h1:off+k<=arr.length:=by rw[hr.1];exact T
    rw[a5];simp only[Nat.add_zero,ar,List.append_assoc];rw[tA C,List.drop_append_of_le_length h1]
   simp[execOp,ho,hi.ptr hx,Instr.storeAt,Instr.sureAddr,storeVar,(fF ht w).2,ba,a0]
 · have h1:off+k<=arr.length:=by rw[hr.1];exact T
   simp only[gV,lT,lD,ar];omega
 · intro u hu;rcases mA hu with hu|hu
   · exact h1 u (mT hu)
   · rcases mA hu with hu|hu
     · exact a3 u hu
     · exact h1 u (mD hu)
end
def Src(P:Program)(w:World)(x:Value)(k m:Nat)(news:List Value):Prop:=
 (Builtin.lenOf x).run P w= .ok m w/\(Builtin.firstCells k m x).run P w= .ok news.toArray w/\(Builtin.firstCells k m x).run P w.drew= .ok news.toArray w.drew
def Src.nil(P:Program)(w:World)(k:Nat):Src P w (.slice none 0 0) k 0 []:=⟨rfl,by simp[Builtin.firstCells],by simp[Builtin.firstCells]⟩
def Src.some{P:Program}{w:World}{k m cap:Nat}{b:Addr}{news:List Value}(hl:news.length=m*k)(h: ∀j v,news[j]?=some v->w.cell? (b.add j)=some v):Src P w (.slice (some b) m cap) k m news:=
 ⟨rfl,run_firstCells_some w k m b m cap news hl h,run_firstCells_some w.drew k m b m cap news hl (by simpa using h)⟩
def gB(d:TypeDesc):Prop:=(∃e,d= .slice e)\/d= .string
section
variable {P:Program}{w:World}{t t' ty e:TypeId}{d:TypeDesc}{i:TypeInfo}{x:Value}{m:Nat}{news:List Value}
def IW(ht:P.underlying t=some (.slice e))(hd:P.underlying t'=some d)(hn:gB d)(hi:P.info? e=some i)(hs:Src P w x i.size m news)(hl:news.length=m*i.size)
 {g n cap:Nat} {cur:Array Value} (hg:w.heap[g]?=some (.cells cur e (0,0))) (h1: ∀u∈news,u.oneCell'=true) (T:n+m<=cap) (ad:n*i.size+news.length<=cur.size):
 (Builtin.append_ #[t,t'] ty #[.slice (some ⟨g,0,none⟩) n cap,x]).run P w=
   .ok (.slice (some ⟨g,0,none⟩) (n+m) cap) (w.setRow g (cur.toList.take (n*i.size)++news++cur.toList.drop (n*i.size+news.length)).toArray):=by
 have ar:=run_storeCells_at P g (n*i.size) e news 0 cur w hg (by simpa using ad) h1;simp only[Nat.add_zero] at ar;obtain⟨aR,a0,_⟩:=hs;rcases hn with⟨e',rfl⟩|rfl<;>simp[Builtin.append_,run_underlying ht,run_underlying hd,sizeOf,typeInfo,hi,aR,T,a0,aK,ar]
def BV(ht:P.underlying t=some (.slice e))(hd:P.underlying t'=some d)(hn:gB d)(hi:P.info? e=some i)(hs:Src P w x i.size 0 []):
 (Builtin.append_ #[t,t'] ty #[.slice none 0 0,x]).run P w= .ok (.slice none 0 0) w:=by
 obtain⟨T,ad,_⟩:=hs;rcases hn with⟨e',rfl⟩|rfl<;>simp[Builtin.append_,run_underlying ht,run_underlying hd,sizeOf,typeInfo,hi,T,ad]
def wd(ht:P.underlying t=some (.slice e))(hd:P.underlying t'=some d)(hn:gB d)(hi:P.info? e=some i){z:Value}(hz:i.zero=some z)(hs:Src P w x i.size m news)
 {base:Option Addr} {n cap:Nat} {olds:List Value} (ho:(Builtin.firstCells i.size n (.slice base n cap)).run P w.drew= .ok olds.toArray w.drew)
 (hg:cap<n+m) (a2:((n+m:Nat):Int)<=9223372036854775807) (a1:Builtin.nextslicecap (n+m) cap*i.bytes<=281474976710656):
 (Builtin.append_ #[t,t'] ty #[.slice base n cap,x]).run P w=
   .ok (.slice (some ⟨w.heap.size,0,none⟩) (n+m) (grownCap w (n+m) cap e))
     (w.drew.alloc (.cells (olds++(news++(Builtin.zeroCells z.cells (grownCap w (n+m) cap e - (n+m))).toList)).toArray e)):=by
 have ar: ¬(n+m<=cap):=C;have T: ¬(9223372036854775807<((n:Int)+(m:Int))):=C;have ad: ¬(281474976710656<Builtin.nextslicecap (n+m) cap*i.bytes):=C;obtain⟨aR,_,a0⟩:=hs;rcases hn with⟨e',rfl⟩|rfl
 all_goals
  simp[Builtin.append_,run_underlying ht,run_underlying hd,sizeOf,typeInfo,zeroValue,hi,hz,aR,ar,T,ad,Question.forced,ho,a0,newRow,grownCap];try (congr 2;apply Array.ext';simp)
end
def Ez{k i j:Nat}(T:j<k):(i*k+j) / k=i/\(i*k+j) % k=j:=by
 have hk:0<k:=Nat.lt_of_le_of_lt (Nat.zero_le _) T;constructor
 · rw[Nat.mul_comm,Nat.mul_add_div hk,Nat.div_eq_of_lt T];rfl
 · rw[Nat.mul_comm,Nat.mul_add_mod,Nat.mod_eq_of_lt T]
def C8.cellsOf{φ:Nat->Nat}{w:World}{es:List (List IV)}{u:Value}{k:Nat}(h:C8 φ w (.sl es) u)(hk: ∀e∈es,e.length=k)(a0:0<k):
 ∃us:List Value,us.length=es.length*k/\(∀x∈us,x.oneCell'=true)/\(∀(i:Nat) (e:List IV) (j:Nat) (x:IV) (v:Value),es[i]?=some e->e[j]?=some x->us[i*k+j]?=some v->C8 φ w x v)/\
  ((u= .slice none 0 0/\es= [])\/(∃(ad:Addr) (cap:Nat),u= .slice (some ad) 0 cap/\ad.spot≠none/\es= [])\/ ∃b o cap,u= .slice (some ⟨b,o,none⟩) es.length cap/\es.length<=cap/\cap<=maxLen/\ ∀j,j<es.length*k->w.cell? ⟨b,o+j,none⟩=us[j]?/\o+j<φ b):=by
 rcases h.sl_inv with⟨rfl,rfl⟩|⟨ad,cap,rfl,hs,hm,rfl⟩|⟨b,o,cap,k',f,rfl,hc,hm,a2,hcell⟩
 · exact⟨[],by simp,by simp,fun i e j x v h1=>by simp at h1,.inl ⟨rfl,rfl⟩⟩
 · exact⟨[],by simp,by simp,fun i e j x v h1=>by simp at h1,.inr (.inl ⟨ad,cap,rfl,hs,rfl⟩)⟩
 · have a3:es≠ [] ->k'=k:=fun aR=>by
    obtain⟨e0,r,rfl⟩:=List.exists_cons_of_ne_nil aR;rw[<-a2 0 e0 U,hk e0 List.mem_cons_self]
   have key: ∀j,j<es.length*k-> ∃(e:List IV) (x:IV),es[j / k]?=some e/\e[j % k]?=some x/\o+j<φ b/\w.cell? ⟨b,o+j,none⟩=some (f (j / k) (j % k))/\C8 φ w x (f (j / k) (j % k)):=fun j T=>by
    have hi:j / k<es.length:=(Nat.div_lt_iff_lt_mul a0).2 T;have he:es[j / k]?=some es[j / k]:=gG hi;have a1:j % k<es[j / k].length:=by rw[hk _ (List.getElem_mem hi)];exact Nat.mod_lt _ a0
    have aR:es≠ []:=fun e=>by subst e;simp at hi
    have:=hcell (j / k) _ (j % k) _ he (gG a1);rw[a3 aR,show o+j / k*k+j % k=o+j by rw[Nat.add_assoc,Nat.mul_comm,Nat.div_add_mod]] at this;exact⟨_,_,he,gG a1,this⟩
   have ar: ∀j,j<es.length*k->((List.range (es.length*k)).map fun j=>f (j / k) (j % k))[j]?=some (f (j / k) (j % k)):=fun j T=>by
    rw[gP,List.getElem?_range T];rfl
   refine⟨(List.range (es.length*k)).map fun j=>f (j / k) (j % k),by simp,fun x hx=> ?_,fun i e j x v h1 h2 h3=> ?_,.inr (.inr ⟨b,o,cap,rfl,hc,hm,fun j T=> ?_⟩)⟩
   · simp only[List.mem_map,List.mem_range] at hx;obtain⟨j,T,rfl⟩:=hx;obtain⟨_,_,_,_,_,_,hr⟩:=key j T;exact hr.oneCell
   · have T:j<k:=by rw[<-hk e (gE h1)];exact(gS h2).1
     have hi:=(gS h1).1;have a4:i*k+j<es.length*k:=by
      calc i*k+j<i*k+k:=C
       _=(i+1)*k:=by rw[Nat.add_mul,Nat.one_mul]
       _<=es.length*k:=mR k hi
     rw[ar _ a4,(Ez T).1,(Ez T).2] at h3;cases h3;exact(hcell i e j x h1 h2).2.2
   · obtain⟨_,_,_,_,h1,h2,_⟩:=key j T;rw[ar j T];exact⟨h2,h1⟩
def Inv.nilTok{c:C7}{E:B9}{st:St}{a:Act}{w:World}(hi:Inv c E st a w){id:Nat}(hf:st.fresh id=true)(t:C9):
 Inv c ⟨E.φ,E.ρ,fun i=>if i=id then .slice none 0 0 else E.η i⟩ ⟨st.fr,st.bx,(id,t)::st.tk⟩ a w/\
  (∀(x:AV) (u:Value),AV.ment id x=false->A6 E w x u->A6 ⟨E.φ,E.ρ,fun i=>if i=id then .slice none 0 0 else E.η i⟩ w x u):=by
 have mono: ∀(x:AV) (u:Value),AV.ment id x=false->A6 E w x u->A6 ⟨E.φ,E.ρ,fun i=>if i=id then .slice none 0 0 else E.η i⟩ w x u:=fun x u hm hr=>
  A6.mono (E:=E) (w:=w) (w':=w) (h:=hr) (E':=⟨E.φ,E.ρ,fun i=>if i=id then .slice none 0 0 else E.η i⟩) (fun _ _ _=>rfl) (fun _=>Nat.le_refl _) (fun i ar=>by
   have:i≠id:=fun e=>by subst e;rw[hm] at ar;cases ar
   exact⟨rfl,by simp[this]⟩)
 have T: ∀i,i≠id->(if i=id then Value.slice none 0 0 else E.η i)=E.η i:=fun i h=>by simp[h]
 refine⟨⟨hi.defers,hi.size,fun s v hv=>mono v _ (St.fresh_fr hf hv) (hi.slot s v hv),?_⟩,mono⟩;have base:C4 c ⟨E.φ,E.ρ,fun i=>if i=id then .slice none 0 0 else E.η i⟩ st.bx st.tk w:=by
  refine⟨fun i b hb hn=> ?_,fun i t' a0=> ?_,hi.heap.bb,fun i j t1 t2 g' ar hj h1 h2=> ?_,fun i j b t1 hb hn hj=> ?_,hi.heap.own,fun j t1 g' hj ad=> ?_,hi.heap.new,hi.heap.old,fun i a1=> ?_,hi.heap.kept⟩
  · obtain⟨h0,arr,ha,hl,h1,hr,hq⟩:=hi.heap.box i b hb hn;exact⟨h0,arr,ha,hl,h1,fun k x u hx hu=>mono x u (bA (St.fresh_bx hf hb).2 k x hx) (hr k x u hx hu),fun k cap he=>hq k cap (by simpa only[T i (St.fresh_bx hf hb).1] using he)⟩
  · rcases hi.heap.tok i t' a0 with hn|⟨g,n,cap,cur,hv,rest⟩
    · exact .inl (by simp only;rw[T i (St.fresh_tk hf a0)];exact hn)
    · exact .inr ⟨g,n,cap,cur,by simp only;rw[T i (St.fresh_tk hf a0)];exact hv,rest⟩
  · simp only at h1 h2;rw[T i (St.fresh_tk hf ar)] at h1;rw[T j (St.fresh_tk hf hj)] at h2;exact hi.heap.tt i j t1 t2 g' ar hj h1 h2
  · simp only;rw[T j (St.fresh_tk hf hj)];exact hi.heap.bt i j b t1 hb hn hj
  · simp only at ad;rw[T j (St.fresh_tk hf hj)] at ad;exact hi.heap.ownt j t1 g' hj ad
  · obtain⟨e1,e2,e3⟩:=hi.heap.ins i a1;obtain⟨b,hb⟩:=Option.isSome_iff_exists.1 e3;exact⟨e1,(T i (St.fresh_bx hf hb).1).trans e2,e3⟩
 have aR:(if id=id then Value.slice none 0 0 else E.η id)= .slice none 0 0:=by simp
 refine base.addTok (.inl aR) (fun j t' g _ _ _=> ?_) (fun i b _ _=> ?_) (fun g hg=> ?_)
 · show(if id=id then Value.slice none 0 0 else E.η id).ownBlock≠some g;rw[aR];simp[Value.ownBlock]
 · show(if id=id then Value.slice none 0 0 else E.η id).ownBlock≠some (E.ρ i);rw[aR];simp[Value.ownBlock]
 · have ad:(if id=id then Value.slice none 0 0 else E.η id).ownBlock=some g:=hg;rw[aR] at ad;simp[Value.ownBlock] at ad
def Inv.delTok{c:C7}{E:B9}{st:St}{a:Act}{w:World}(hi:Inv c E st a w)(id:Nat):Inv c E ⟨st.fr,st.bx,Abs.delTok id st.tk⟩ a w:=
 ⟨hi.defers,hi.size,hi.slot,hi.heap.wk (st:=st) (st':=⟨st.fr,st.bx,Abs.delTok id st.tk⟩)
   ⟨fun i T=>(hi.heap.ins i T).2.2,fun s v h=>⟨v,h,Sub.refl _⟩,fun i b h=>⟨b,h,rfl,Subs.refl _⟩,fun i t h=>(gF h).2⟩⟩
def nq{id id':Nat}{st:St}(T:st.fresh id'=true):St.fresh id' ⟨st.fr,st.bx,Abs.delTok id st.tk⟩=true:=by
 simp only[St.fresh,aE,List.all_eq_true] at T|-;exact⟨T.1,fun p hp=>T.2 p (List.mem_filter.1 hp).1⟩
section
variable {P:Program}{c:C7}{st:St}{ops:Array Oper}{Q:Exit->Act->World->Prop}{rest:List Oper}{o:Oper}
def Adds(P:Program)(c:C7)(st:St)(y:Operand)(k:Nat)(news:List (List IV)):Prop:=
 ∀(E:B9) (a:Act) (w:World),Inv c E st a w-> ∃us:List Value,Src P w (a.eval y) k news.length us/\us.length=news.length*k/\(∀x∈us,x.oneCell'=true)/\
  ∀(i:Nat) (e:List IV) (j:Nat) (x:IV) (v:Value),news[i]?=some e->e[j]?=some x->us[i*k+j]?=some v->C8 E.φ w x v
def Adds.slice{y:Operand}{k:Nat}{news:List (List IV)}(hy:(st.ev y).sl?=some news)(hk: ∀e∈news,e.length=k)(ar:0<k):Adds P c st y k news:=fun E a w hi=>by
 obtain⟨us,hl,h1,hr,hc⟩:=((hi.ev y).sl hy).cellsOf hk ar;refine⟨us,?_,hl,h1,hr⟩;rcases hc with⟨T,rfl⟩|⟨ad,cap,T,_,rfl⟩|⟨b,o,cap,T,_,_,hcell⟩
 · rw[T];have:us= []:=nZ (by simpa using hl);subst this;exact Src.nil P w k
 · rw[T];have:us= []:=nZ (by simpa using hl);subst this;exact Src.some sP (fun j v hv=>by simp at hv)
 · rw[T];exact Src.some hl (fun j v hv=>by
    have hj:j<news.length*k:=by rw[<-hl];exact(gS hv).1
    rw[aK,(hcell j hj).1];exact hv)
def Adds.string{y:Operand}{s:List UInt8}(hy:st.ev y=aS s):Adds P c st y 1 (s.map fun b=> [IV.im (.int .u8 b.toNat)]):=fun E a w hi=>by
 refine⟨s.map fun b=> .int .u8 b.toNat,?_,by simp,fun x T=> ?_,fun i e j x v h1 h2 h3=> ?_⟩
 · rw[hi.im hy];have he:((ByteArray.mk s.toArray).extract 0 s.length)=ByteArray.mk s.toArray:=by
    apply ByteArray.ext;simp[ByteArray.data_extract]
   refine⟨by simp[Builtin.lenOf,ByteArray.size],?_,?_⟩
   · simp only[lM,Builtin.firstCells,Sem.run_pure,he];simp
   · simp only[lM,Builtin.firstCells,Sem.run_pure,he];simp
 · simp only[List.mem_map] at T;obtain⟨b,_,rfl⟩:=T;rfl
 · simp only[gP,Option.map_eq_some_iff] at h1;obtain⟨b,hb,rfl⟩:=h1;cases j with
   |zero=>
    simp at h2;subst h2;simp only[Nat.mul_one,Nat.add_zero,gP,hb,Option.map_some,Option.some.injEq] at h3;subst h3;exact .im U
   |succ j=>simp at h2
def Makes.append{t t' e:TypeId}{d:TypeDesc}{x y:Operand}{id id' k bytes:Nat}{i:TypeInfo}{z:Value}{es news:List (List IV)}
 (ho:o.op= .call {callee:= .builtin .append,args:= #[x,y],argTypes:= #[t,t']}) (ht:P.underlying t=some (.slice e)) (bi:P.info? e=some i) (ch:i.size=k) (cR:i.bytes=bytes) (cS:i.zero=some z) (cX:z.cells.size=k)
 (hd:P.underlying t'=some d) (hn:gB d) (c3:0<k)
 (hx:(st.ev x= .row id es/\st.tk.lookup id=some ⟨e,k⟩)\/(st.ev x= .nils/\es= [])\/(st.ev x= .emp/\es= [] /\news≠ [])) (b4: ∀e∈es,e.length=k) (c4: ∀e∈news,e.length=k) (hy:Adds P c st y k news)
 (hm:es.length+news.length<=maxLen) (eb:(es.length+news.length)*bytes<=225000000000000) (ec:bytes<=100000) (hf:st.fresh id'=true):
 Makes P c st o (.row id' (es++news)) st.bx ((id',⟨e,k⟩)::delTok id st.tk):=fun E a w hi=>by
 subst ch;subst cR;obtain⟨us,a8,a4,c5,c6⟩:=hy E a w hi;have cb:es.length+news.length<=9223372036854775807:=by simp only[maxLen] at hm;omega
 have a0:(execOp a.eval o).run P w=((Builtin.append_ #[t,t'] o.type #[a.eval x,a.eval y]).run P w).andThen fun v w'=> .ok (.value v) w':=by
  simp[execOp,ho,resolve,invoke,builtin]
 have a9: ∀e∈es++news,e.length=i.size:=fun e he=>by
  rcases mA he with h|h
  · exact b4 e h
  · exact c4 e h
 have ba: ∀(E':B9) (w':World) (olds tail:List Value),olds.length=es.length*i.size->Keeps E.φ w w'->(∀b,E.φ b<=E'.φ b)->
  (∀(j:Nat) (e:List IV) (n:Nat) (x:IV) (v:Value),es[j]?=some e->e[n]?=some x->olds[j*i.size+n]?=some v->C8 E.φ w x v)->
  ∀(j:Nat) (e:List IV) (n:Nat) (x:IV) (v:Value),(es++news)[j]?=some e->e[n]?=some x->(olds++(us++tail))[j*i.size+n]?=some v->C8 E'.φ w' x v:=by
  intro E' w' olds tail T bl bm a5 j e n x v h1 h2 h3;have c7:n<i.size:=by rw[<-a9 e (gE h1)];exact(gS h2).1
  by_cases hj:j<es.length
  · have a2:j*i.size+n<olds.length:=by
     rw[T];calc j*i.size+n<j*i.size+i.size:=C
      _=(j+1)*i.size:=by rw[Nat.add_mul,Nat.one_mul]
      _<=es.length*i.size:=mR _ hj
    rw[gL hj] at h1;rw[gL a2] at h3;exact(a5 j e n x v h1 h2 h3).mono bl bm
  · have bS:olds.length<=j*i.size+n:=by
     rw[T];exact Nat.le_trans (mR _ (Nat.le_of_not_lt hj)) (Nat.le_add_right _ _)
    rw[List.getElem?_append_right (Nat.le_of_not_lt hj)] at h1;rw[List.getElem?_append_right bS] at h3;have he:j*i.size+n - olds.length=(j - es.length)*i.size+n:=by
     rw[T,Nat.sub_mul];have:es.length*i.size<=j*i.size:=mR _ (Nat.le_of_not_lt hj);omega
    rw[he] at h3;have a2:(j - es.length)*i.size+n<us.length:=by
     have c8:=(gS h1).1;rw[a4];calc(j - es.length)*i.size+n<(j - es.length)*i.size+i.size:=C
      _=(j - es.length+1)*i.size:=by rw[Nat.add_mul,Nat.one_mul]
      _<=news.length*i.size:=mR _ c8
    rw[gL a2] at h3;exact(c6 _ e n x v h1 h2 h3).mono bl bm
 have grown: ∀(base:Option Addr) (cap:Nat) (olds:List Value),a.eval x= .slice base es.length cap->olds.length=es.length*i.size->
  (∀(j:Nat) (e:List IV) (n:Nat) (x:IV) (v:Value),es[j]?=some e->e[n]?=some x->olds[j*i.size+n]?=some v->C8 E.φ w x v)->
  (Builtin.firstCells i.size es.length (.slice base es.length cap)).run P w.drew= .ok olds.toArray w.drew->cap<es.length+news.length->
  ∃(u:Value) (E':B9) (w':World),(execOp a.eval o).run P w= .ok (.value u) w'/\Inv c E' ⟨st.fr,st.bx,(id',⟨e,i.size⟩)::delTok id st.tk⟩ a w'/\A6 E' w' (.row id' (es++news)) u:=by
  intro base cap olds hq T a5 c9 a2;have ar:=wd (ty:=o.type) ht hd hn bi cS a8 (base:=base) (n:=es.length) (cap:=cap) (olds:=olds) c9 a2 C (growslice_fits_wide a2 (by
   have:(es.length+news.length) / 4*i.bytes<=(es.length+news.length)*i.bytes / 4:=by
    rw[Nat.le_div_iff_mul_le dD,Nat.mul_assoc,Nat.mul_comm i.bytes 4,<-Nat.mul_assoc];exact mR _ (Nat.div_mul_le_self _ 4)
   rw[Nat.add_mul,Nat.add_mul];omega))
  have bS:es.length+news.length<=grownCap w (es.length+news.length) cap e:=grownCap_ge _ _ _ _;have bh:=grownCap_le_maxLen w (es.length+news.length) cap e hm;have dd:Keeps E.φ w w.drew:=fun _ _ _=>rfl
  obtain⟨E',a6,hv⟩:=((hi.delTok id).drew).newRow (nq hf) (ty:=e) (k:=i.size) (cap:=grownCap w (es.length+news.length) cap e) (es:=es++news)
   (us:=olds++(us++(Builtin.zeroCells z.cells (grownCap w (es.length+news.length) cap e - (es.length+news.length))).toList))
   (fun j e' he=>a9 e' (gE he))
   (by
     simp only[gV,T,a4,Array.length_toList,size_zeroCells,cX];rw[<-Nat.add_assoc,<-Nat.add_mul,<-Nat.add_mul];congr 1;omega)
   (by rw[gV];exact bS) bh
   (ba E w.drew olds _ T dd (fun _=>Nat.le_refl _) a5)
  refine⟨_,E',_,?_,a6,hv⟩;rw[a0,hq,ar];simp
 rcases hx with⟨hx,b5⟩|⟨hx,rfl⟩|⟨hx,rfl,a7⟩
 · have aR:=hi.ev x;rw[hx] at aR;cases aR with
   |row hu hrep=>
    obtain⟨olds,T,ed,a5,dk⟩:=hrep.cellsOf b4 c3;have bp:=hi.heap.tok id _ b5;rcases dk with⟨hq,b6⟩|⟨ad,cap,hq,dr,_⟩|⟨b,off,cap,hq,ef,eg,hcell⟩
    ·
     subst b6;have b7:olds= []:=nZ (by simpa using T);subst b7;by_cases a7:news= []
     · subst a7;have bW:us= []:=nZ (by simpa using a4);subst bW;have ar:=BV (ty:=o.type) ht hd hn bi a8;obtain⟨a6,mono⟩:=(hi.delTok id).nilTok (nq hf) ⟨e,i.size⟩;refine⟨_,_,_,?_,a6,.row sP .nil⟩;rw[a0,hq,ar];rfl
     · have h1:0<news.length:=gU a7;exact grown none 0 [] (by rw[hq];rfl) sP a5 (by simp[Builtin.firstCells]) (by simpa using h1)
    · exfalso;rcases bp with a3|⟨g,n,cap',cur,hv,hg,ea,bh,b1,hφ⟩
      · rw[<-hu,hq] at a3;cases a3
      · rw[hu,hv] at hq;simp only[Value.slice.injEq,Option.some.injEq] at hq;obtain⟨rfl,_,_⟩:=hq;exact dr U
    · by_cases a1:es.length+news.length<=cap
      ·
       rcases bp with a3|⟨g,n,cap',cur,hv,hg,ea,bh,b1,hφ⟩
       · rw[<-hu,hq] at a3;cases a3
       · have b2:=hq;rw[hu,hv] at b2;simp only[Value.slice.injEq,Option.some.injEq,Addr.mk.injEq] at b2;obtain⟨⟨rfl,rfl,_⟩,rfl,rfl⟩:=b2;simp only at b1 hφ hg;have b8:es.length*i.size+us.length<=cur.size:=by rw[a4,<-Nat.add_mul];exact Nat.le_trans (mR _ a1) b1
         have ar:=IW (ty:=o.type) ht hd hn bi a8 a4 hg c5 a1 b8;have cc:es.length*i.size<=cur.size:=C;have holds:cur.toList.take (es.length*i.size)=olds:=by
          apply List.ext_getElem?;intro j;rw[List.getElem?_take];split
          · rename_i hj;have:=(hcell j hj).1;rw[Nat.zero_add,cell_of_row w g j cur _ _ hg] at this;simpa using this
          · rw[List.getElem?_eq_none (by rw[T];omega)]
         obtain⟨a6,bl,bm⟩:=hi.growRow hf b5 hv hg hφ (n':=es.length+news.length)
          (cur':=(cur.toList.take (es.length*i.size)++us++cur.toList.drop (es.length*i.size+us.length)).toArray)
          (by simp only[List.size_toArray,gV,lT,lD,Array.length_toList];omega)
          (fun o' b9=>by
            simp only at b9;rw[List.append_assoc,List.getElem?_toArray,gL (by simp;omega),List.getElem?_take,if_pos b9];simp)
          C a1 bh
         refine⟨.slice (some ⟨g,0,none⟩) (es.length+news.length) cap',_,_,?_,a6,?_⟩
         · rw[a0,hq,ar];rfl
         · refine .row sP ?_;have b3:(es++news).length=es.length+news.length:=gV;refine Eq.mp (congrArg (fun n=>C8 _ _ (IV.sl (es++news)) (Value.slice (some ⟨g,0,none⟩) n cap')) b3) ?_;refine .sl (k:=i.size) (fun j n=>(olds++(us++cur.toList.drop (es.length*i.size+us.length))).getD (j*i.size+n) undef) (by rw[b3];exact a1) bh (fun j e' he=>a9 e' (gE he)) (fun j e' n x' h1 h2=> ?_) (fun j e' n x' h1 h2=> ?_) (fun j e' n x' h1 h2=> ?_);all_goals
            have hj:=(gS h1).1;rw[b3] at hj;have c7:n<i.size:=by rw[<-a9 e' (gE h1)];exact(gS h2).1
            have a2:j*i.size+n<(es.length+news.length)*i.size:=by
             calc j*i.size+n<j*i.size+i.size:=C
              _=(j+1)*i.size:=by rw[Nat.add_mul,Nat.one_mul]
              _<=(es.length+news.length)*i.size:=mR _ hj
            have bP:j*i.size+n<(olds++(us++cur.toList.drop (es.length*i.size+us.length))).length:=by
             simp only[gV,T,a4];rw[Nat.add_mul] at a2;omega
            have bR:(olds++(us++cur.toList.drop (es.length*i.size+us.length)))[j*i.size+n]?=some ((olds++(us++cur.toList.drop (es.length*i.size+us.length))).getD (j*i.size+n) undef):=by
             rw[gG bP];simp[List.getD,gG bP]
           · simp only[if_true];omega
           · rw[Nat.zero_add,cell_of_row _ _ _ _ _ _ (setRow_heap w g cur _ _ _ hg),holds,List.append_assoc,List.getElem?_toArray];exact bR
           · exact ba _ _ olds _ T bl bm a5 j e' n x' _ h1 h2 bR
      · refine grown (some ⟨b,off,none⟩) cap olds hq T a5 (run_firstCells_some w.drew i.size es.length _ _ cap olds T (fun j v hv=> ?_)) C;have hj:j<es.length*i.size:=by rw[<-T];exact(gS hv).1
        rw[aK,World.cell?_drew,(hcell j hj).1];exact hv
 · have aR:=hi.ev x;rw[hx] at aR;generalize hq:a.eval x=q at aR;cases aR;by_cases a7:news= []
   · subst a7;have bW:us= []:=nZ (by simpa using a4);subst bW;have ar:=BV (ty:=o.type) ht hd hn bi a8;obtain⟨a6,mono⟩:=(hi.delTok id).nilTok (nq hf) ⟨e,i.size⟩;refine⟨_,_,_,?_,a6,.row sP .nil⟩;rw[a0,hq,ar];rfl
   · have h1:0<news.length:=gU a7;exact grown none 0 [] hq sP (fun j e n x v h1=>by simp at h1) (by simp[Builtin.firstCells]) (by simpa using h1)
 · have aR:=hi.ev x;rw[hx] at aR;generalize hq:a.eval x=q at aR;cases aR with
   | @emp base _ hu=>
     subst hu;have h1:0<news.length:=gU a7;exact grown base 0 [] hq sP (fun j e n x v h1=>by simp at h1) (by cases base with
      |none=>simp[Builtin.firstCells]
      |some ad=>exact run_firstCells_some w.drew i.size 0 _ _ 0 [] sP (fun j v hv=>by simp at hv)) (by simpa using h1)
end
mutual
def AV.mentIn(l:List Nat):AV->Bool
 | .any| .iv _| .nils| .emp| .el _=>true
 | .row i _=>l.contains i
 | .ptr i _=>l.contains i
 | .bsl i _ _ _=>l.contains i
 | .bsh i _ _ _=>l.contains i
 | .agg cs=>AV.mentsIn l cs
 | .tup cs=>AV.mentsIn l cs
 | .fn _ cs=>AV.mentsIn l cs
 | .opt _ v=>AV.mentIn l v
def AV.mentsIn(l:List Nat):List AV->Bool
 | [] =>true
 |c::cs=>AV.mentIn l c && AV.mentsIn l cs
end
mutual
def AV.mentIn_mem{l:List Nat}{id:Nat}: ∀(v:AV),AV.mentIn l v=true->AV.ment id v=true->id∈l
 | .any,_,h=>by simp[AV.ment] at h
 | .iv _,_,h=>by simp[AV.ment] at h
 | .nils,_,h=>by simp[AV.ment] at h
 | .emp,_,h=>by simp[AV.ment] at h
 | .el _,_,h=>by simp[AV.ment] at h
 | .row i _,h1,h=>by simp[AV.ment] at h;subst h;simpa[AV.mentIn] using h1
 | .ptr i _,h1,h=>by simp[AV.ment] at h;subst h;simpa[AV.mentIn] using h1
 | .bsl i _ _ _,h1,h=>by simp[AV.ment] at h;subst h;simpa[AV.mentIn] using h1
 | .bsh i _ _ _,h1,h=>by simp[AV.ment] at h;subst h;simpa[AV.mentIn] using h1
 | .agg cs,h1,h=>AV.mentsIn_mem cs (by simpa[AV.mentIn] using h1) (by simpa[AV.ment] using h)
 | .tup cs,h1,h=>AV.mentsIn_mem cs (by simpa[AV.mentIn] using h1) (by simpa[AV.ment] using h)
 | .fn _ cs,h1,h=>AV.mentsIn_mem cs (by simpa[AV.mentIn] using h1) (by simpa[AV.ment] using h)
 | .opt _ v,h1,h=>AV.mentIn_mem v (by simpa[AV.mentIn] using h1) (by simpa[AV.ment] using h)
def AV.mentsIn_mem{l:List Nat}{id:Nat}: ∀(cs:List AV),AV.mentsIn l cs=true->AV.ments id cs=true->id∈l
 | [],_,h=>by simp[AV.ments] at h
 |c::cs,h1,h=>by
  simp only[AV.mentsIn,aE] at h1;simp only[AV.ments,Bool.or_eq_true] at h;rcases h with h|h
  · exact AV.mentIn_mem c h1.1 h
  · exact AV.mentsIn_mem cs h1.2 h
end
def keys{β:Type}(l:List (Nat×β)):List Nat:=l.map (·.1)
def it{β:Type}: ∀{l:List (Nat×β)} {id:Nat},id∈keys l-> ∃b,l.lookup id=some b
 | [],id,h=>by simp[keys] at h
 |(t,u)::l,id,h=>by
  by_cases e:id=t
  · exact⟨u,by rw[e];exact aj⟩
  · rw[aa e];exact it (by simp only[keys,List.map_cons,List.mem_cons] at h|-;exact h.resolve_left e)
def mL{β:Type}{l:List (Nat×β)}{id:Nat}{b:β}(h:l.lookup id=some b):id∈keys l:=List.mem_map.2 ⟨_,dY h,rfl⟩
def CallA(P:Program)(f:FuncId)(args:List AV)(bx bx':List (Nat×A5))(tk':List (Nat×C9))(res:AV):Prop:=
 ∀(E:B9) (w:World) (us:List Value),RelL E w args us->C4 ⟨0,w,E,keys bx⟩ E bx [] w->
  Calls P f us.toArray w fun e w'=> ∃(u:Value) (E':B9),e= .returned u/\A6 E' w' res u/\C4 ⟨0,w,E,keys bx⟩ E' bx' tk' w'
def lj(c:C7)(bx':List (Nat×A5))(tk':List (Nat×C9))(res:AV)(e:Ending)(w':World):Prop:=
 ∃(u:Value) (E':B9),e= .returned u/\A6 E' w' res u/\C4 c E' bx' tk' w'
def C4.join{c:C7}{E E':B9}{st:St}{w w':World}{bxi a0:List (Nat×A5)}{ba:List (Nat×C9)}(h:C4 c E st.bx st.tk w)(h':C4 ⟨0,w,E,keys bxi⟩ E' a0 ba w')
 {N:List Nat} (hN: ∀id∈N,st.fresh id=true) (b7: ∀id∈keys bxi,∃b,st.bx.lookup id=some b/\b.cs≠ []) (b3: ∀id∈keys a0,id∈N\/id∈keys bxi) (b8: ∀id∈keys ba,id∈N)
 (hm: ∀(id:Nat) (b:A5),a0.lookup id=some b->AV.mentsIn (N++keys bxi) b.cs=true):
 C4 c ⟨E'.φ,fun i=>if i∈N then E'.ρ i else E.ρ i,fun i=>if i∈N then E'.η i else E.η i⟩ (a0++st.bx) (ba++st.tk) w'/\
  (∀(x:AV) (u:Value),AV.mentIn (N++keys bxi) x=true->A6 E' w' x u->A6 ⟨E'.φ,fun i=>if i∈N then E'.ρ i else E.ρ i,fun i=>if i∈N then E'.η i else E.η i⟩ w' x u)/\
  (∀(x:AV) (u:Value),(∀id∈N,AV.ment id x=false)->A6 E w x u->A6 ⟨E'.φ,fun i=>if i∈N then E'.ρ i else E.ρ i,fun i=>if i∈N then E'.η i else E.η i⟩ w' x u):=by
 have b1: ∀(i:Nat) (b:A5),st.bx.lookup i=some b->i∉N:=fun i b T hi=>(St.fresh_bx (hN i hi) T).1 U
 have b9: ∀(i:Nat) (t:C9),st.tk.lookup i=some t->i∉N:=fun i t ht hi=>St.fresh_tk (hN i hi) ht U
 have bR: ∀g,C7.M ⟨0,w,E,keys bxi⟩ g-> ∃(id:Nat) (b:A5),id∈keys bxi/\st.bx.lookup id=some b/\b.cs≠ [] /\E.ρ id=g:=fun g ⟨id,a1,e,_⟩=>by
  obtain⟨b,T,hn⟩:=b7 id a1;exact⟨id,b,a1,T,hn,e⟩
 have b4: ∀g,C7.M ⟨0,w,E,keys bxi⟩ g->E.φ g=0:=fun g hg=>by
  obtain⟨id,b,_,T,hn,rfl⟩:=bR g hg;exact(h.box id b T hn).1
 have cb:Keeps E.φ w w':=fun b o ho=>by
  have a8:b<w.heap.size:=by
   rcases Nat.lt_or_ge b w.heap.size with h1|h1
   · exact h1
   · rw[h.new b h1] at ho;cases ho
  have a5: ¬C7.M ⟨0,w,E,keys bxi⟩ b:=fun hM=>by rw[b4 b hM] at ho;cases ho
  exact World.cell?_of_block (h'.kept.block b a8 a5)
 have cc: ∀b,E.φ b<=E'.φ b:=fun b=>by
  rcases Nat.lt_or_ge b w.heap.size with h1|h1
  · rw[h'.old b h1];exact Nat.le_refl _
  · rw[h.new b h1];exact Nat.zero_le _
 have bS: ∀(x:AV) (u:Value),(∀id∈N,AV.ment id x=false)->A6 E w x u->A6 ⟨E'.φ,fun i=>if i∈N then E'.ρ i else E.ρ i,fun i=>if i∈N then E'.η i else E.η i⟩ w' x u:=fun x u hx hr=>
  A6.mono (h:=hr) (E':=⟨E'.φ,fun i=>if i∈N then E'.ρ i else E.ρ i,fun i=>if i∈N then E'.η i else E.η i⟩) cb cc (fun id a1=>by
   have:id∉N:=fun aR=>by rw[hx id aR] at a1;cases a1
   simp[this])
 have bW: ∀(x:AV) (u:Value),AV.mentIn (N++keys bxi) x=true->A6 E' w' x u->A6 ⟨E'.φ,fun i=>if i∈N then E'.ρ i else E.ρ i,fun i=>if i∈N then E'.η i else E.η i⟩ w' x u:=fun x u hx hr=>
  A6.mono (E:=E') (w:=w') (h:=hr) (E':=⟨E'.φ,fun i=>if i∈N then E'.ρ i else E.ρ i,fun i=>if i∈N then E'.η i else E.η i⟩) (fun _ _ _=>rfl) (fun _=>Nat.le_refl _) (fun id a1=>by
   by_cases aR:id∈N
   · simp[aR]
   · have b5:=AV.mentIn_mem x hx a1;have hk:id∈keys bxi:=(mA b5).resolve_left aR;obtain⟨e1,e2,_⟩:=h'.ins id hk;simp[aR,e1,e2])
 have a6: ∀(i:Nat) (b:A5),a0.lookup i=some b->(if i∈N then E'.ρ i else E.ρ i)=E'.ρ i:=fun i b T=>by
  by_cases aR:i∈N
  · simp[aR]
  · have hk:=(b3 i (mL T)).resolve_left aR;simp[aR,(h'.ins i hk).1]
 have b2: ∀(i:Nat) (b:A5),a0.lookup i=some b->(if i∈N then E'.η i else E.η i)=E'.η i:=fun i b T=>by
  by_cases aR:i∈N
  · simp[aR]
  · have hk:=(b3 i (mL T)).resolve_left aR;simp[aR,(h'.ins i hk).2.1]
 have a2: ∀(i:Nat) (t:C9),ba.lookup i=some t->(if i∈N then E'.η i else E.η i)=E'.η i:=fun i t ht=>by simp[b8 i (mL ht)]
 have a7: ∀(i:Nat) (b:A5),st.bx.lookup i=some b->(if i∈N then E'.ρ i else E.ρ i)=E.ρ i:=fun i b T=>by simp[b1 i b T]
 have a3: ∀(i:Nat) (t:C9),st.tk.lookup i=some t->(if i∈N then E'.η i else E.η i)=E.η i:=fun i t ht=>by simp[b9 i t ht]
 have ar: ∀(i:Nat) (b:A5),(a0++st.bx).lookup i=some b->a0.lookup i=some b\/(a0.lookup i=none/\st.bx.lookup i=some b):=fun i b T=>by
  rw[List.lookup_append] at T;cases hq:a0.lookup i with
  |none=>rw[hq] at T;exact .inr ⟨rfl,by simpa using T⟩
  |some b'=>rw[hq] at T;exact .inl (by simpa using T)
 have ad: ∀(i:Nat) (t:C9),(ba++st.tk).lookup i=some t->ba.lookup i=some t\/st.tk.lookup i=some t:=fun i t ht=>by
  rw[List.lookup_append] at ht;cases hq:ba.lookup i with
  |none=>rw[hq] at ht;exact .inr (by simpa using ht)
  |some b'=>rw[hq] at ht;exact .inl (by simpa using ht)
 have bi: ∀(i:Nat),a0.lookup i=none->i∉keys bxi:=fun i hn hk=>by
  have:=(h'.ins i hk).2.2;rw[hn] at this;cases this
 have bm: ∀(i:Nat) (b:A5),a0.lookup i=none->st.bx.lookup i=some b->b.cs≠ [] ->E.ρ i<w.heap.size/\ ¬C7.M ⟨0,w,E,keys bxi⟩ (E.ρ i):=fun i b hn T hc=>
  ⟨sA (h.box i b T hc),fun hM=>by
    obtain⟨id,b',a1,bl,a4,e⟩:=bR _ hM;exact bi i hn (h.bb id i b' b bl T a4 hc e▸a1)⟩
 have bp: ∀(i:Nat) (t:C9) (g:Nat),st.tk.lookup i=some t->(E.η i).ownBlock=some g->g<w.heap.size/\ ¬C7.M ⟨0,w,E,keys bxi⟩ g:=fun i t g ht hg=>
  ⟨jv (h.tok i t ht) hg,fun hM=>by
    obtain⟨id,b',a1,bl,a4,e⟩:=bR _ hM;exact h.bt id i b' t bl a4 ht (by rw[hg,e])⟩
 have bP: ∀(i:Nat) (b:A5),a0.lookup i=some b->b.cs≠ [] ->w.heap.size<=E'.ρ i\/C7.M ⟨0,w,E,keys bxi⟩ (E'.ρ i):=fun i b T hc=>h'.own i b T hc
 have a9: ∀(i:Nat) (t:C9) (g:Nat),ba.lookup i=some t->(E'.η i).ownBlock=some g->w.heap.size<=g:=fun i t g ht hg=>h'.ownt i t g ht hg
 refine⟨⟨fun i b T hc=> ?_,fun i t ht=> ?_,fun i j b b' hi hj hc a4 he=> ?_,fun i j t t' g hi hj h1 h2=> ?_,fun i j b t T hc ht hg=> ?_,fun i b T hc=> ?_,fun j t g ht hg=> ?_,h'.new,fun b T=> ?_,fun i aR=> ?_,?_⟩,bW,bS⟩
 · rcases ar i b T with T|⟨hn,T⟩
   · obtain⟨h0,arr,ha,hl,h1,hr,hq⟩:=h'.box i b T hc;refine⟨by simp only;rw[a6 i b T];exact h0,arr,by simp only;rw[a6 i b T];exact ha,hl,h1,fun k x u hx hu=>bW x u ?_ (hr k x u hx hu),fun k cap he=>hq k cap (by simpa only[b2 i b T] using he)⟩;have bh:=hm i b T;clear ha hl h1 hr h0 hq;have: ∀(cs:List AV) (k:Nat),AV.mentsIn (N++keys bxi) cs=true->cs[k]?=some x->AV.mentIn (N++keys bxi) x=true:=by
      intro cs;induction cs with
      |nil=>intro k _ h;simp at h
      |cons y ys ih=>
       intro k bh hk;simp only[AV.mentsIn,aE] at bh;cases k with
       |zero=>simp at hk;subst hk;exact bh.1
       |succ k=>exact ih k bh.2 (by simpa using hk)
     exact this b.cs k bh hx
   · obtain⟨a8,a5⟩:=bm i b hn T hc;obtain⟨h0,arr,ha,hl,h1,hr,hq⟩:=h.box i b T hc;refine⟨by simp only;rw[a7 i b T,h'.old _ a8];exact h0,arr,by simp only;rw[a7 i b T,h'.kept.block _ a8 a5];exact ha,hl,h1,fun k x u hx hu=>bS x u (fun id a1=>bA (St.fresh_bx (hN id a1) T).2 k x hx) (hr k x u hx hu),fun k cap he=>hq k cap (by simpa only[if_neg (b1 i b T)] using he)⟩
 · rcases ad i t ht with ht|ht
   · rcases h'.tok i t ht with hn|⟨g,n,cap,cur,hv,rest⟩
     · exact .inl (by simp only;rw[a2 i t ht];exact hn)
     · exact .inr ⟨g,n,cap,cur,by simp only;rw[a2 i t ht];exact hv,rest⟩
   · rcases h.tok i t ht with hn|⟨g,n,cap,cur,hv,hg,r1,r2,r3,r4⟩
     · exact .inl (by simp only;rw[a3 i t ht];exact hn)
     · obtain⟨a8,a5⟩:=bp i t g ht (by rw[hv];rfl);exact .inr ⟨g,n,cap,cur,by simp only;rw[a3 i t ht];exact hv,by rw[h'.kept.block _ a8 a5];exact hg,r1,r2,r3,by rw[h'.old _ a8];exact r4⟩
 · simp only at he;rcases ar i b hi with hi|⟨hn,hi⟩
   · rw[a6 i b hi] at he;rcases ar j b' hj with hj|⟨b6,hj⟩
     · rw[a6 j b' hj] at he;exact h'.bb i j b b' hi hj hc a4 he
     · rw[a7 j b' hj] at he;obtain⟨a8,a5⟩:=bm j b' b6 hj a4;rcases bP i b hi hc with h1|h1
       · omega
       · rw[he] at h1;exact(a5 h1).elim
   · rw[a7 i b hi] at he;obtain⟨a8,a5⟩:=bm i b hn hi hc;rcases ar j b' hj with hj|⟨b6,hj⟩
     · rw[a6 j b' hj] at he;rcases bP j b' hj a4 with h1|h1
       · omega
       · rw[<-he] at h1;exact(a5 h1).elim
     · rw[a7 j b' hj] at he;exact h.bb i j b b' hi hj hc a4 he
 · simp only at h1 h2;rcases ad i t hi with hi|hi
   · rw[a2 i t hi] at h1;rcases ad j t' hj with hj|hj
     · rw[a2 j t' hj] at h2;exact h'.tt i j t t' g hi hj h1 h2
     · rw[a3 j t' hj] at h2;have:=a9 i t g hi h1;have:=(bp j t' g hj h2).1;omega
   · rw[a3 i t hi] at h1;rcases ad j t' hj with hj|hj
     · rw[a2 j t' hj] at h2;have:=a9 j t' g hj h2;have:=(bp i t g hi h1).1;omega
     · rw[a3 j t' hj] at h2;exact h.tt i j t t' g hi hj h1 h2
 · simp only at hg;rcases ar i b T with T|⟨hn,T⟩
   · rw[a6 i b T] at hg;rcases ad j t ht with ht|ht
     · rw[a2 j t ht] at hg;exact h'.bt i j b t T hc ht hg
     · rw[a3 j t ht] at hg;obtain⟨a8,a5⟩:=bp j t _ ht hg;rcases bP i b T hc with h1|h1
       · omega
       · exact a5 h1
   · rw[a7 i b T] at hg;rcases ad j t ht with ht|ht
     · rw[a2 j t ht] at hg;have:=a9 j t _ ht hg;have:=(bm i b hn T hc).1;omega
     · rw[a3 j t ht] at hg;exact h.bt i j b t T hc ht hg
 · simp only;rcases ar i b T with T|⟨hn,T⟩
   · rw[a6 i b T];rcases bP i b T hc with h1|h1
     · exact .inl (Nat.le_trans h.kept.size h1)
     · obtain⟨id,b',a1,bl,a4,e⟩:=bR _ h1;rw[<-e];exact h.own id b' bl a4
   · rw[a7 i b T];exact h.own i b T hc
 · simp only at hg;rcases ad j t ht with ht|ht
   · rw[a2 j t ht] at hg;exact Nat.le_trans h.kept.size (a9 j t g ht hg)
   · rw[a3 j t ht] at hg;exact h.ownt j t g ht hg
 · simp only;rw[h'.old b (Nat.lt_of_lt_of_le T h.kept.size)];exact h.old b T
 · obtain⟨e1,e2,e3⟩:=h.ins i aR;obtain⟨b,T⟩:=Option.isSome_iff_exists.1 e3;have:=b1 i b T;refine⟨by simp[this,e1],by simp[this,e2],?_⟩;rw[List.lookup_append];cases a0.lookup i with
   |none=>simpa using e3
   |some _=>rfl
 · refine h.kept.next h'.kept.os h'.kept.tape h'.kept.output h'.kept.size (fun k hk ch=>h'.kept.block k (Nat.lt_of_lt_of_le hk h.kept.size) (fun hM=> ?_)) h'.kept.drawn;obtain⟨id,b',a1,bl,a4,e⟩:=bR _ hM;rcases h.own id b' bl a4 with h1|h1
   · omega
   · rw[e] at h1;exact ch h1
def dP(P:Program)(f:FuncId):Bool:=
 match P.funcs[f]? with
 |some fn=>fn.body.isSome && !(fn.name== "runtime.NumGoroutine")
 |none=>false
def eJ{P:Program}{f:FuncId}(h:dP P f=true)(args:Array Value)(w:World):(callFunc f args).run P w= .ok (.enter f args) w:=by
 unfold dP at h;split at h
 · rename_i fn T;simp only[aE,Bool.not_eq_true',beq_eq_false_iff_ne] at h;obtain⟨h1,h2⟩:=h;have h3: ¬fn.body=none:=fun e=>by rw[e] at h1;cases h1
   simp[callFunc,T,h2,h3]
 · cases h
def Subs.of_pub{l l':List AV}(h:AV.pub.pubs l=l'):Subs l l':=h▸Subs.pubs l
def RelL.sub{E:B9}{w:World}{l l':List AV}{us:List Value}(h:RelL E w l us)(hs:Subs l l'):RelL E w l' us:=
 ⟨by rw[h.1,hs.1],fun i c u hc hu=>by
   have hi:i<l.length:=by
    have:=(gS hc).1;rw[hs.1] at this;exact this
   exact hs.2 i _ _ (gG hi) hc E w u (h.2 i _ u (gG hi) hu)⟩
def dV(N:List Nat)(bxi T:List (Nat×A5)):Bool:=bxi.all (fun p=> !p.2.cs.isEmpty) && (keys T).all (fun id=>N.contains id||(keys bxi).contains id)
def yi{N:List Nat}{bxi T:List (Nat×A5)}(h:dV N bxi T=true){id:Nat}(ad:id∈keys T):id∈N\/id∈keys bxi:=by
 simp only[dV,aE] at h;have:=aT h.2 id ad;simpa using this
def yh{N:List Nat}{bxi T:List (Nat×A5)}(h:dV N bxi T=true){id:Nat}{b:A5}(hb:bxi.lookup id=some b):b.cs≠ []:=by
 simp only[dV,aE] at h;have:=aT h.1 _ (dY hb);intro e;simp[e] at this
section
variable {P:Program}{c:C7}{st:St}{ops:Array Oper}{Q:Exit->Act->World->Prop}{rest:List Oper}{o:Oper}
section
variable {E:B9}{K:Act->World->Prop}{a:Act}{bx':List (Nat×A5)}{f:FuncId}{fn:Func}{id:Nat}{res:AV}{rs:List ResultVar}{tk':List (Nat×C9)}{vs:List AV}{w:World}{x:Operand}{y z:Code}
def Inv.evs(hi:Inv c E st a w)(args:Array Operand):RelL E w (args.toList.map st.ev) (args.toList.map a.eval):=
 ⟨by simp,fun i x u T hu=>by
   simp only[gP] at T hu;cases hq:args.toList[i]? with
   |none=>rw[hq] at T;simp at T
   |some y=>rw[hq] at T hu;simp at T hu;subst T;subst hu;exact hi.ev y⟩
def C4.hand(h:C4 c E st.bx st.tk w){bxi:List (Nat×A5)}(hb:E3 st.bx bxi):C4 ⟨0,w,E,keys bxi⟩ E bxi [] w where
 box id b hl hn:=by obtain⟨b0,h0,ht,hs⟩:=hb.get id b hl;exact(h.box id b0 h0 (hs.ne hn)).sub ht hs
 tok id t hl:=by simp at hl
 bb i j b b' hi T hn ad he:=by
  obtain⟨b0,h0,_,hs⟩:=hb.get i b hi;obtain⟨b1,h1,_,ar⟩:=hb.get j b' T;exact h.bb i j b0 b1 h0 h1 (hs.ne hn) (ar.ne ad) he
 tt i j t t' g hi:=by simp at hi
 bt i j b t hi hn T:=by simp at T
 own i b hi hn:=by
  obtain⟨b0,h0,_,hs⟩:=hb.get i b hi;exact .inr ⟨i,mL hi,rfl,(h.box i b0 h0 (hs.ne hn)).1⟩
 ownt j t g T:=by simp at T
 new:=h.new
 old b _:=rfl
 ins id aR:=⟨rfl,rfl,by obtain⟨b,a0⟩:=it aR;rw[a0];rfl⟩
 kept:= .refl _ _
def jr(N:List Nat){f:FuncId}{args:Array Operand}{ats:Array TypeId}{Nh:List AV}{bxi ad:List (Nat×A5)}{aR:List (Nat×C9)}{res:AV}{d:Nat}(hg:o.guard=none)(hd:o.dst=some d)(a6:Nat.ble (d+1) c.nt=true)
 (ho:o.op= .call {callee:= .value (.func f),args:=args,argTypes:=ats}) (a7:dP P f=true) (hc:CallA P f Nh bxi ad aR res) (ha:Subs (args.toList.map st.ev) Nh) (a3:E3 st.bx bxi)
 (hN:N.all (fun id=>st.fresh id)=true) (a4:dV N bxi ad=true) (a8:(keys aR).all (fun id=>N.contains id)=true)
 (a9:ad.all (fun p=>AV.mentsIn (N++keys bxi) p.2.cs)=true) (ba:AV.mentIn (N++keys bxi) res=true)
 (h:L c ⟨(d,res)::st.fr,ad++st.bx,aR++st.tk⟩ (wpList P ops Q rest)):L c st (wpList P ops Q (o::rest)):=by
 rintro a w ⟨E,hi⟩;refine wpList_plain hg (fun K hK=> ?_);have a5:(execOp a.eval o).run P w= .ok (.enter f (args.map a.eval)) w:=by
  simp[execOp,ho,resolve,Deferred.ofValue,Act.eval,invoke,eJ a7]
 unfold Oper.wp;rw[a5,Oper.upon_enter];have ar:=hc E w (args.toList.map a.eval) ((hi.evs args).sub ha) (hi.heap.hand a3);have a0:(args.toList.map a.eval).toArray=args.map a.eval:=by apply Array.ext';simp
 rw[a0] at ar;refine ar.mono fun e w' ⟨u,E',he,hu,hh⟩=> ?_
 subst he;obtain⟨hj,a1,a2⟩:=hi.heap.join hh (N:=N) (fun id T=>aT hN id T) (fun id T=>by
  obtain⟨b,hb⟩:=it T;obtain⟨b0,h0,_,hs⟩:=a3.get id b hb;exact⟨b0,h0,hs.ne (yh a4 hb)⟩)
  (fun id T=>yi a4 T) (fun id T=>by have:=aT a8 id T;simpa using this)
  (fun id b hb=>aT a9 _ (dY hb))
 refine hK _ _ ?_;rw[hd];refine h _ _ ⟨_,Inv.put (st:=⟨st.fr,ad++st.bx,aR++st.tk⟩) ⟨hi.defers,hi.size,fun s v hv=>a2 v _ (fun id T=>St.fresh_fr (aT hN id T) hv) (hi.slot s v hv),hj⟩ (bT a6) (a1 res u ba hu)⟩
def L.call0{args:Array Operand}{ats:Array TypeId}{Nh:List AV}{d:Nat}(hg:o.guard=none)(hd:o.dst=some d)(T:Nat.ble (d+1) c.nt=true)
 (ho:o.op= .call {callee:= .value (.func f),args:=args,argTypes:=ats}) (ad:dP P f=true) (hc:CallA P f Nh [] [] [] res) (ha:Subs (args.toList.map st.ev) Nh)
 (ar:AV.mentIn [] res=true) (h:L c ⟨(d,res)::st.fr,st.bx,st.tk⟩ (wpList P ops Q rest)):L c st (wpList P ops Q (o::rest)):=
 jr [] hg hd T ho ad hc ha .nil U U U U ar h
def L.region{l:List Oper}(h:L c st (wpList P l.toArray Q l)):L c st ((Code.region id l.toArray false).wp P Q):=fun a w hr=>wp_region_lit (h a w hr)
def L.skip(h:L c st (Q .normal)):L c st (Code.skip.wp P Q):=fun a w hr=>wp_skip (h a w hr)
def L.exit(h:L c st (Q (.exit id))):L c st ((Code.exit id).wp P Q):=fun a w hr=>wp_exit (h a w hr)
def L.ret(h:L c st (Q .ret)):L c st (Code.ret.wp P Q):=fun a w hr=>wp_ret (h a w hr)
def L.block{x:Code}(h:L c st (x.wp P (Exit.inBlock id Q))):L c st ((Code.block id x).wp P Q):=fun a w hr=>wp_block (h a w hr)
def L.cond{t:Bool}(T:st.ev x=aB t)(ht:t=true->L c st (y.wp P Q))(hf:t=false->L c st (z.wp P Q)):L c st ((Code.cond x y z).wp P Q):=fun a w hr=>by
 obtain⟨E,hi⟩:=hr;exact wp_cond_split (hi.im T) (fun e=>ht e a w ⟨E,hi⟩) (fun e=>hf e a w ⟨E,hi⟩)
def KO(T:st.ev x=aB true)(h:L c st (y.wp P Q)):L c st ((Code.cond x y z).wp P Q):=L.cond T (fun _=>h) (fun e=>by cases e)
def KP(T:st.ev x=aB false)(h:L c st (z.wp P Q)):L c st ((Code.cond x y z).wp P Q):=L.cond T (fun e=>by cases e) (fun _=>h)
def KM(h:L c st K):L c st (Exit.then K Q .normal):=h
def L.thenE(h:L c st (Q (.exit id))):L c st (Exit.then K Q (.exit id)):=h
def L.thenR(h:L c st (Q .ret)):L c st (Exit.then K Q .ret):=h
def MR(h:L c st (Q .normal)):L c st (Exit.inBlock id Q .normal):=h
def L.inR(h:L c st (Q .ret)):L c st (Exit.inBlock id Q .ret):=h
def L.inE(h:L c st (Q .normal)):L c st (Exit.inBlock id Q (.exit id)):=fun a w hr=>by simp only[Exit.inBlock,if_true];exact h a w hr
def L.inO{id':Nat}(T:(id'==id)=false)(h:L c st (Q (.exit id'))):L c st (Exit.inBlock id Q (.exit id')):=fun a w hr=>by
 have:id'≠id:=by simpa using T
 simp only[Exit.inBlock,if_neg this];exact h a w hr
def L.loop{ι:Type}(inv:ι->St)(n:ι->Nat){i0:ι}(h0:Wk c st (inv i0)){x:Code}
 (h: ∀i,∀K:Act->World->Prop,(∀st' i',n i'<n i->Wk c st' (inv i')->L c st' K)->L c (inv i) (x.wp P (Exit.then K Q))):L c st ((Code.loop x).wp P Q):=by
 have key: ∀(m:Nat) (i:ι),n i=m-> ∀a w,R c (inv i) a w-> ∀(b:Frame) (k:List Item) (cs:List Frame),
  ∃e a' w',Q e a' w'/\Arrives P (lone (b.at a (.code x:: .inLoop x::k)) cs w) b k cs e a' w':=by
  intro m;induction m using Nat.strongRecOn with
  |_ m ih=>
   intro i hn a w hr b k cs;obtain⟨e,ad,ar,hq,T⟩:=h i (fun a' w'=> ∃i',n i'<n i/\R c (inv i') a' w') (fun st' i' a0 hw a' w' a1=>⟨i',a0,a1.wk hw⟩) a w hr b (.inLoop x::k) cs;cases e with
   |normal=>
    obtain⟨i',a0,a1⟩:=hq;obtain⟨a3,a4,a5,a2,aR⟩:=ih (n i') (hn▸a0) i' U ad ar a1 b k cs;exact⟨a3,a4,a5,a2,.of_steps (Steps.trans T (.one step_inLoop)) aR⟩
   |exit id=>exact⟨_,ad,ar,hq,.pass (x:= .inLoop x) U (fun _ _=> .inl sP) T⟩
   |goto l=>exact⟨_,ad,ar,hq,.pass (x:= .inLoop x) U (fun _ _=> .inl sP) T⟩
   |ret=>exact⟨_,ad,ar,hq,.pass (x:= .inLoop x) U (fun _ _=> .inl sP) T⟩
   |panic ch=>exact⟨_,ad,ar,hq,.pass (x:= .inLoop x) U (fun _ _=> .inl sP) T⟩
   |outgrown=>exact⟨_,ad,ar,hq,.pass (x:= .inLoop x) U (fun _ _=> .inl sP) T⟩
 intro a w hr b k cs;obtain⟨e,a',w',hq,T⟩:=key _ i0 U a w (hr.wk h0) b k cs;exact⟨e,a',w',hq,.of_steps (.one step_loop) T⟩
def enter:Nat->List AV->List (Nat×AV)
 |_,[] => []
 |n,v::vs=>(n,v)::enter (n+1) vs
def sk: ∀(vs:List AV) (n s:Nat) (v:AV),(enter n vs).lookup s=some v->n<=s/\vs[s - n]?=some v
 | [],n,s,v,h=>by simp[enter] at h
 |x::vs,n,s,v,h=>by
  by_cases e:s=n
  · subst e;simp only[enter,aj] at h;cases h;simp
  · simp only[enter] at h;rw[aa e] at h;obtain⟨h1,h2⟩:=sk vs (n+1) s v h;refine⟨by omega,?_⟩;rw[show s - n=(s - (n+1))+1 by omega];simpa using h2
def CallA.intro{code:Code}{args:List AV}{bx:List (Nat×A5)}(nt:Nat)(hf:P.funcs[f]?=some fn)(hb:fn.body=some code)(a0:fn.ntmps=nt)(hn:Nat.ble args.length nt=true)
 (h: ∀(w0:World) (E0:B9),L ⟨nt,w0,E0,keys bx⟩ ⟨enter 0 args,bx,[]⟩ (code.wp P (bodyPost P fn (lj ⟨nt,w0,E0,keys bx⟩ bx' tk' res)))):CallA P f args bx bx' tk' res:=by
 subst a0;have hn:=bT hn;intro E w us ad hh;have hl:=ad.1;refine calls_of_wp (R:=lj ⟨fn.ntmps,w,E,keys bx⟩ bx' tk' res) hf hb (h w E _ _ ⟨E,rfl,?_,fun s v hv=> ?_,?_⟩)|>.mono ?_
 · simp;omega
 · obtain⟨_,ar⟩:=sk args 0 s v hv;rw[Nat.sub_zero] at ar;have aR:s<us.length:=by rw[hl];exact(gS ar).1
   have:(us.toArray++Array.replicate (fn.ntmps - us.toArray.size) undef).getD s undef=us[s]:=by
    simp[Array.getElem?_append,aR]
   rw[this];exact ad.2 s v _ ar (gG aR)
 · exact⟨hh.box,hh.tok,hh.bb,hh.tt,hh.bt,hh.own,hh.ownt,hh.new,hh.old,hh.ins,hh.kept⟩
 · rintro e w' ⟨u,E',he,hu,T⟩;exact⟨u,E',he,hu,⟨T.box,T.tok,T.bb,T.tt,T.bt,T.own,T.ownt,T.new,T.old,T.ins,T.kept⟩⟩
def St.resv(P:Program)(st:St):ResultVar->Option AV
 | .tmp t=>some (st.ev (.tmp t))
 | .cell p ty=>match st.ev (.tmp p) with
   | .ptr id 0=>match st.bx.lookup id,P.info? ty,P.underlying ty with
     |some b,some i,some (.struct _)=>if i.size<=b.cs.length then some (.agg (b.cs.take i.size)) else none
     |_,_,_=>none
   |_=>none
def Inv.resv(hi:Inv c E st a w){r:ResultVar}{v:AV}(T:st.resv P r=some v):
 ∃u,((match r with| .tmp t=>pure (a.tmps.getD t undef)| .cell p t=>do loadVar t (<-asAddr (a.tmps.getD p undef)):Sem Value).run P w)= .ok u w/\A6 E w v u:=by
 cases r with
 |tmp t=>
  simp only[St.resv,Option.some.injEq] at T;subst T;exact⟨_,rfl,hi.ev (.tmp t)⟩
 |cell p ty=>
  simp only[St.resv] at T;split at T
  · rename_i id hp;have hq:a.tmps.getD p undef= .pointer (some ⟨E.ρ id,0,none⟩):=hi.ptr hp;split at T
    · rename_i b i fs hb ar hu;split at T
      · rename_i a0;simp only[Option.some.injEq] at T;subst T;obtain⟨arr,_,_,hr,h1,_,hc⟩:=hi.boxCell hb;have aR:=hr.take i.size;have hl:(arr.take i.size).length=i.size:=by rw[lT,hr.1];omega
        have ad:(loadCells ⟨E.ρ id,0,none⟩ (arr.take i.size).length).run P w= .ok (arr.take i.size).toArray w:=
         run_loadCells_list w _ _ (fun j v T=>by
          rw[List.getElem?_take] at T;split at T
          · rw[aK,Nat.zero_add,hc _ (gS T).1];exact T
          · cases T)
        rw[hl] at ad;refine⟨_,?_,aR.agg (fun u hu=>h1 u (mT hu))⟩;simp only[hq];simp[asAddr,loadVar,isAgg,run_underlying hu,sizeOf,typeInfo,ar,ad]
      · cases T
    · cases T
  · cases T
def St.ress(P:Program)(st:St):List ResultVar->Option (List AV)
 | [] =>some []
 |r::rs=>match st.resv P r,st.ress P rs with
  |some v,some vs=>some (v::vs)
  |_,_=>none
def Inv.ress(hi:Inv c E st a w): ∀{rs:List ResultVar} {vs:List AV},st.ress P rs=some vs->
 ∃us:List Value,(rs.mapM (fun r=>(match r with| .tmp t=>pure (a.tmps.getD t undef)| .cell p t=>do loadVar t (<-asAddr (a.tmps.getD p undef)):Sem Value))).run P w= .ok us w/\RelL E w vs us
 | [],vs,h=>by simp[St.ress] at h;subst h;exact⟨[],rfl,RelL.nil _ _⟩
 |r::rs,vs,h=>by
  simp only[St.ress] at h;split at h
  · rename_i v a0 hv ar;cases h;obtain⟨u,hu,hr⟩:=hi.resv (P:=P) hv;obtain⟨us,aR,ad⟩:=hi.ress ar;refine⟨u::us,?_,⟨by simp[ad.1],fun i c' u' hc T=> ?_⟩⟩
    · rw[List.mapM_cons,Sem.run_bind,hu,Result.andThen_ok,Sem.run_bind,aR];rfl
    · cases i with
      |zero=>simp at hc T;subst hc;subst T;exact hr
      |succ i=>exact ad.2 i c' u' (by simpa using hc) (by simpa using T)
  · cases h
def resOf:List AV->AV
 | [v] =>v
 |vs=> .tup vs
def L.ends(ad:fn.results=rs.toArray)(hv:st.ress P rs=some vs)(hs:Sub (resOf vs) res)(hw:Wk c st ⟨[],bx',tk'⟩):
 L c st (bodyPost P fn (lj c bx' tk' res) .ret):=by
 rintro a w ⟨E,hi⟩;obtain⟨us,ar,hr⟩:=hi.ress hv;refine⟨hi.defers,if h:us.length=1 then us[0] else .tuple us.toArray,?_,_,E,rfl,hs E w _ ?_,hi.heap.wk hw⟩
 · have T:(rs.toArray.mapM (fun r=>(match r with| .tmp t=>pure (a.tmps.getD t undef)| .cell p t=>do loadVar t (<-asAddr (a.tmps.getD p undef)):Sem Value))).run P w= .ok us.toArray w:=by
    rw[Array.mapM_eq_mapM_toList,Sem.run_map];simp only[ar];rfl
   unfold results;rw[ad,Sem.run_bind]
   erw [T]
   simp
 · match vs,us,hr with
   | [v],[u],hr=>exact hr.2 0 v u U U
   | [],[],hr=>exact .tup U (fun i c u h=>by simp at h)
   |v::v'::vs,u::u'::us,hr=>exact .tup hr.1 hr.2
   | [],u::us,hr=>have:=hr.1;simp at this
   | [v],[],hr=>have:=hr.1;simp at this
   | [v],u::u'::us,hr=>have:=hr.1;simp at this
   |v::v'::vs,[],hr=>have:=hr.1;simp at this
   |v::v'::vs,[u],hr=>have:=hr.1;simp at this
def ES(T:fn.results=rs.toArray)(hv:st.ress P rs=some vs)(hs:Sub (resOf vs) res)(hw:Wk c st ⟨[],bx',tk'⟩):
 L c st (bodyPost P fn (lj c bx' tk' res) .normal):=fun a w hr=>L.ends T hv hs hw a w hr
end
end
end Go.Abs
namespace Go.Abs
def fR{v:AV}:Sub v v:=Sub.refl v
def fS{l:List AV}:Subs l l:=Subs.refl l
def sE{v v':AV}(h:v=v':=by exact rfl):Sub v v':=h▸Sub.refl v
def wF{fr l:List (Nat×AV)}{s:Nat}{v:AV}(t:E6 fr l)(h:fr.lookup s=some v:=by exact rfl):E6 fr ((s,v)::l):= .cons h (Sub.refl _) t
def wG{fr l:List (Nat×AV)}{s:Nat}{v u:AV}(t:E6 fr l)(h:fr.lookup s=some u:=by exact rfl)(e:u=v:=by exact rfl):E6 fr ((s,v)::l):= .cons h (e▸Sub.refl _) t
def wB{bx r:List (Nat×A5)}{id:Nat}{b b0:A5}(t:E3 bx r)(h:bx.lookup id=some b0:=by exact rfl)(ht:b0.ty=b.ty:=by exact rfl)(hs:Subs b0.cs b.cs:=by exact Subs.refl _):E3 bx ((id,b)::r):= .cons h ht hs t
def iK{β γ:Type}{a:List (Nat×β)}{b:List (Nat×γ)}(h:(keys a).all (fun i=>(b.lookup i).isSome)=true): ∀id∈keys a,(b.lookup id).isSome=true:=fun id T=>List.all_eq_true.1 h id T
def kK{ins:List Nat}{bx:List (Nat×A5)}(h: ∀id∈ins,(bx.lookup id).isSome=true:=by(first|exact iK rfl|(intro id h;cases h;done)|(intro id h;simp[keys] at h;rcases h with rfl|rfl<;>rfl)|(intro id h;simp[keys] at h;subst h;rfl))): ∀id∈ins,(bx.lookup id).isSome=true:=h
def wK{c:C7}{st:St}{fr:List (Nat×AV)}{bx:List (Nat×A5)}{tk:List (Nat×C9)}(h0: ∀id∈c.ins,(bx.lookup id).isSome=true:=by exact kK)(h1:E6 st.fr fr:=by(repeat' (first|exact E6.nil|refine wF ?_)))(h2:E3 st.bx bx:=by(repeat' (first|exact E3.nil|refine wB ?_)))(h3:F9 st.tk tk:=by exact .nil):Wk c st ⟨fr,bx,tk⟩:=Wk.mk' h0 h1 h2 h3
def wL{c:C7}{st:St}{fr:List (Nat×AV)}{bx:List (Nat×A5)}{tk:List (Nat×C9)}(h:Wk c st ⟨fr,bx,tk⟩:=by(refine Wk.mk' (iK rfl) ?_ ?_ ?_<;>repeat' (first|exact E6.nil|exact E3.nil|exact F9.nil|refine wF ?_|refine wG ?_|(refine E6.cons rfl Sub.nils ?_)|refine wB ?_|(refine F9.cons rfl ?_)))):Wk c st ⟨fr,bx,tk⟩:=h
def B1{bx:List (Nat×A5)}{i1:Nat}{T c1:A5}(h1:bx.lookup i1=some c1:=by exact rfl)(t1:c1.ty=T.ty:=by exact rfl)(s1:Subs c1.cs T.cs:=by exact Subs.refl _):E3 bx [(i1,T)]:= .cons h1 t1 s1 .nil
def B2{bx:List (Nat×A5)}{i1 i2:Nat}{T c1 b2 c2:A5}(h1:bx.lookup i1=some c1:=by exact rfl)(t1:c1.ty=T.ty:=by exact rfl)(s1:Subs c1.cs T.cs:=by exact Subs.refl _)(h2:bx.lookup i2=some c2:=by exact rfl)(t2:c2.ty=b2.ty:=by exact rfl)(s2:Subs c2.cs b2.cs:=by exact Subs.refl _):E3 bx [(i1,T),(i2,b2)]:= .cons h1 t1 s1 (.cons h2 t2 s2 .nil)
def B3{bx:List (Nat×A5)}{i1 i2 i3:Nat}{T c1 b2 c2 b3 c3:A5}(h1:bx.lookup i1=some c1:=by exact rfl)(t1:c1.ty=T.ty:=by exact rfl)(s1:Subs c1.cs T.cs:=by exact Subs.refl _)(h2:bx.lookup i2=some c2:=by exact rfl)(t2:c2.ty=b2.ty:=by exact rfl)(s2:Subs c2.cs b2.cs:=by exact Subs.refl _)(h3:bx.lookup i3=some c3:=by exact rfl)(t3:c3.ty=b3.ty:=by exact rfl)(s3:Subs c3.cs b3.cs:=by exact Subs.refl _):E3 bx [(i1,T),(i2,b2),(i3,b3)]:= .cons h1 t1 s1 (.cons h2 t2 s2 (.cons h3 t3 s3 .nil))
def B4{bx:List (Nat×A5)}{i1 i2 i3 i4:Nat}{T c1 b2 c2 b3 c3 b4 c4:A5}(h1:bx.lookup i1=some c1:=by exact rfl)(t1:c1.ty=T.ty:=by exact rfl)(s1:Subs c1.cs T.cs:=by exact Subs.refl _)(h2:bx.lookup i2=some c2:=by exact rfl)(t2:c2.ty=b2.ty:=by exact rfl)(s2:Subs c2.cs b2.cs:=by exact Subs.refl _)(h3:bx.lookup i3=some c3:=by exact rfl)(t3:c3.ty=b3.ty:=by exact rfl)(s3:Subs c3.cs b3.cs:=by exact Subs.refl _)(h4:bx.lookup i4=some c4:=by exact rfl)(t4:c4.ty=b4.ty:=by exact rfl)(s4:Subs c4.cs b4.cs:=by exact Subs.refl _):E3 bx [(i1,T),(i2,b2),(i3,b3),(i4,b4)]:= .cons h1 t1 s1 (.cons h2 t2 s2 (.cons h3 t3 s3 (.cons h4 t4 s4 .nil)))
def B5{bx:List (Nat×A5)}{i1 i2 i3 i4 i5:Nat}{T c1 b2 c2 b3 c3 b4 c4 b5 c5:A5}(h1:bx.lookup i1=some c1:=by exact rfl)(t1:c1.ty=T.ty:=by exact rfl)(s1:Subs c1.cs T.cs:=by exact Subs.refl _)(h2:bx.lookup i2=some c2:=by exact rfl)(t2:c2.ty=b2.ty:=by exact rfl)(s2:Subs c2.cs b2.cs:=by exact Subs.refl _)(h3:bx.lookup i3=some c3:=by exact rfl)(t3:c3.ty=b3.ty:=by exact rfl)(s3:Subs c3.cs b3.cs:=by exact Subs.refl _)(h4:bx.lookup i4=some c4:=by exact rfl)(t4:c4.ty=b4.ty:=by exact rfl)(s4:Subs c4.cs b4.cs:=by exact Subs.refl _)(h5:bx.lookup i5=some c5:=by exact rfl)(t5:c5.ty=b5.ty:=by exact rfl)(s5:Subs c5.cs b5.cs:=by exact Subs.refl _):E3 bx [(i1,T),(i2,b2),(i3,b3),(i4,b4),(i5,b5)]:= .cons h1 t1 s1 (.cons h2 t2 s2 (.cons h3 t3 s3 (.cons h4 t4 s4 (.cons h5 t5 s5 .nil))))
def F1{fr:List (Nat×AV)}{T:Nat}{v1:AV}(h1:fr.lookup T=some v1:=by exact rfl):E6 fr [(T,v1)]:= .cons h1 (Sub.refl _) .nil
def F2{fr:List (Nat×AV)}{T i2:Nat}{v1 v2:AV}(h1:fr.lookup T=some v1:=by exact rfl)(h2:fr.lookup i2=some v2:=by exact rfl):E6 fr [(T,v1),(i2,v2)]:= .cons h1 (Sub.refl _) (.cons h2 (Sub.refl _) .nil)
def F3{fr:List (Nat×AV)}{T i2 i3:Nat}{v1 v2 v3:AV}(h1:fr.lookup T=some v1:=by exact rfl)(h2:fr.lookup i2=some v2:=by exact rfl)(h3:fr.lookup i3=some v3:=by exact rfl):E6 fr [(T,v1),(i2,v2),(i3,v3)]:= .cons h1 (Sub.refl _) (.cons h2 (Sub.refl _) (.cons h3 (Sub.refl _) .nil))
def F4{fr:List (Nat×AV)}{T i2 i3 i4:Nat}{v1 v2 v3 v4:AV}(h1:fr.lookup T=some v1:=by exact rfl)(h2:fr.lookup i2=some v2:=by exact rfl)(h3:fr.lookup i3=some v3:=by exact rfl)(h4:fr.lookup i4=some v4:=by exact rfl):E6 fr [(T,v1),(i2,v2),(i3,v3),(i4,v4)]:= .cons h1 (Sub.refl _) (.cons h2 (Sub.refl _) (.cons h3 (Sub.refl _) (.cons h4 (Sub.refl _) .nil)))
def F5{fr:List (Nat×AV)}{T i2 i3 i4 i5:Nat}{v1 v2 v3 v4 v5:AV}(h1:fr.lookup T=some v1:=by exact rfl)(h2:fr.lookup i2=some v2:=by exact rfl)(h3:fr.lookup i3=some v3:=by exact rfl)(h4:fr.lookup i4=some v4:=by exact rfl)(h5:fr.lookup i5=some v5:=by exact rfl):E6 fr [(T,v1),(i2,v2),(i3,v3),(i4,v4),(i5,v5)]:= .cons h1 (Sub.refl _) (.cons h2 (Sub.refl _) (.cons h3 (Sub.refl _) (.cons h4 (Sub.refl _) (.cons h5 (Sub.refl _) .nil))))
def F6{fr:List (Nat×AV)}{T i2 i3 i4 i5 i6:Nat}{v1 v2 v3 v4 v5 v6:AV}(h1:fr.lookup T=some v1:=by exact rfl)(h2:fr.lookup i2=some v2:=by exact rfl)(h3:fr.lookup i3=some v3:=by exact rfl)(h4:fr.lookup i4=some v4:=by exact rfl)(h5:fr.lookup i5=some v5:=by exact rfl)(h6:fr.lookup i6=some v6:=by exact rfl):E6 fr [(T,v1),(i2,v2),(i3,v3),(i4,v4),(i5,v5),(i6,v6)]:= .cons h1 (Sub.refl _) (.cons h2 (Sub.refl _) (.cons h3 (Sub.refl _) (.cons h4 (Sub.refl _) (.cons h5 (Sub.refl _) (.cons h6 (Sub.refl _) .nil)))))
def F7{fr:List (Nat×AV)}{T i2 i3 i4 i5 i6 i7:Nat}{v1 v2 v3 v4 v5 v6 v7:AV}(h1:fr.lookup T=some v1:=by exact rfl)(h2:fr.lookup i2=some v2:=by exact rfl)(h3:fr.lookup i3=some v3:=by exact rfl)(h4:fr.lookup i4=some v4:=by exact rfl)(h5:fr.lookup i5=some v5:=by exact rfl)(h6:fr.lookup i6=some v6:=by exact rfl)(h7:fr.lookup i7=some v7:=by exact rfl):E6 fr [(T,v1),(i2,v2),(i3,v3),(i4,v4),(i5,v5),(i6,v6),(i7,v7)]:= .cons h1 (Sub.refl _) (.cons h2 (Sub.refl _) (.cons h3 (Sub.refl _) (.cons h4 (Sub.refl _) (.cons h5 (Sub.refl _) (.cons h6 (Sub.refl _) (.cons h7 (Sub.refl _) .nil))))))
section
variable [Dr]
def iA{P:Program}{f:FuncId}{fn:Func}{code:Code}{args:List AV}{bx bx':List (Nat×A5)}{tk':List (Nat×C9)}{res:AV}{nt:Nat}(hf:P.funcs[f]?=some fn)(T:fn.ntmps=nt)(h: ∀(w0:World) (E0:B9),L ⟨nt,w0,E0,keys bx⟩ ⟨enter 0 args,bx,[]⟩ (code.wp P (bodyPost P fn (lj ⟨nt,w0,E0,keys bx⟩ bx' tk' res))))(hb:fn.body=some code:=by exact rfl)(hn:Nat.ble args.length nt=true:=by exact rfl):CallA P f args bx bx' tk' res:=CallA.intro nt hf hb T hn h
end
end Go.Abs
namespace Go.Abs
variable [Dr]
open Go.RowKit (Below)
def getM{α β:Type}{f:α->β}{vs:List α}{i:Nat}{v:α}(T:vs[i]?=some v):(vs.map f)[((i:Nat):Int).toNat]?=some (f v):=by simp[T]
def Nc{m:List UInt8}{n:Int}(h0:0<=n)(h1:n<m.length):m[n.toNat]?=some (m.getD n.toNat 0):=by
 have:n.toNat<m.length:=C;simp[List.getD_eq_getElem?_getD,gG this]
def eqV:Value->Value->Option Bool
 | .int k a,.int k' b=>if k=k' then some (a==b) else none
 | .bool a,.bool b=>some (a==b)
 | .string a,.string b=>some (a.data.toList==b.data.toList)
 |_,_=>none
def vD:List AV->List AV->Option Bool
 | [],[] =>some true
 | .iv (.im v)::vs,.iv (.im u)::us=>match eqV v u,vD vs us with
   |some a,some b=>some (a && b)
   |_,_=>none
 |_,_=>none
def vT(P:Program)(t:TypeId):Nat:=match P.underlying t with|some (.int _)=>1|some .bool=>2|some .string=>3|_=>0
def mn:AV->Nat
 | .iv (.im (.int _ _))=>1
 | .iv (.im (.bool _))=>2
 | .iv (.im (.string _))=>3
 |_=>0
def FH(P:Program):Nat->List Field->List Nat->Bool
 |_,[],[] =>true
 |i,f::fs,k::ks=>(f.name != "_" && (f.offset==i && vT P f.type==k)) && FH P (i+1) fs ks
 |_,_,_=>false
def In(P:Program)(t:TypeId)(ks:List Nat):Bool:=
 match P.underlying t with
 |some (.struct fs)=> !(P.stoodInHeld t) && (!(P.eqGuardType P.depth t) && FH P 0 fs.toList ks)
 |_=>false
def Jq{P:Program}{t:TypeId}{v u:Value}{b:Bool}(d:Nat)(w:World)(hk:vT P t=mn (.iv (.im v)))(h:eqV v u=some b):(Op.equalIn (d+1) t v u).run P w= .ok b w/\(isAgg t).run P w= .ok false w:=by
 unfold vT at hk;cases v<;>cases u<;>simp only[eqV] at h<;>try (cases h;done)
 · rename_i a b';cases h;cases hu:P.underlying t with
   |none=>rw[hu] at hk;simp[mn] at hk
   |some x=>rw[hu] at hk;cases x<;>simp[mn] at hk<;>simp[Op.equalIn,run_underlying hu,isAgg]
 · rename_i k a k' b';split at h
   · rename_i T;subst T;cases h;cases hu:P.underlying t with
     |none=>rw[hu] at hk;simp[mn] at hk
     |some x=>rw[hu] at hk;cases x<;>simp[mn] at hk<;>simp[Op.equalIn,run_underlying hu,isAgg]
   · cases h
 · rename_i a b';cases h;have:(a==b')=(a.data.toList==b'.data.toList):=by
    obtain⟨⟨x⟩⟩:=a;obtain⟨⟨y⟩⟩:=b';show((⟨x⟩:Array UInt8)==⟨y⟩)=(x==y)
    simp
   cases hu:P.underlying t with
   |none=>rw[hu] at hk;simp[mn] at hk
   |some x=>rw[hu] at hk;cases x<;>simp[mn] at hk<;>simp[Op.equalIn,run_underlying hu,this,isAgg]
def Ar{P:Program}(d:Nat)(w:World): ∀(fs:List Field) (i:Nat) (xs ys:Array Value) (vs us:List AV) (b:Bool),FH P i fs (vs.map mn)=true->vD vs us=some b->
 (∀(j:Nat) (v:Value),vs[j]?=some (.iv (.im v))->xs[i+j]?=some v)->(∀(j:Nat) (v:Value),us[j]?=some (.iv (.im v))->ys[i+j]?=some v)->
 (Op.eqFields (d+1) xs ys fs).run P w= .ok b w
 | [],i,xs,ys,vs,us,b,hf,h,_,_=>by
   cases vs with
   |nil=>cases us with
    |nil=>simp only[vD] at h;cases h;simp[Op.eqFields]
    |cons _ _=>simp[vD] at h
   |cons _ _=>simp[FH] at hf
 |f::fs,i,xs,ys,vs,us,b,hf,h,hx,hy=>by
  match vs,us,h with
  | [],_,h=>simp[FH] at hf
  | .iv (.im v)::vs,.iv (.im u)::us,h=>
    simp only[List.map_cons,FH,aE,bne_iff_ne,beq_iff_eq] at hf;obtain⟨⟨hn,ho,hk⟩,ar⟩:=hf;simp only[vD] at h;cases h1:eqV v u with
    |none=>rw[h1] at h;cases h
    |some b1=>
     cases h2:vD vs us with
     |none=>rw[h1,h2] at h;cases h
     |some b2=>
      rw[h1,h2] at h;cases h;have aR:xs[f.offset]?=some v:=by rw[ho];exact hx 0 v U
      have a0:ys[f.offset]?=some u:=by rw[ho];exact hy 0 u U
      obtain⟨he,ad⟩:=Jq (P:=P) d w hk h1;have ih:=Ar d w fs (i+1) xs ys vs us b2 ar h2 (fun j v' T=>by have:=hx (j+1) v' (by simpa using T);rwa [show i+1+j=i+(j+1) by omega]) (fun j v' T=>by have:=hy (j+1) v' (by simpa using T);rwa [show i+1+j=i+(j+1) by omega]);have a1:(part f.type xs f.offset).run P w= .ok v w:=by simp[part,ad,aR]
      have a2:(part f.type ys f.offset).run P w= .ok u w:=by simp[part,ad,a0]
      simp only[Op.eqFields,hn,ne_eq,not_false_eq_true,if_true,Sem.run_bind,a1,a2,Result.andThen_ok,he];cases b1
      · simp
      · simpa using ih
section
variable {P:Program}{c:C7}{st:St}{ops:Array Oper}{Q:Exit->Act->World->Prop}{rest:List Oper}{o:Oper}
section
variable {a m n p:Int}{b:Bool}{cs ds:List AV}{e s t t':TypeId}{es:List (List IV)}{k k' kd:IntKind}{ks:List Nat}{w:World}{x y:Operand}
def xW(hx:st.ev x= .agg cs)(hy:st.ev y= .agg ds)(T:In P t ks=true)(hn:cs.map mn=ks)(hb:vD cs ds=some b)
 {E:B9} {a:Act} {w:World} (hi:Inv c E st a w): ∃xs ys:Array Value,a.eval x= .agg xs/\a.eval y= .agg ys/\(Op.equalIn 10000 t (.agg xs) (.agg ys)).run P w= .ok b w/\ ∀op,(eqGuard op t x y (.agg xs) (.agg ys)).run P w= .ok () w:=by
 have h1:=hi.ev x;rw[hx] at h1;have h2:=hi.ev y;rw[hy] at h2;obtain⟨xs,aR,a0,_⟩:=h1.agg_inv;obtain⟨ys,a1,a2,_⟩:=h2.agg_inv;unfold In at T;split at T
 · rename_i fs hu;simp only[aE,Bool.not_eq_true',beq_iff_eq] at T;obtain⟨hs,hg,a3⟩:=T;subst hn;have ad:P.fieldsOf t=fs:=by simp[Program.fieldsOf,hu]
   refine⟨_,_,aR,a1,?_,fun op=>run_eqGuard_agg w op t x y _ _ hg⟩;rw[run_equalIn_struct w 9999 t _ _ (by rw[ad];exact hu) hs,ad];have hcell: ∀(l:List AV) (us:List Value),RelL E w l us-> ∀(j:Nat) (v:Value),l[j]?=some (.iv (.im v))->us.toArray[0+j]?=some v:=by
    intro l us hr j v hj;have ar:j<us.length:=by rw[hr.1];exact(gS hj).1
    have:=(hr.2 j _ _ hj (gG ar)).iv_im;simp[gG ar,this]
   exact Ar 9998 w fs.toList 0 _ _ cs ds b a3 hb (hcell cs xs a0) (hcell ds ys a2)
 · cases T
def Yields.eqlAgg(ho:o.op= .binOp .eql t x y t')(hx:st.ev x= .agg cs)(hy:st.ev y= .agg ds)(T:In P t ks=true)(hn:cs.map mn=ks)(hb:vD cs ds=some b):Yields P c st o (aB b):=
 .im U fun E a w hi=>by
   obtain⟨xs,ys,h1,h2,h3,h4⟩:=xW hx hy T hn hb hi;simp[execOp,ho,h1,h2,h4,run_eql_struct,h3,Result.andThen]
def Yields.neqAgg(ho:o.op= .binOp .neq t x y t')(hx:st.ev x= .agg cs)(hy:st.ev y= .agg ds)(T:In P t ks=true)(hn:cs.map mn=ks)(hb:vD cs ds=some b):Yields P c st o (aB (!b)):=
 .im U fun E a w hi=>by
   obtain⟨xs,ys,h1,h2,h3,h4⟩:=xW hx hy T hn hb hi;simp[execOp,ho,h1,h2,h4,run_neq_struct,h3,Result.andThen]
def Yields.shrI(ho:o.op= .binOp .shr t x y t')(T:st.ev x= .iv (.im (.int k m)))(hy:st.ev y= .iv (.im (.int k' n)))(h0:0<=n):
 Yields P c st o (.iv (.im (.int k (m.fdiv (2 ^ min n.toNat k.bits))))):=
 .im U fun E a w hi=>by
   have: ¬n<0:=C;simp[execOp,ho,hi.im T,hi.im hy,eqGuard,binOp,Op.shift,this]
def Yields.convU8{b:UInt8}(ho:o.op= .convert s t x)(T:st.ev x= .iv (.im (.int .u8 (b.toNat:Int))))(ht:P.underlying t=some (.int .i64))(hs:(P.underlying s).isSome=true):Yields P c st o (aI (b.toNat:Int)):=by
 have h:=Yields.conv (c:=c) ho T ht hs;have hb:=b.toNat_lt;have hw:IntKind.i64.wrap (b.toNat:Int)=(b.toNat:Int):=IntWalk.i64_in _ C
 rwa [hw] at h
def LB{i:Nat}(ha:0<=a)(h1:a*2 ^ i+2 ^ i<=9223372036854775807)(hn:0<=n)(h2:n<2 ^ i):
 IntKind.i64.wrap ((BitVec.ofInt IntKind.i64.bits (a*2 ^ i)|||BitVec.ofInt IntKind.i64.bits n).toNat:Int)=a*2 ^ i+n:=by
 obtain⟨A,rfl⟩:=Int.eq_ofNat_of_zero_le ha;obtain⟨N,rfl⟩:=Int.eq_ofNat_of_zero_le hn;have e0:((A:Int)*2 ^ i)=((A*2 ^ i:Nat):Int):=by simp
 have T:N<2 ^ i:=by
  have:((N:Nat):Int)<((2 ^ i:Nat):Int):=by simpa using h2
  exact Int.ofNat_lt.1 this
 have aR:A*2 ^ i+2 ^ i<=9223372036854775807:=by
  have:(((A*2 ^ i+2 ^ i:Nat)):Int)<=9223372036854775807:=by simpa using h1
  omega
 have ad:(A*2 ^ i)|||N=A*2 ^ i+N:=by
  have:=Nat.shiftLeft_add_eq_or_of_lt T A;rw[Nat.shiftLeft_eq] at this;exact this.symm
 have hb:(BitVec.ofInt IntKind.i64.bits ((A:Int)*2 ^ i)|||BitVec.ofInt IntKind.i64.bits (N:Int)).toNat=A*2 ^ i+N:=by
  rw[e0,BitVec.toNat_or];have ar:IntKind.i64.bits=64:=rfl;rw[ar,BitVec.ofInt_natCast,BitVec.ofInt_natCast,BitVec.toNat_ofNat,BitVec.toNat_ofNat,Nat.mod_eq_of_lt C,Nat.mod_eq_of_lt C,ad]
 rw[hb,IntWalk.i64_in _ C];simp
def Yields.orA(i:Nat)(ho:o.op= .binOp .or t x y t')(T:st.ev x=aI m)(hy:st.ev y=aI n)(hp:(2:Int)^ i=p)(hm:m=a*p)(ha:0<=a)(h1:a*p+p<=9223372036854775807)(hn:0<=n)(h2:n<p):Yields P c st o (aI (m+n)):=
 .im U fun E ad w hi=>by
   subst hm;subst hp;have h:=LB ha h1 hn h2;simp[execOp,ho,hi.im T,hi.im hy,eqGuard,binOp,Op.intBits] at h|-;exact h
def Yields.shlA(ho:o.op= .binOp .shl t x y t')(hx:st.ev x=aI m)(hy:st.ev y= .iv (.im (.int k' n)))(h0:0<=n)(hp:(2:Int)^ min n.toNat 64=p)(T: -9223372036854775808<=m*p)(ad:m*p<=9223372036854775807):
 Yields P c st o (aI (m*p)):=
 .im U fun E a w hi=>by
   subst hp;have: ¬n<0:=C;have hw:IntKind.i64.wrap (m*2 ^ min n.toNat 64)=m*2 ^ min n.toNat 64:=IntWalk.i64_in _ ⟨T,ad⟩;have hb:IntKind.i64.bits=64:=rfl;simp[execOp,ho,hi.im hx,hi.im hy,eqGuard,binOp,Op.shift,this,hb,hw]
def Yields.quoI(ho:o.op= .binOp .quo t x y t')(T:st.ev x=aI m)(hy:st.ev y=aI n)(hn:0<n)(ad: -9223372036854775808<=m)(ar:m<=9223372036854775807):
 Yields P c st o (aI (m.tdiv n)):=
 .im U fun E a w hi=>by
   have h0: ¬n=0:=C;have hr: -9223372036854775808<=m.tdiv n/\m.tdiv n<=9223372036854775807:=by
    rcases Int.le_total 0 m with h|h
    · have h1:=Int.tdiv_nonneg h (by omega:0<=n);have h2:m.tdiv n<=m:=Int.tdiv_le_self n h;omega
    · have h1:(-m).tdiv n<= -m:=Int.tdiv_le_self n C;have h2:=Int.tdiv_nonneg (by omega:0<= -m) (by omega:0<=n);rw[Int.neg_tdiv] at h1 h2;omega
   have:IntKind.i64.wrap (m.tdiv n)=m.tdiv n:=IntWalk.i64_in _ hr;simp[execOp,ho,hi.im T,hi.im hy,eqGuard,binOp,Op.intDiv,h0,this]
def Yields.remI(ho:o.op= .binOp .rem t x y t')(T:st.ev x= .iv (.im (.int k m)))(hy:st.ev y= .iv (.im (.int k n)))(hn:0<n):
 Yields P c st o (.iv (.im (.int k (m.tmod n)))):=
 .im U fun E a w hi=>by
   have h0: ¬n=0:=C;simp[execOp,ho,hi.im T,hi.im hy,eqGuard,binOp,Op.intDiv,h0]
def Yields.sliceSl{m:List UInt8}(ho:o.op= .slice t x (some y) none none)(T:st.ev x=aS m)(hy:st.ev y= .iv (.im (.int k n)))(ht:P.underlying t=some .string)
 (h0:0<=n) (h1:n<=m.length):Yields P c st o (aS (m.drop n.toNat)):=
 .im U fun E a w hi=>by
   have hs:=run_slice_string_l (P:=P) w t ⟨m.toArray⟩ ht k n h0 (by simpa[ByteArray.size] using h1);have he:(ByteArray.mk m.toArray).extract n.toNat (ByteArray.mk m.toArray).size=ByteArray.mk (m.drop n.toNat).toArray:=by
    rw[ByteArray.extract_mk];congr 2
    exact tL (by simp[ByteArray.size])
   rw[he] at hs;simp[execOp,ho,hi.im T,hi.im hy,run_sliceAt_string w t _ _ _ _ ht,hs]
def Yields.sliceSh{m:List UInt8}(ho:o.op= .slice t x none (some y) none)(T:st.ev x=aS m)(hy:st.ev y= .iv (.im (.int k n)))(ht:P.underlying t=some .string)
 (h0:0<=n) (h1:n<=m.length):Yields P c st o (aS (m.take n.toNat)):=
 .im U fun E a w hi=>by
   have hs:=run_slice_string_h (P:=P) w t ⟨m.toArray⟩ ht k n h0 (by simpa[ByteArray.size] using h1);rw[ByteArray.extract_mk] at hs;simp only[List.drop_zero,Nat.sub_zero] at hs;simp[execOp,ho,hi.im T,hi.im hy,run_sliceAt_string w t _ _ _ _ ht,hs]
def Yields.sliceSlh{z:Operand}{m:List UInt8}{j:Int}(ho:o.op= .slice t x (some y) (some z) none)(T:st.ev x=aS m)(hy:st.ev y= .iv (.im (.int k n)))(hz:st.ev z= .iv (.im (.int k' j)))(ht:P.underlying t=some .string)
 (h0:0<=n) (h1:n<=j) (h2:j<=m.length):Yields P c st o (aS ((m.drop n.toNat).take (j.toNat - n.toNat))):=
 .im U fun E a w hi=>by
   have hs:=run_slice_string (P:=P) w t ⟨m.toArray⟩ k k' n j ht h0 h1 (by simpa[ByteArray.size] using h2);rw[ByteArray.extract_mk] at hs;simp[execOp,ho,hi.im T,hi.im hy,hi.im hz,run_sliceAt_string w t _ _ _ _ ht,hs]
def C8.part{φ:Nat->Nat}{k len cap:Nat}{a:Option Addr}(h:C8 φ w (.sl es) (.slice a len cap))(hk: ∀e∈es,e.length=k){l n:Nat}(hn:n<=es.length)(hl:l<=n):
 C8 φ w (.sl ((es.take n).drop l)) (sliced a l n cap k):=by
 cases h with
 |emp a0 hm=>
  have:n=0:=by simpa using hn
  subst this;have:l=0:=C;subst this;refine .emp (fun ha=> ?_) C;split at ha
  · omega
  · cases a with
    |none=>have:=a0 U;omega
    |some _=>simp at ha
 | @sl _ b o _ k' f hc hm a1 hφ hcell hrep=>
   have ar: ∀(i:Nat) (e:List IV),es[i]?=some e->k'=k:=fun i e he=>by rw[<-a1 i e he,hk e (gE he)]
   have T: ∀(i:Nat) (e:List IV),((es.take n).drop l)[i]?=some e->es[l+i]?=some e:=fun i e he=>by
    rw[List.getElem?_drop,List.getElem?_take] at he;split at he
    · exact he
    · cases he
   have ad:((es.take n).drop l).length=n - l:=by simp;omega
   by_cases aR:cap=l
   · have h1:(es.take n).drop l= []:=nZ (by rw[ad];omega);rw[h1];have h2:n - l=0:=C;simp only[sliced,aR,if_true,h2];exact C8.sl (es:= []) (k:=k) (fun _ _=>undef) sP C (fun i e h=>by simp at h) (fun i e j x h=>by simp at h) (fun i e j x h=>by simp at h) (fun i e j x h=>by simp at h)
   · have:sliced (some ⟨b,o,none⟩) l n cap k= .slice (some ⟨b,o+l*k,none⟩) ((es.take n).drop l).length (cap - l):=by
      simp only[sliced,if_neg aR,Option.map_some,aK,ad]
     rw[this];refine .sl (k:=k) (fun i j=>f (l+i) j) (by rw[ad];omega) C (fun i e he=>hk e (gE (T i e he))) (fun i e j x he hx=> ?_) (fun i e j x he hx=> ?_) (fun i e j x he hx=>hrep _ _ _ _ (T i e he) hx)
     · have:=hφ _ _ _ _ (T i e he) hx;rw[ar _ _ (T i e he)] at this;rw[show o+l*k+i*k+j=o+(l+i)*k+j by rw[Nat.add_mul];omega];exact this
     · have:=hcell _ _ _ _ (T i e he) hx;rw[ar _ _ (T i e he)] at this;rw[show o+l*k+i*k+j=o+(l+i)*k+j by rw[Nat.add_mul];omega];exact this
def un{k:Nat}(hs:bH P t e k=true)(hx:(st.ev x).sl?=some es)(hk: ∀e∈es,e.length=k){E:B9}{a:Act}{w:World}(hi:Inv c E st a w):
 ∃ad len cap,a.eval x= .slice ad len cap/\len=es.length/\es.length<=cap/\P.underlying t=some (.slice (P.elem t))/\(sizeOf (P.elem t)).run P w= .ok k w/\
  ∀l n,n<=es.length->l<=n->C8 E.φ w (.sl ((es.take n).drop l)) (sliced ad l n cap k):=by
 have hr:=(hi.ev x).sl hx;obtain⟨hu,a0,ar,aR⟩:=aH hs;have he:P.elem t=e:=by simp[Program.elem,hu]
 have h2:P.underlying t=some (.slice (P.elem t)):=by rw[he];exact hu
 have h3:(sizeOf (P.elem t)).run P w= .ok k w:=by rw[he];simp[sizeOf,typeInfo,ar,aR]
 rcases hr.sl_inv with⟨T,rfl⟩|⟨ad,cap,T,_,_,rfl⟩|⟨b,o',cap,k',f,T,hc,hm,a1,hcell⟩
 · rw[T] at hr;exact⟨none,0,0,T,rfl,Nat.le_refl _,h2,h3,fun l n hn hl=>hr.part hk hn hl⟩
 · rw[T] at hr;exact⟨some ad,0,cap,T,rfl,Nat.zero_le _,h2,h3,fun l n hn hl=>hr.part hk hn hl⟩
 · rw[T] at hr;exact⟨_,_,_,T,rfl,hc,h2,h3,fun l n hn hl=>hr.part hk hn hl⟩
def Yields.sliceVl{k:Nat}(ho:o.op= .slice t x (some y) none none)(hx:(st.ev x).sl?=some es)(hy:st.ev y= .iv (.im (.int kd n)))(hs:bH P t e k=true)
 (hk: ∀e∈es,e.length=k) (h0:0<=n) (h1:n<=es.length):Yields P c st o (.iv (.sl (es.drop n.toNat))):=fun E a w hi=>by
 obtain⟨ad,len,cap,hq,T,hc,hu,hz,hp⟩:=un hs hx hk hi;have ar:=hp n.toNat es.length nR C;rw[List.take_length] at ar;refine⟨_,?_,.iv ar⟩;subst T;have:=run_slice_l (P:=P) w t ad es.length cap hu kd n h0 h1;simp[execOp,ho,hq,hi.im hy,run_sliceAt_slice w t _ _ _ _ hu,this,hz,Result.andThen]
def Yields.sliceVh{k:Nat}(ho:o.op= .slice t x none (some y) none)(hx:(st.ev x).sl?=some es)(hy:st.ev y= .iv (.im (.int kd n)))(hs:bH P t e k=true)
 (hk: ∀e∈es,e.length=k) (h0:0<=n) (h1:n<=es.length):Yields P c st o (.iv (.sl (es.take n.toNat))):=fun E a w hi=>by
 obtain⟨ad,len,cap,hq,T,hc,hu,hz,hp⟩:=un hs hx hk hi;have ar:=hp 0 n.toNat C C;rw[List.drop_zero] at ar;refine⟨_,?_,.iv ar⟩;subst T;have:=run_slice_h (P:=P) w t ad es.length cap hu kd n h0 C;simp[execOp,ho,hq,hi.im hy,run_sliceAt_slice w t _ _ _ _ hu,this,hz,Result.andThen]
abbrev cB(b:UInt8):List IV:= [.im (.int .u8 b.toNat)]
def Dd(l:List UInt8): ∀(r:List UInt8),((l.map fun b=>((b.toNat:Int))).foldl (fun(r:ByteArray) n=>r.push (UInt8.ofNat n.toNat)) ⟨r.toArray⟩)=⟨(r++l).toArray⟩:=by
 induction l with
 |nil=>intro r;simp
 |cons b l T=>
  intro r;simp only[List.map_cons,List.foldl_cons];have:(ByteArray.mk r.toArray).push (UInt8.ofNat ((b.toNat:Int)).toNat)=⟨(r++ [b]).toArray⟩:=by
   have:UInt8.ofNat ((b.toNat:Int)).toNat=b:=by simp
   rw[this];apply ByteArray.ext;simp[ByteArray.push]
  rw[this,T];simp
def Yields.bytesS{bs:List UInt8}(ho:o.op= .convert s t x)(hx:(st.ev x).sl?=some (bs.map cB))(hs:bH P s e 1=true)(he:P.underlying e=some (.int .u8))(ht:P.underlying t=some .string):
 Yields P c st o (aS bs):=
 .im U fun E a w hi=>by
   obtain⟨hu,a2,a1,a3⟩:=aH hs;rcases((hi.ev x).sl hx).sl_inv with⟨hq,h0⟩|⟨ad,cap,hq,_,_,h0⟩|⟨b,o',cap,k',f,hq,_,_,hk,hcell⟩
   · have:bs= []:=by simpa using h0
     subst this;simp[execOp,ho,hq,run_convert_bytes_string w s t e none 0 0 hu he ht,Conv.bytesToString];rfl
   · have:bs= []:=by simpa using h0
     subst this;have hb:=run_bytesToString (P:=P) w ad 0 cap [] (run_loadCells_list w ad [] (fun j v hv=>by simp at hv));simp[execOp,ho,hq,run_convert_bytes_string w s t e (some ad) 0 cap hu he ht,hb];rfl
   · have hc: ∀(i:Nat) (b':UInt8),bs[i]?=some b'->w.cell? ⟨b,o'+i,none⟩=some (.int .u8 b'.toNat):=by
      intro i b' hb;have h1:(bs.map cB)[i]?=some (cB b'):=by simp[hb]
      have h2:=hcell i _ 0 _ h1 U;have h3:=(hk i _ h1)
      simp at h3;have h4:=h2.2.2.im_eq;rw[h4] at h2;simpa[<-h3] using h2.2.1
     have T:(loadCells ⟨b,o',none⟩ ((bs.map fun x=>(x.toNat:Int)).map (Value.int .u8)).length).run P w= .ok (((bs.map fun x=>(x.toNat:Int)).map (Value.int .u8))).toArray w:=
      run_loadCells_list w _ _ (fun j v hv=>by
       simp only[gP,Option.map_map] at hv;cases hb:bs[j]? with
       |none=>rw[hb] at hv;simp at hv
       |some b'=>rw[hb] at hv;simp at hv;subst hv;rw[aK];exact hc j b' hb)
     have ar:((bs.map fun x=>(x.toNat:Int)).map (Value.int .u8)).length=bs.length:=by simp
     rw[ar] at T;have a0:(bs.map cB).length=bs.length:=by simp
     have:=run_bytesToString w ⟨b,o',none⟩ bs.length cap _ T;have hf:=Dd bs [];simp only[List.nil_append] at hf;have aR:(ByteArray.mk ([]:List UInt8).toArray)=ByteArray.empty:=rfl;rw[aR] at hf;rw[hf] at this;rw[a0] at hq;simp[execOp,ho,hq,run_convert_bytes_string w s t e _ _ _ hu he ht,this]
def L.adopt{s:Nat}(id:Nat){t:TypeId}{k:Nat}{X:Act->World->Prop}(hs:st.fr.lookup s=some .nils)(hf:st.fresh id=true)(ar:c.ins.contains id=false)(h:L c ⟨(s,.row id [])::st.fr,st.bx,(id,⟨t,k⟩)::st.tk⟩ X):L c st X:=by
 rintro a w ⟨E,hi⟩;have mono: ∀(v:AV) (u:Value),AV.ment id v=false->A6 E w v u->A6 ⟨E.φ,E.ρ,fun i=>if i=id then .slice none 0 0 else E.η i⟩ w v u:=fun v u hm hr=>
  hr.mono (E:=E) (E':=⟨E.φ,E.ρ,fun i=>if i=id then .slice none 0 0 else E.η i⟩) (fun _ _ _=>rfl) (fun _=>Nat.le_refl _) (fun i T=>⟨rfl,by
    have:i≠id:=fun e=>by subst e;rw[hm] at T;cases T
    simp[this]⟩)
 refine h a w ⟨⟨E.φ,E.ρ,fun i=>if i=id then .slice none 0 0 else E.η i⟩,hi.defers,hi.size,fun s' v hv=> ?_,?_⟩
 · by_cases e:s'=s
   · subst e;simp[List.lookup] at hv;subst hv;have h0:=hi.slot s' _ hs;generalize a.tmps.getD s' undef=u at h0|-;cases h0;exact .row sP .nil
   · rw[aa e] at hv;exact mono v _ (St.fresh_fr hf hv) (hi.slot s' v hv)
 · have hh:C4 c ⟨E.φ,E.ρ,fun i=>if i=id then .slice none 0 0 else E.η i⟩ st.bx st.tk w:=by
    have ad: ∀(j:Nat) (t':C9),st.tk.lookup j=some t'->(if j=id then Value.slice none 0 0 else E.η j)=E.η j:=fun j t' hj=>by rw[if_neg (St.fresh_tk hf hj)]
    refine⟨fun i b hb hn=> ?_,fun i t' T=> ?_,hi.heap.bb,fun i j t1 t2 g h1 h2 e1 e2=> ?_,fun i j b t' h1 hn h2=> ?_,hi.heap.own,fun j t' g hj hg=> ?_,hi.heap.new,hi.heap.old,fun i T=> ?_,hi.heap.kept⟩
    · obtain⟨h0,arr,ha,hl,h1,hr,hq⟩:=hi.heap.box i b hb hn;refine⟨h0,arr,ha,hl,h1,fun k c u hc hu=>mono c u ?_ (hr k c u hc hu),fun k cap he=>hq k cap (by simpa only[if_neg (St.fresh_bx hf hb).1] using he)⟩;exact bA (St.fresh_bx hf hb).2 k c hc
    · have:=hi.heap.tok i t' T;simp only[TokOk,ad i t' T] at this|-;exact this
    · simp only[ad i t1 h1] at e1;simp only[ad j t2 h2] at e2;exact hi.heap.tt i j t1 t2 g h1 h2 e1 e2
    · simp only[ad j t' h2];exact hi.heap.bt i j b t' h1 hn h2
    · simp only[ad j t' hj] at hg;exact hi.heap.ownt j t' g hj hg
    · obtain⟨h1,h2,h3⟩:=hi.heap.ins i T;refine⟨h1,?_,h3⟩;have:i≠id:=fun e=>by subst e;simp at ar;exact ar T
      simp only[if_neg this];exact h2
   refine hh.addTok (.inl sP) (fun j t' g hj hl hg=>by simp[Value.ownBlock]) (fun i b hb hn=>by simp[Value.ownBlock]) (fun g hg=>by simp[Value.ownBlock] at hg)
def C4.reEta{E:B9}{η:Nat->Value}(h:C4 c E st.bx st.tk w)(hb: ∀(i:Nat) (b:A5),st.bx.lookup i=some b-> ∀(k:Nat) (v:AV) (u:Value),b.cs[k]?=some v->A6 E w v u->A6 ⟨E.φ,E.ρ,η⟩ w v u)
 (ht: ∀(j:Nat) (t:C9),st.tk.lookup j=some t->η j=E.η j) (ad: ∀id∈c.ins,η id=E.η id) (ar: ∀(i:Nat) (b:A5),st.bx.lookup i=some b->η i=E.η i):C4 c ⟨E.φ,E.ρ,η⟩ st.bx st.tk w:=by
 refine⟨fun i b h0 hn=> ?_,fun i t' T=> ?_,h.bb,fun i j t1 t2 g h1 h2 e1 e2=> ?_,fun i j b t' h1 hn h2=> ?_,h.own,fun j t' g hj hg=> ?_,h.new,h.old,fun i T=> ?_,h.kept⟩
 · obtain⟨aR,arr,ha,hl,h1,hr,hq⟩:=h.box i b h0 hn;exact⟨aR,arr,ha,hl,h1,fun k c u hc hu=>hb i b h0 k c u hc (hr k c u hc hu),fun k cap he=>hq k cap (by simpa only[ar i b h0] using he)⟩
 · have:=h.tok i t' T;simp only[TokOk,ht i t' T] at this|-;exact this
 · simp only[ht i t1 h1] at e1;simp only[ht j t2 h2] at e2;exact h.tt i j t1 t2 g h1 h2 e1 e2
 · simp only[ht j t' h2];exact h.bt i j b t' h1 hn h2
 · simp only[ht j t' hj] at hg;exact h.ownt j t' g hj hg
 · obtain⟨h1,h2,h3⟩:=h.ins i T;exact⟨h1,by rw[<-h2];exact ad i T,h3⟩
def iF(id:Nat): ∀(tk:List (Nat×C9)) (s:Nat),(delTok id tk).lookup s=if s=id then none else tk.lookup s
 | [],s=>by simp[delTok]
 |(t,u)::tk,s=>by
  have T:=iF id tk s;unfold delTok at T|-;by_cases e:t=id
  · subst e;simp only[List.filter_cons,bne_self_eq_false,Bool.false_eq_true,if_false];rw[T];by_cases h:s=t
    · simp[h]
    · rw[aa h]
  · have hb:(t !=id)=true:=by simpa[bne] using e
    simp only[List.filter_cons,hb,if_true];by_cases h:s=t
    · subst h;rw[aj,aj,if_neg e]
    · rw[aa h,aa h,T]
def L.retok{t:C9}{X:Act->World->Prop}(s a b:Nat)(hs:st.fr.lookup s=some (.row a es))(ht:st.tk.lookup a=some t)(hf:st.fresh b=true)(ar:c.ins.contains b=false)
 (h:L c ⟨(s,.row b es)::st.fr,st.bx,(b,t)::delTok a st.tk⟩ X):L c st X:=by
 rintro a0 w ⟨E,hi⟩;have a4:a≠b:=St.fresh_tk hf ht;have mono: ∀(v:AV) (u:Value),AV.ment b v=false->A6 E w v u->A6 ⟨E.φ,E.ρ,fun i=>if i=b then E.η a else E.η i⟩ w v u:=fun v u hm hr=>
  hr.mono (E:=E) (E':=⟨E.φ,E.ρ,fun i=>if i=b then E.η a else E.η i⟩) (fun _ _ _=>rfl) (fun _=>Nat.le_refl _) (fun i aR=>⟨rfl,by
    have:i≠b:=fun e=>by subst e;rw[hm] at aR;cases aR
    simp[this]⟩)
 have hh:C4 c ⟨E.φ,E.ρ,fun i=>if i=b then E.η a else E.η i⟩ st.bx st.tk w:=hi.heap.reEta
  (fun i bb h0 k v u hv hr=>mono v u (bA (St.fresh_bx hf h0).2 k v hv) hr)
  (fun j t' hj=>by simp only[if_neg (St.fresh_tk hf hj)])
  (fun id ad=>by
    have:id≠b:=fun e=>by subst e;simp at ar;exact ar ad
    simp only[if_neg this])
  (fun i bb h0=>by simp only[if_neg (St.fresh_bx hf h0).1])
 have a1:C4 c ⟨E.φ,E.ρ,fun i=>if i=b then E.η a else E.η i⟩ st.bx (delTok a st.tk) w:=by
  have hw:Wk c st ⟨st.fr,st.bx,delTok a st.tk⟩:=⟨fun id ad=>(hi.heap.ins id ad).2.2,fun s v hv=>⟨v,hv,Sub.refl _⟩,fun id bb hb=>⟨bb,hb,rfl,Subs.refl _⟩,fun id t' T=>by
   simp only at T;rw[iF] at T;split at T
   · cases T
   · exact T⟩
  exact hh.wk (st:=st) (st':=⟨st.fr,st.bx,delTok a st.tk⟩) hw
 refine h a0 w ⟨⟨E.φ,E.ρ,fun i=>if i=b then E.η a else E.η i⟩,hi.defers,hi.size,fun s' v hv=> ?_,?_⟩
 · by_cases e:s'=s
   · subst e;simp[List.lookup] at hv;subst hv;have h0:=hi.slot s' _ hs;cases h0 with
     |row hu h0=>exact .row (by simp[hu]) h0
   · rw[aa e] at hv;exact mono v _ (St.fresh_fr hf hv) (hi.slot s' v hv)
 · refine a1.addTok ?_ (fun j t' g hj hl hg=> ?_) (fun i bb hb hn=> ?_) (fun g hg=> ?_)
   · have:=hi.heap.tok a t ht;simp only[TokOk,if_true] at this|-;exact this
   · rw[iF] at hl;split at hl
     · cases hl
     · rename_i a2;simp only[if_neg hj,if_true] at hg|-;intro a3;exact a2 (hi.heap.tt j a t' t g hl ht hg a3)
   · simp only[if_true];exact hi.heap.bt i a bb t hb hn ht
   · simp only[if_true] at hg;exact hi.heap.ownt a t g ht hg
def Yields.indexD{i:Operand}{m:List UInt8}(ho:o.op= .index t x i)(hx:st.ev x=aS m)(T:st.ev i= .iv (.im (.int k n)))
 (ht:P.underlying t=some .string) (h0:0<=n) (h1:n<m.length):Yields P c st o (.iv (.im (.int .u8 (m.getD n.toNat 0).toNat))):= .indexS ho hx T ht h0 (Nc h0 h1)
end
end
section
variable {P:Program}{c:C7}{st:St}{ops:Array Oper}{Q:Exit->Act->World->Prop}{rest:List Oper}{o:Oper}
def sY(P:Program)(f:FuncId)(e:Array Value->Sem Value):Prop:=
 ∃fn,P.funcs[f]?=some fn/\(fn.name== "runtime.NumGoroutine")=false/\fn.body.isNone=true/\Extern.findNext fn=none/\Extern.find fn=some e
section
variable {E:B9}{args Nh:List AV}{ats:Array TypeId}{bx bx':List (Nat×A5)}{d g:Nat}{f:FuncId}{m n:Int}{res:AV}{t t':TypeId}{tk':List (Nat×C9)}{w:World}{x y:Operand}
def Yields.idxB{m:List UInt8}(ho:o.op= .call {callee:= .value (.func f),args:= #[x,y],argTypes:=ats})
 (ad:sY P f Extern.BytealgIndexByte.indexByte) (hx:st.ev x=aS m) (hy:st.ev y= .iv (.im (.int .u8 n))):Yields P c st o (aI (Lib.indexByte m n.toNat.toUInt8)):=
 .im U fun E a w hi=>by
   obtain⟨fn,hf,h1,h2,h3,h4⟩:=ad;have e1:=hi.im hx;have e2:=hi.im hy;have T:=run_callFunc_extern hf h1 h2 h3 h4 #[.string ⟨m.toArray⟩,.int .u8 n] w;rw[Lib.run_indexByteString] at T;have:(execOp a.eval o).run P w=(callFunc f #[a.eval x,a.eval y]).run P w:=by
    simp[execOp,ho,resolve,Deferred.ofValue,Act.eval,invoke]
   rw[this,e1,e2,T];simp[Result.andThen]
def and_one(n:Int):bits .and .i64 n 1=n % 2:=by
 have h1:(BitVec.ofInt 64 1).toNat=2 ^ 1 - 1:=by decide
 have key:(BitVec.ofInt 64 n &&& BitVec.ofInt 64 1).toNat=(n % ((2 ^ 64:Nat):Int)).toNat % 2 ^ 1:=by
  rw[BitVec.toNat_and,BitVec.toNat_ofInt,h1,Nat.and_two_pow_sub_one_eq_mod]
 show IntKind.i64.wrap ((BitVec.ofInt 64 n &&& BitVec.ofInt 64 1).toNat:Nat)=n % 2;rw[key,IntKind.wrap_i64];omega
def Yields.and1(ho:o.op= .binOp .and t x y t')(T:st.ev x=aI m)(hy:st.ev y=aI 1):Yields P c st o (aI (m % 2)):=
 .arith ho T hy (fun w=>by rw[<-and_one m];rfl) (fun w=>rfl)
def Yields.min2(ho:o.op= .call {callee:= .builtin .min,args:= #[x,y],argTypes:= #[t,t']})(T:st.ev x=aI m)(hy:st.ev y=aI n):Yields P c st o (aI (if n<m then n else m)):=
 .im U fun E a w hi=>by
   have e1:=hi.im T;have e2:=hi.im hy;simp[execOp,ho,resolve,invoke,builtin,e1,e2,run_min_int2,Result.andThen]
abbrev aw:=List (Nat×List IV)
def Glob(gs:aw)(E:B9)(w:World):Prop:=
 ((∀b,w.heap.size<=b->E.φ b=0)/\ ∀(g:Nat) (xs:List IV),(g,xs)∈gs->xs≠ [] -> ∃cs ty sp,w.heap[g]?=some (.cells cs ty sp)/\cs.size=xs.length)/\ ∀(g:Nat) (xs:List IV),(g,xs)∈gs-> ∀(i:Nat) (x:IV),xs[i]?=some x->i<E.φ g/\ ∃v,w.cell? ⟨g,i,none⟩=some v/\C8 E.φ w x v
def Glob.nil(h: ∀b,w.heap.size<=b->E.φ b=0):Glob [] E w:=⟨⟨h,fun g xs h=>by simp at h⟩,fun g xs h=>by simp at h⟩
def Glob.keep{gs:aw}{a:Act}(h:Glob gs c.E0 c.w0)(hi:Inv c E st a w):Glob gs E w:=by
 obtain⟨⟨h0,hs⟩,h1⟩:=h;have lt: ∀b o,o<c.E0.φ b->b<c.w0.heap.size:=fun b o ho=>Nat.lt_of_not_le (fun ar=>by rw[h0 b ar] at ho;omega)
 have hk:Keeps c.E0.φ c.w0 w:=fun b o ho=>by
  have hb:=lt b o ho;exact World.cell?_of_block (w:=c.w0) (hi.heap.kept.block b hb (fun⟨id,aR,T,h0⟩=>by omega))
 have hφ: ∀b,c.E0.φ b<=E.φ b:=fun b=>by
  by_cases hb:b<c.w0.heap.size
  · rw[hi.heap.old b hb];exact Nat.le_refl _
  · rw[h0 b C];exact Nat.zero_le _
 refine⟨⟨hi.heap.new,fun g xs T ad=> ?_⟩,fun g xs T i x hx=> ?_⟩
 · obtain⟨k1,_⟩:=h1 g xs T 0 _ (gG (gU ad));obtain⟨cs,ty,sp,e1,e2⟩:=hs g xs T ad;exact⟨cs,ty,sp,(hi.heap.kept.block g (lt g 0 k1) (fun⟨id,aR,T,h0⟩=>by omega)).trans e1,e2⟩
 obtain⟨k1,v,k2,k3⟩:=h1 g xs T i x hx;exact⟨Nat.lt_of_lt_of_le k1 (hφ g),v,by rw[hk g i k1];exact k2,k3.mono hk hφ⟩
def CallG(gs:aw)(P:Program)(f:FuncId)(args:List AV)(bx bx':List (Nat×A5))(tk':List (Nat×C9))(res:AV):Prop:=
 ∀(E:B9) (w:World) (us:List Value),RelL E w args us->C4 ⟨0,w,E,keys bx⟩ E bx [] w->Glob gs E w->
  Calls P f us.toArray w fun e w'=> ∃(u:Value) (E':B9),e= .returned u/\A6 E' w' res u/\C4 ⟨0,w,E,keys bx⟩ E' bx' tk' w'
def CallA.toG{gs:aw}(h:CallA P f args bx bx' tk' res):CallG gs P f args bx bx' tk' res:=
 fun E w us hr T _=>h E w us hr T
def CallG.toA(h:CallG [] P f args bx bx' tk' res):CallA P f args bx bx' tk' res:=
 fun E w us hr T=>h E w us hr T (Glob.nil T.new)
def CallG.intro{gs:aw}{fn:Func}{code:Code}(nt:Nat)(hf:P.funcs[f]?=some fn)(hb:fn.body=some code)(a0:fn.ntmps=nt)(hn:Nat.ble args.length nt=true)
 (h: ∀(w0:World) (E0:B9),Glob gs E0 w0->L ⟨nt,w0,E0,keys bx⟩ ⟨enter 0 args,bx,[]⟩ (code.wp P (bodyPost P fn (lj ⟨nt,w0,E0,keys bx⟩ bx' tk' res)))):CallG gs P f args bx bx' tk' res:=by
 subst a0;have hn:=bT hn;intro E w us ad hh hg;have hl:=ad.1;refine calls_of_wp (R:=lj ⟨fn.ntmps,w,E,keys bx⟩ bx' tk' res) hf hb (h w E hg _ _ ⟨E,rfl,?_,fun s v hv=> ?_,?_⟩)|>.mono ?_
 · simp;omega
 · obtain⟨_,ar⟩:=sk args 0 s v hv;rw[Nat.sub_zero] at ar;have aR:s<us.length:=by rw[hl];exact(gS ar).1
   have:(us.toArray++Array.replicate (fn.ntmps - us.toArray.size) undef).getD s undef=us[s]:=by
    simp[Array.getElem?_append,aR]
   rw[this];exact ad.2 s v _ ar (gG aR)
 · exact⟨hh.box,hh.tok,hh.bb,hh.tt,hh.bt,hh.own,hh.ownt,hh.new,hh.old,hh.ins,hh.kept⟩
 · rintro e w' ⟨u,E',he,hu,T⟩;exact⟨u,E',he,hu,⟨T.box,T.tok,T.bb,T.tt,T.bt,T.own,T.ownt,T.new,T.old,T.ins,T.kept⟩⟩
def mY{gs:aw}(N:List Nat){f:FuncId}{Nh:List AV}{bxi ad:List (Nat×A5)}{ar:List (Nat×C9)}{res:AV}{d:Nat}(hg:o.guard=none)(hd:o.dst=some d)(a6:Nat.ble (d+1) c.nt=true)(hG:Glob gs c.E0 c.w0)
 (ho: ∀(E:B9) (a:Act) (w:World),Inv c E st a w-> ∃us:List Value,(execOp a.eval o).run P w= .ok (.enter f us.toArray) w/\RelL E w Nh us) (hc:CallG gs P f Nh bxi ad ar res) (a2:E3 st.bx bxi)
 (hN:N.all (fun id=>st.fresh id)=true) (a3:dV N bxi ad=true) (a7:(keys ar).all (fun id=>N.contains id)=true)
 (a8:ad.all (fun p=>AV.mentsIn (N++keys bxi) p.2.cs)=true) (a9:AV.mentIn (N++keys bxi) res=true)
 (h:L c ⟨(d,res)::st.fr,ad++st.bx,ar++st.tk⟩ (wpList P ops Q rest)):L c st (wpList P ops Q (o::rest)):=by
 rintro a w ⟨E,hi⟩;refine wpList_plain hg (fun K hK=> ?_);obtain⟨us,a4,a5⟩:=ho E a w hi;unfold Oper.wp;rw[a4,Oper.upon_enter];have aR:=hc E w us a5 (hi.heap.hand a2) (hG.keep hi);refine aR.mono fun e w' ⟨u,E',he,hu,hh⟩=> ?_
 subst he;obtain⟨hj,a0,a1⟩:=hi.heap.join hh (N:=N) (fun id T=>aT hN id T) (fun id T=>by
  obtain⟨b,hb⟩:=it T;obtain⟨b0,h0,_,hs⟩:=a2.get id b hb;exact⟨b0,h0,hs.ne (yh a3 hb)⟩)
  (fun id T=>yi a3 T) (fun id T=>by have:=aT a7 id T;simpa using this)
  (fun id b hb=>aT a8 _ (dY hb))
 refine hK _ _ ?_;rw[hd];refine h _ _ ⟨_,Inv.put (st:=⟨st.fr,ad++st.bx,ar++st.tk⟩) ⟨hi.defers,hi.size,fun s v hv=>a1 v _ (fun id T=>St.fresh_fr (aT hN id T) hv) (hi.slot s v hv),hj⟩ (bT a6) (a0 res u a9 hu)⟩
def L.callG0{gs:aw}{args:Array Operand}(hg:o.guard=none)(hd:o.dst=some d)(ad:Nat.ble (d+1) c.nt=true)(hG:Glob gs c.E0 c.w0)
 (ho:o.op= .call {callee:= .value (.func f),args:=args,argTypes:=ats}) (ar:dP P f=true) (hc:CallG gs P f Nh [] [] [] res) (ha:Subs (args.toList.map st.ev) Nh)
 (aR:AV.mentIn [] res=true) (h:L c ⟨(d,res)::st.fr,st.bx,st.tk⟩ (wpList P ops Q rest)):L c st (wpList P ops Q (o::rest)):=
 mY [] hg hd ad hG (fun E a w hi=>⟨args.toList.map a.eval,by
  have T:(args.toList.map a.eval).toArray=args.map a.eval:=by apply Array.ext';simp
  rw[T];simp[execOp,ho,resolve,Deferred.ofValue,Act.eval,invoke,eJ ar],(hi.evs args).sub ha⟩) hc .nil U U U U aR h
def IU(P:Program)(t e:TypeId)(n:Nat):Bool:=
 (match P.underlying t with|some (.array m T)=>m==n && T==e|_=>false) && (match P.info? e with|some i=>i.size==1|none=>false)
def Yields.indexG{gs:aw}{xs:List IV}{e:TypeId}{i:Operand}{kd:IntKind}{v:IV}(ho:o.op= .indexAddr t (.global g) i)(hs:IU P t e xs.length=true)(hG:Glob gs c.E0 c.w0)(hm:(g,xs)∈gs)
 (aR:st.ev i= .iv (.im (.int kd n))) (h0:0<=n) (hv:xs[n.toNat]?=some v):Yields P c st o (.el [v]):=fun E a w hi=>by
 have e1:=hi.im aR;obtain⟨g1,u,g2,g3⟩:=(hG.keep hi).2 g xs hm _ v hv;unfold IU at hs;simp only[aE] at hs;obtain⟨T,ar⟩:=hs;have hu:P.underlying t=some (.array xs.length e):=by
  split at T
  · rename_i m e' hm;simp only[aE,beq_iff_eq] at T;rw[hm,T.1,T.2]
  · cases T
 have a0:n<(xs.length:Int):=by
  have:=(gS hv).1;omega
 cases ad:P.info? e with
 |none=>rw[ad] at ar;simp at ar
 |some a1=>
  rw[ad] at ar;have a2:a1.size=1:=by simpa using ar
  refine⟨.pointer (some ⟨g,n.toNat,none⟩),?_,.el (fun _=>u) (fun j x hx=> ?_) (fun j x hx=> ?_)⟩
  · have eg:a.eval (.global g)= .pointer (some ⟨g,0,none⟩):=rfl;have ea:(⟨g,0,none⟩:Addr).add n.toNat=⟨g,n.toNat,none⟩:=by rw[aK,Nat.zero_add]
    simp[execOp,ho,eg,e1,Instr.indexAt,asIntOf,run_underlying hu,Instr.sureAddr,h0,a0,sizeOf,typeInfo,ad,a2,ea]
  · cases j with
    |zero=>exact⟨g1,g2⟩
    |succ j=>simp at hx
  · cases j with
    |zero=>simp at hx;subst hx;exact g3
    |succ j=>simp at hx
def Yields.loadG{gs:aw}{x:IV}(ho:o.op= .load t (.global g))(ht:nB P t false 1=true)(T:Glob gs c.E0 c.w0)(hm:(g,[x])∈gs):Yields P c st o (.iv x):=fun E a w hi=>by
 obtain⟨g1,u,g2,g3⟩:=(T.keep hi).2 g [x] hm 0 x U;refine⟨u,?_,.iv g3⟩;have eg:a.eval (.global g)= .pointer (some ⟨g,0,none⟩):=rfl;simp[execOp,ho,eg,Instr.loadAt,Instr.sureAddr,loadVar,(fF ht w).1,g2]
def Yields.makeFunc{caps:Array Operand}(ho:o.op= .makeFunc (.func f) #[] caps):Yields P c st o (.fn f (caps.toList.map st.ev)):=fun E a w hi=>by
 refine⟨.func (.func f) #[] (caps.toList.map a.eval).toArray,?_,?_⟩
 · have hc:(caps.toList.map a.eval).toArray=caps.map a.eval:=by apply Array.ext';simp
   rw[hc];simp[execOp,ho,Instr.makeFunc]
 · obtain⟨h1,h2⟩:=hi.evs caps;exact .fn h1 h2
def L.callFnG{gs:aw}{args:Array Operand}{caps:List AV}{bxi:List (Nat×A5)}(hg:o.guard=none)(hd:o.dst=some d)(ar:Nat.ble (d+1) c.nt=true)(hG:Glob gs c.E0 c.w0)
 (ho:o.op= .call {callee:= .value x,args:=args,argTypes:=ats}) (hx:st.ev x= .fn f caps) (aR:dP P f=true) (hc:CallG gs P f (Nh++caps) bxi bxi [] res) (ha:Subs (args.toList.map st.ev) Nh)
 (a0:E3 st.bx bxi) (T:bxi.all (fun p=> !p.2.cs.isEmpty && AV.mentsIn (keys bxi) p.2.cs)=true) (a1:AV.mentIn (keys bxi) res=true)
 (h:L c ⟨(d,res)::st.fr,bxi++st.bx,st.tk⟩ (wpList P ops Q rest)):L c st (wpList P ops Q (o::rest)):=
 mY [] hg hd ar hG (fun E a w hi=>by
  have hv:=hi.ev x;rw[hx] at hv;generalize hu:a.eval x=u at hv;cases hv with
  | @fn _ _ us hl hr=>
    refine⟨args.toList.map a.eval++us,?_,((hi.evs args).sub ha).append ⟨hl,hr⟩⟩;have ad:(args.toList.map a.eval++us).toArray=args.map a.eval++us.toArray:=by apply Array.ext';simp
    rw[ad];simp[execOp,ho,resolve,hu,Deferred.ofValue,invoke,eJ aR]) hc a0 U (by
    simp only[dV,aE,List.all_eq_true] at T|-;exact⟨fun p hp=>(T p hp).1,fun id a2=>by simpa using a2⟩) U (by
    simp only[aE,List.all_eq_true] at T|-;exact fun p hp=>(T p hp).2) a1 h
def Ic(P:Program)(s:TypeId)(f fo:Nat):Bool:=
 match P.underlying s with
 |some (.struct fs)=>match fs[f]? with
  |some T=>T.offset==fo && (match P.underlying T.type with|some (.int _)|some .string|some .bool|some (.slice _)=>true|_=>false)
  |none=>false
 |_=>false
def Yields.fieldV{s:TypeId}{f fo:Nat}{cs:List AV}{v:AV}(ho:o.op= .field s x f)(T:Ic P s f fo=true)(hx:st.ev x= .agg cs)(hv:cs[fo]?=some v):Yields P c st o v:=fun E a w hi=>by
 have h:=hi.ev x;rw[hx] at h;obtain⟨us,hu,hr,_⟩:=h.agg_inv;have ad:fo<us.length:=by rw[hr.1];exact(gS hv).1
 refine⟨us[fo],?_,hr.2 fo v _ hv (gG ad)⟩;unfold Ic at T;split at T
 · rename_i fs aR;split at T
   · rename_i fd a0;simp only[aE,beq_iff_eq] at T;obtain⟨h1,h2⟩:=T;have a1:(isAgg fd.type).run P w= .ok false w:=by
      split at h2
      all_goals first|(rename_i hd;simp[isAgg,run_underlying hd];done)|cases h2
     have ar:us[fo]?=some us[fo]:=gG ad;simp[execOp,ho,hu,Instr.field,run_underlying aR,a0,asAgg,part,a1,h1,ar]
   · cases T
 · cases T
end
end
section
variable {P:Program}{c:C7}{st:St}{ops:Array Oper}{Q:Exit->Act->World->Prop}{rest:List Oper}{o:Oper}
section
variable {cap id k n off:Nat}{e t:TypeId}{i x y:Operand}{j:Int}{kd:IntKind}
def Yields.lenBsl(ho:o.op= .call {callee:= .builtin .len,args:= #[x],argTypes:= #[t]}){e:TypeId}{k:Nat}(hs:bH P t e k=true)(T:st.ev x= .bsl id off n cap):Yields P c st o (aI n):=
 .im U fun E a w hi=>by
   obtain⟨hu,_⟩:=aH hs;have h:=hi.ev x;rw[T] at h;obtain⟨o',hq,_⟩:=h.bsl_inv;simp[execOp,ho,resolve,invoke,builtin,hq,Builtin.len_,run_underlying hu,goInt]
def Yields.lenBsh{k':Nat}(ho:o.op= .call {callee:= .builtin .len,args:= #[x],argTypes:= #[t]}){e:TypeId}{k:Nat}(hs:bH P t e k=true)(T:st.ev x= .bsh id off n k'):Yields P c st o (aI n):=
 .im U fun E a w hi=>by
   obtain⟨hu,_⟩:=aH hs;have h:=hi.ev x;rw[T] at h;obtain⟨cap,o',hq,_⟩:=h.bsh_inv;simp[execOp,ho,resolve,invoke,builtin,hq,Builtin.len_,run_underlying hu,goInt]
def Yields.capBsl(ho:o.op= .call {callee:= .builtin .cap,args:= #[x],argTypes:= #[t]}){e:TypeId}{k:Nat}(hs:bH P t e k=true)(T:st.ev x= .bsl id off n cap):Yields P c st o (aI cap):=
 .im U fun E a w hi=>by
   obtain⟨hu,_⟩:=aH hs;have h:=hi.ev x;rw[T] at h;obtain⟨o',hq,_⟩:=h.bsl_inv;simp[execOp,ho,resolve,invoke,builtin,hq,Builtin.cap_,run_underlying hu,goInt]
def Yields.indexBsl(ho:o.op= .indexAddr t x i)(hs:bH P t e k=true)(hx:st.ev x= .bsl id off n cap)
 (hj:st.ev i= .iv (.im (.int kd j))) (h0:0<=j) (h1:j<n):Yields P c st o (.ptr id (off+j.toNat*k)):=
 fun E a w hi=>by
  obtain⟨hu,aR,T,ad⟩:=aH hs;have h:=hi.ev x;rw[hx] at h;obtain⟨o',hq,hn,_,ar⟩:=h.bsl_inv;have:=ar C;subst this;refine⟨.pointer (some ⟨E.ρ id,o'+j.toNat*k,none⟩),?_,.ptr U⟩;simp[execOp,ho,hq,hi.im hj,Instr.indexAt,asIntOf,run_underlying hu,h0,h1,sizeOf,typeInfo,T,ad,aK]
def Yields.indexBsh(ho:o.op= .indexAddr t x i)(hs:bH P t e k=true)(hx:st.ev x= .bsh id off n k)
 (hj:st.ev i= .iv (.im (.int kd j))) (h0:0<=j) (h1:j<n):Yields P c st o (.ptr id ((off+j.toNat)*k)):=
 fun E a w hi=>by
  obtain⟨hu,aR,T,ad⟩:=aH hs;have h:=hi.ev x;rw[hx] at h;obtain⟨cap,o',hq,hn,_,_,ar⟩:=h.bsh_inv;have:=ar C;subst this;refine⟨.pointer (some ⟨E.ρ id,off*k+j.toNat*k,none⟩),?_,.ptr (by rw[Nat.add_mul])⟩;simp[execOp,ho,hq,hi.im hj,Instr.indexAt,asIntOf,run_underlying hu,h0,h1,sizeOf,typeInfo,T,ad,aK]
def na{E:B9}{w:World}{o' l h m s:Nat}(hl:l<=h)(T:h<=m)(hm:m<=cap)(hx:cap<=maxLen)(ho:cap≠0->o'=off):
 A6 E w (.bsl id (off+l*s) (h - l) (m - l)) (sliced (some ⟨E.ρ id,o',none⟩) l h m s):=by
 unfold sliced;by_cases e:m=l
 · rw[if_pos e];exact .bsl C C (fun h=>by omega) U
 · rw[if_neg e];exact .bsl C C (fun _=>rfl) (by rw[ho C];simp[aK])
def mt(hs:bH P t e k=true)(w:World):P.underlying t=some (.slice (P.elem t))/\(sizeOf (P.elem t)).run P w= .ok k w:=by
 obtain⟨hu,ar,T,ad⟩:=aH hs;have he:P.elem t=e:=by simp[Program.elem,hu]
 exact⟨by rw[he];exact hu,by rw[he];simp[sizeOf,typeInfo,T,ad]⟩
def Yields.slBl(ho:o.op= .slice t x (some y) none none)(hx:st.ev x= .bsl id off n cap)(hy:st.ev y= .iv (.im (.int kd j)))(hs:bH P t e k=true)
 (h0:0<=j) (h1:j<=n):Yields P c st o (.bsl id (off+j.toNat*k) (n - j.toNat) (cap - j.toNat)):=fun E a w hi=>by
 obtain⟨hu,hz⟩:=mt hs w;have h:=hi.ev x;rw[hx] at h;obtain⟨o',hq,hn,hm,T⟩:=h.bsl_inv;refine⟨_,?_,na (s:=k) C hn nR hm T⟩;have:=run_slice_l (P:=P) w t (some ⟨E.ρ id,o',none⟩) n cap hu kd j h0 h1;simp[execOp,ho,hq,hi.im hy,run_sliceAt_slice w t _ _ _ _ hu,this,hz,Result.andThen]
def Yields.slBh(ho:o.op= .slice t x none (some y) none)(hx:st.ev x= .bsl id off n cap)(hy:st.ev y= .iv (.im (.int kd j)))(hs:bH P t e k=true)
 (h0:0<=j) (h1:j<=cap):Yields P c st o (.bsl id off j.toNat cap):=fun E a w hi=>by
 obtain⟨hu,hz⟩:=mt hs w;have h:=hi.ev x;rw[hx] at h;obtain⟨o',hq,hn,hm,T⟩:=h.bsl_inv;have h2:=na (E:=E) (w:=w) (id:=id) (s:=k) (Nat.zero_le j.toNat) (by omega:j.toNat<=cap) nR hm T;simp only[Nat.zero_mul,Nat.add_zero,Nat.sub_zero] at h2;refine⟨_,?_,h2⟩;have:=run_slice_h (P:=P) w t (some ⟨E.ρ id,o',none⟩) n cap hu kd j h0 h1;simp[execOp,ho,hq,hi.im hy,run_sliceAt_slice w t _ _ _ _ hu,this,hz,Result.andThen]
def Yields.slBlh{z:Operand}{T:IntKind}{i:Int}(ho:o.op= .slice t x (some y) (some z) none)(hx:st.ev x= .bsl id off n cap)(hy:st.ev y= .iv (.im (.int kd i)))(ad:st.ev z= .iv (.im (.int T j)))
 (hs:bH P t e k=true) (h0:0<=i) (h1:i<=j) (h2:j<=cap):Yields P c st o (.bsl id (off+i.toNat*k) (j.toNat - i.toNat) (cap - i.toNat)):=fun E a w hi=>by
 obtain⟨hu,hz⟩:=mt hs w;have h:=hi.ev x;rw[hx] at h;obtain⟨o',hq,hn,hm,ar⟩:=h.bsl_inv;refine⟨_,?_,na (E:=E) (w:=w) (id:=id) (s:=k) (by omega:i.toNat<=j.toNat) (by omega:j.toNat<=cap) nR hm ar⟩;have:=run_slice_lh (P:=P) w t (some ⟨E.ρ id,o',none⟩) n cap hu kd T i j h0 h1 h2;simp[execOp,ho,hq,hi.im hy,hi.im ad,run_sliceAt_slice w t _ _ _ _ hu,this,hz,Result.andThen]
end
end
def C4.reBox{c:C7}{E:B9}{bx:List (Nat×A5)}{tk:List (Nat×C9)}{w:World}(h:C4 c E bx tk w){id:Nat}{b b':A5}(hb:bx.lookup id=some b)(ad:b.cs≠ [])(ar:b'.cs≠ [] ->BoxOk E w id b'):
 C4 c E ((id,b')::bx) tk w:=by
 have f: ∀(i:Nat) (T:A5),List.lookup i ((id,b')::bx)=some T->T.cs≠ [] -> ∃b2,bx.lookup i=some b2/\b2.cs≠ []:=fun i T h hn=>by
  by_cases e:i=id
  · subst e;exact⟨b,hb,ad⟩
  · rw[aa e] at h;exact⟨T,h,hn⟩
 refine⟨fun i T hi hn=> ?_,h.tok,fun i j T b2 hi hj hn aR he=> ?_,h.tt,fun i j T t hi hn hj=> ?_,fun i T hi hn=> ?_,h.ownt,h.new,h.old,fun i a0=> ?_,h.kept⟩
 · by_cases e:i=id
   · subst e;rw[aj] at hi;cases hi;exact ar hn
   · rw[aa e] at hi;exact h.box i T hi hn
 · obtain⟨b3,h3,n3⟩:=f i T hi hn;obtain⟨b4,h4,n4⟩:=f j b2 hj aR;exact h.bb i j b3 b4 h3 h4 n3 n4 he
 · obtain⟨b3,h3,n3⟩:=f i T hi hn;exact h.bt i j b3 t h3 n3 hj
 · obtain⟨b3,h3,n3⟩:=f i T hi hn;exact h.own i b3 h3 n3
 · obtain⟨e1,e2,e3⟩:=h.ins i a0;refine⟨e1,e2,?_⟩;by_cases e:i=id
   · subst e;rw[aj];rfl
   · rw[aa e];exact e3
def C4.turn{c:C7}{E:B9}{st:St}{w:World}(h:C4 c E st.bx st.tk w){id:Nat}(hf:st.fresh id=true)(g:Nat)(v:Value):
 C4 c ⟨E.φ,fun i=>if i=id then g else E.ρ i,fun i=>if i=id then v else E.η i⟩ st.bx st.tk w/\
  (∀(x:AV) (u:Value),AV.ment id x=false->A6 E w x u->A6 ⟨E.φ,fun i=>if i=id then g else E.ρ i,fun i=>if i=id then v else E.η i⟩ w x u):=by
 have T: ∀i,i≠id->(if i=id then g else E.ρ i)=E.ρ i:=fun i hi=>by simp[hi]
 have ad: ∀i,i≠id->(if i=id then v else E.η i)=E.η i:=fun i hi=>by simp[hi]
 have mono: ∀(x:AV) (u:Value),AV.ment id x=false->A6 E w x u->A6 ⟨E.φ,fun i=>if i=id then g else E.ρ i,fun i=>if i=id then v else E.η i⟩ w x u:=fun x u hm hr=>
  A6.mono (E:=E) (w:=w) (h:=hr) (E':=⟨E.φ,fun i=>if i=id then g else E.ρ i,fun i=>if i=id then v else E.η i⟩) (fun _ _ _=>rfl) (fun _=>Nat.le_refl _) (fun i hi=>by
   have:i≠id:=fun e=>by subst e;rw[hm] at hi;cases hi
   exact⟨T i this,ad i this⟩)
 refine⟨⟨fun i b hb hn=> ?_,fun i t ht=> ?_,fun i j b b' hi hj hn aR he=> ?_,fun i j t t' g' hi hj h1 h2=> ?_,fun i j b t hi hn hj=> ?_,fun i b hi hn=> ?_,fun j t g' hj hg=> ?_,h.new,h.old,fun i a0=> ?_,h.kept⟩,mono⟩
 · obtain⟨ar,hm⟩:=St.fresh_bx hf hb;obtain⟨h0,arr,ha,hl,h1,hr,hq⟩:=h.box i b hb hn;refine⟨by simp only[T i ar];exact h0,arr,by simp only[T i ar];exact ha,hl,h1,fun k x u hx hu=>mono x u (bA hm k x hx) (hr k x u hx hu),fun k cap he=>hq k cap (by simpa only[ad i ar] using he)⟩
 · have:=h.tok i t ht;simp only[Go.Abs.TokOk,ad i (St.fresh_tk hf ht)] at this|-;exact this
 · simp only[T i (St.fresh_bx hf hi).1,T j (St.fresh_bx hf hj).1] at he;exact h.bb i j b b' hi hj hn aR he
 · simp only[ad i (St.fresh_tk hf hi)] at h1;simp only[ad j (St.fresh_tk hf hj)] at h2;exact h.tt i j t t' g' hi hj h1 h2
 · simp only[T i (St.fresh_bx hf hi).1,ad j (St.fresh_tk hf hj)];exact h.bt i j b t hi hn hj
 · simp only[T i (St.fresh_bx hf hi).1];exact h.own i b hi hn
 · simp only[ad j (St.fresh_tk hf hj)] at hg;exact h.ownt j t g' hj hg
 · obtain⟨e1,e2,e3⟩:=h.ins i a0;obtain⟨b,hb⟩:=Option.isSome_iff_exists.1 e3;have ar:=(St.fresh_bx hf hb).1;exact⟨(T i ar).trans e1,(ad i ar).trans e2,e3⟩
section
variable {c:C7}{st:St}{X:Act->World->Prop}
def L.openRow(s:Nat){id n k m:Nat}{ty:TypeId}{xs:List IV}(hs:st.fr.lookup s=some (.bsh id 0 n k))(hb:st.bx.lookup id=some ⟨ty,.r xs m⟩)(ar:xs≠ [] \/0<m)(hl:n*k<=xs.length+m)
 (h: ∀cap,n<=cap->cap<=maxLen->L c ⟨(s,.bsl id 0 n cap)::st.fr,(id,⟨ty,.r xs (cap*k - xs.length)⟩)::st.bx,st.tk⟩ X):L c st X:=by
 rintro a w ⟨E,hi⟩;have T:(⟨ty,.r xs m⟩:A5).cs≠ []:=fun e=>by
  simp only[A5.cs_r,List.append_eq_nil_iff,List.map_eq_nil_iff,List.replicate_eq_nil_iff] at e;rcases ar with h|h
  · exact h e.1
  · omega
 obtain⟨cap,o,hq,hn,hm,he,aR⟩:=(hi.slot s _ hs).bsh_inv;obtain⟨h0,arr,ha,a0,h1,hr,ad⟩:=hi.heap.box id _ hb T;simp only[A5.cs_r,gV,lM,List.length_replicate] at a0;refine h cap C hm a w ⟨E,hi.defers,hi.size,fun s' v hv=> ?_,hi.heap.reBox hb T (fun _=>⟨h0,arr,ha,?_,h1,fun i x u hx hu=> ?_,ad⟩)⟩
 · by_cases e:s'=s
   · subst e;rw[aj] at hv;cases hv;exact .bsl (o:=o) C hm (fun h=>by rw[aR C];simp) (by rw[hq];simp)
   · rw[aa e] at hv;exact hi.slot s' v hv
 · have:=ad k cap he;simp only[A5.cs_r,gV,lM,List.length_replicate];omega
 · simp only[A5.cs_r] at hx;rw[List.getElem?_append] at hx;split at hx
   · rename_i a1;exact hr i x u (by simp only[A5.cs_r];rw[gL a1];exact hx) hu
   · simp only[List.getElem?_replicate] at hx;split at hx
     · cases hx;exact .any
     · cases hx
def cT(id:Nat){b:A5}(hb:st.bx.lookup id=some b)(T:b.cs≠ [])(h:L c ⟨st.fr,(id,⟨b.ty,.l []⟩)::st.bx,st.tk⟩ X):L c st X:=by
 rintro a w ⟨E,hi⟩;exact h a w ⟨E,hi.defers,hi.size,hi.slot,hi.heap.reBox hb T (fun h=>(h U).elim)⟩
def L.rename(s N:Nat){id n cap m:Nat}(k:Nat){ty:TypeId}{xs:List IV}(hs:st.fr.lookup s=some (.bsl id 0 n cap))(hb:st.bx.lookup id=some ⟨ty,.r xs m⟩)(hf:st.fresh N=true)(ar:xs≠ [] \/0<m)(a3:cap*k<=xs.length+m)
 (h:L c ⟨(s,.bsh N 0 n k)::st.fr,(N,⟨ty,.r (xs.take (n*k)) 0⟩)::(id,⟨ty,.l []⟩)::st.bx,st.tk⟩ X):L c st X:=by
 rintro a w ⟨E,hi⟩;have T:(⟨ty,.r xs m⟩:A5).cs≠ []:=fun e=>by
  simp only[A5.cs_r,List.append_eq_nil_iff,List.map_eq_nil_iff,List.replicate_eq_nil_iff] at e;rcases ar with h|h
  · exact h e.1
  · omega
 have aR:id≠N:=(St.fresh_bx hf hb).1;obtain⟨o,hq,hn,a0,a1⟩:=(hi.slot s _ hs).bsl_inv;obtain⟨h0,arr,ha,hl,h1,hr,a4⟩:=hi.heap.box id _ hb T;simp only[A5.cs_r,gV,lM,List.length_replicate] at hl;obtain⟨hh,mono⟩:=hi.heap.turn hf (E.ρ id) (ri k cap);have a5:(if id=N then E.ρ id else E.ρ id)=E.ρ id:=by simp
 have hk:=hh.reBox (b':=⟨ty,.l []⟩) hb T (fun h=>(h U).elim);refine h a w ⟨⟨E.φ,fun i=>if i=N then E.ρ id else E.ρ i,fun i=>if i=N then ri k cap else E.η i⟩,hi.defers,hi.size,fun s' v hv=> ?_,hk.addBox ?_ ?_ ?_ ?_ ?_⟩
 · by_cases e:s'=s
   · subst e;rw[aj] at hv;cases hv;exact .bsh (cap:=cap) (o:=o) C a0 sP (fun h=>by rw[a1 C];simp) (by rw[hq];simp)
   · rw[aa e] at hv;exact mono v _ (St.fresh_fr hf hv) (hi.slot s' v hv)
 · rw[aa (Ne.symm aR)];cases a2:st.bx.lookup N with
   |none=>rfl
   |some b1=>exact((St.fresh_bx hf a2).1 U).elim
 · refine⟨by simp only[if_true];exact h0,arr,by simp only[if_true];exact ha,?_,h1,fun i x u hx hu=> ?_,fun k' cap' he=> ?_⟩
   · simp only[A5.cs_r,gV,lM,List.length_replicate,lT];omega
   · simp only[A5.cs_r,List.replicate_zero,List.append_nil,List.map_take] at hx;rw[List.getElem?_take] at hx;split at hx
     · refine mono x u ?_ (hr i x u ?_ hu)
       · rw[gP,Option.map_eq_some_iff] at hx;obtain⟨y,_,rfl⟩:=hx;rfl
       · simp only[A5.cs_r];have:=(gS hx).1;rw[gL this];exact hx
     · cases hx
   · simp only[if_true] at he;obtain⟨rfl,rfl⟩:=mV he;omega
 · intro j b1 hj ad;by_cases e:j=id
   · subst e;rw[aj] at hj;cases hj;exact(ad U).elim
   · rw[aa e] at hj;simp only[if_true,if_neg (St.fresh_bx hf hj).1];exact fun he=>e (hi.heap.bb j id b1 _ hj hb ad T he)
 · intro j t hj;simp only[if_true,if_neg (St.fresh_tk hf hj)];exact hi.heap.bt id j _ t hb T hj
 · simp only[if_true];exact hi.heap.own id _ hb T
end
section
variable {P:Program}{c:C7}{st:St}{ops:Array Oper}{Q:Exit->Act->World->Prop}{rest:List Oper}{o:Oper}
section
variable {bytes id id' k:Nat}{cs:List AV}{d:TypeDesc}{e t t':TypeId}{i:TypeInfo}{news:List (List IV)}{x y:Operand}{z:Value}{α:Type}
def Yields.eqlNil{es:List (List IV)}(ho:o.op= .binOp .eql t x y t')(hx:(st.ev x).sl?=some es)(hy:st.ev y= .nils)(hs:bH P t e k=true)(T:es≠ []):Yields P c st o (aB false):=
 .im U fun E a w hi=>by
   obtain⟨hu,_⟩:=aH hs;have h2:=hi.ev y;rw[hy] at h2;generalize ad:a.eval y=uy at h2;cases h2;rcases((hi.ev x).sl hx).sl_inv with⟨_,rfl⟩|⟨_,_,_,_,_,rfl⟩|⟨b,o',cap,k',f,hq,_⟩
   · exact(T U).elim
   · exact(T U).elim
   · simp[execOp,ho,hq,ad,eqGuard,binOp,run_equal_slice_nil w t e _ _ _ hu]
def FW{d:Nat}(hg:o.guard=none)(hd:o.dst=some d)(ar:Nat.ble (d+1) c.nt=true)(ho:o.op= .binOp .eql t x y t')(hx:(st.ev x).sl?=some [])(hy:st.ev y= .nils)(hs:bH P t e k=true)
 (h: ∀b,L c ⟨(d,aB b)::st.fr,st.bx,st.tk⟩ (wpList P ops Q rest)):L c st (wpList P ops Q (o::rest)):=by
 rintro a w ⟨E,hi⟩;obtain⟨hu,_⟩:=aH hs;have h2:=hi.ev y;rw[hy] at h2;generalize T:a.eval y=uy at h2;cases h2;have hr: ∃b,(execOp a.eval o).run P w= .ok (.value (.bool b)) w:=by
  rcases((hi.ev x).sl hx).sl_inv with⟨hq,_⟩|⟨ad,cap,hq,_,_,_⟩|⟨b,o',cap,k',f,hq,_⟩
  · exact⟨true,by simp[execOp,ho,hq,T,eqGuard,binOp,run_equal_slice_nil w t e _ _ _ hu]⟩
  · exact⟨false,by simp[execOp,ho,hq,T,eqGuard,binOp,run_equal_slice_nil w t e _ _ _ hu]⟩
  · exact⟨false,by simp[execOp,ho,hq,T,eqGuard,binOp,run_equal_slice_nil w t e _ _ _ hu]⟩
 obtain⟨b,hr⟩:=hr;refine wpList_plain hg (fun K hK=>ek hr (hK _ _ ?_));rw[hd];exact h b _ _ ⟨E,hi.put (bT ar) (.iv (.im U))⟩
def Makes.buildBox{n:Nat}{parts:Array (Nat×Operand)}{zs:List Value}(ho:o.op= .buildSlice t n parts)(hs:bH P t e k=true)
 (hz:dy P e=some zs) (h1:zs.all (·.oneCell')=true) (a0:zs.length=k) (hn:n*k<=16777216) (a1:0<k)
 (hf:lK (fun i=>some (i*k,k)) ((List.range (n*k)).map fun i=>cy (zs.getD (i % k) undef)) (parts.toList.map fun x=>(x.1,st.ev x.2))=some cs)
 (bP:cs.length=n*k) (hm:AV.ments id cs=false) (ba:st.fresh id=true):Makes P c st o (.bsl id 0 n n) ((id,⟨e,cs⟩)::st.bx) st.tk:=fun E a w hi=>by
 obtain⟨hu,bh,ad,a5⟩:=aH hs;have bi: ∃z,bh.zero=some z/\z.cells=zs.toArray:=by
  unfold dy at hz;simp only[ad,Option.bind_some,Option.map_eq_some_iff] at hz;obtain⟨z,a2,a3⟩:=hz;exact⟨z,a2,by rw[<-a3]⟩
 obtain⟨z,a2,a3⟩:=bi;have a6: ∀i,i<n*k->zs.toArray[i % zs.toArray.size]! =zs.getD (i % k) undef:=fun i hi=>by
  have:i % k<zs.length:=by rw[a0];exact Nat.mod_lt _ a1
  simp[a0];rw[gG this];rfl
 have a4:((Array.range (n*k)).map (zs.toArray[· % zs.toArray.size]!))=((List.range (n*k)).map fun i=>zs.getD (i % k) undef).toArray:=by
  apply Array.ext';simp only[Array.toList_map,Array.toList_range];exact List.map_congr_left (fun i hi=>a6 i (List.mem_range.1 hi))
 have aR: ∀i,i<n*k->(zs.getD (i % k) undef).oneCell'=true:=fun i hi=>by
  have a7:i % k<zs.length:=by rw[a0];exact Nat.mod_lt _ a1
  have:zs.getD (i % k) undef=zs[i % k]:=by simp[a7]
  rw[this];exact aT h1 _ (List.getElem_mem a7)
 have a8:RelL E w ((List.range (n*k)).map fun i=>cy (zs.getD (i % k) undef)) ((List.range (n*k)).map fun i=>zs.getD (i % k) undef):=by
  refine⟨by simp,fun i c u hc hu=> ?_⟩;simp only[gP] at hc hu;cases hr:(List.range (n*k))[i]? with
  |none=>rw[hr] at hc;simp at hc
  |some j=>
   rw[hr] at hc hu;simp only[Option.map_some,Option.some.injEq] at hc hu;subst hc;subst hu;exact jp E w _ (aR j (List.mem_range.1 (gE hr)))
 obtain⟨arr,ha,hr,bl⟩:=qV (E:=E) (w:=w) _ (parts.map fun(i,x)=>(i,a.eval x)).toList _ _ ((List.range (n*k)).map fun i=>zs.getD (i % k) undef).toArray (by simpa using a8)
  (fun u hu=>by
    simp only[List.mem_map,List.mem_range] at hu;obtain⟨i,bm,rfl⟩:=hu;exact aR i bm)
  sP (fun n p q=>rJ hi parts n p q) hf
 refine⟨.slice (some ⟨w.heap.size,0,none⟩) n n,_,_,?_,hi.newBox ba (ty:=e) (us:=arr.toList) hr bl hm,.bsl (o:=0) nR (by have:n<=n*k:=Nat.le_mul_of_pos_right n a1;simp only[maxLen];omega) (fun _=>rfl) (by simp[B9.upd])⟩;have a9: ¬(n*k>2 ^ 24):=C;have ar:Instr.fill (fun i=>some (i*k,k)) ((Array.range (n*k)).map (zs.toArray[· % zs.toArray.size]!)) (parts.map fun(i,x)=>(i,a.eval x)).toList=some arr:=by rw[a4];exact ha
 have bp:arr.toList.toArray=arr:=by simp
 rw[bp];by_cases h0:n*k=0
 · have:n=0:=by
    rcases Nat.mul_eq_zero.1 h0 with h|h
    · exact h
    · omega
   subst this;have e0:Array.range 0= #[]:=rfl;have T:Instr.fill (fun i=>some (i*k,k)) #[] (parts.map fun(i,x)=>(i,a.eval x)).toList=some arr:=by simpa[e0] using ar
   simp only[Array.toList_map] at T;simp[execOp,ho,Instr.buildSlice,run_underlying hu,sizeOf,typeInfo,ad,a5,newRow,e0,T]
 · simp only[execOp,ho,Instr.buildSlice,Sem.run_bind,run_underlying hu,sizeOf,typeInfo,zeroValue,run_program,ad,a5,a2,a3,Result.andThen_ok,Sem.run_pure,a9,h0,if_false,ar,newRow,run_newObj,Sem.run_ite];rfl
def Inv.newRoom{E:B9}{a:Act}{w:World}(hi:Inv c E st a w){id:Nat}(hf:st.fresh id=true){ty:TypeId}{cs:List AV}{us:List Value}(v:Value)
 (hl:cs.length<=us.length) (hr: ∀(i:Nat) (x:AV) (u:Value),cs[i]?=some x->us[i]?=some u->A6 E w x u) (h1: ∀u∈us,u.oneCell'=true) (hm:AV.ments id cs=false) (hv: ∀k cap,v=ri k cap->cap*k<=us.length):
 Inv c (E.upd id w.heap.size 0 v) ⟨st.fr,(id,⟨ty,cs⟩)::st.bx,st.tk⟩ a (w.alloc (.cells us.toArray ty (0,0))):=by
 obtain⟨hh,mono⟩:=hi.heap.alloc hf (.cells us.toArray ty (0,0)) 0 v;have T:(E.upd id w.heap.size 0 v).ρ id=w.heap.size:=by simp[B9.upd]
 refine⟨hi.defers,hi.size,fun s v hv=>mono v _ (St.fresh_fr hf hv) (hi.slot s v hv),hh.addBox ?_ ?_ ?_ ?_ ?_⟩
 · cases hq:st.bx.lookup id with
   |none=>rfl
   |some b=>exact((St.fresh_bx hf hq).1 U).elim
 · refine⟨by rw[T];simp[B9.upd],us,by rw[T];exact zg w _,hl,h1,fun i x u hx hu=>mono x u (bA hm i x hx) (hr i x u hx hu),fun k cap he=>hv k cap (by simpa[B9.upd] using he)⟩
 · intro j b' hj hn;rw[T];have:(E.upd id w.heap.size 0 v).ρ j=E.ρ j:=by simp[B9.upd,(St.fresh_bx hf hj).1]
   rw[this];have:=sA (hi.heap.box j b' hj hn);omega
 · intro j t hj;rw[T];have e:(E.upd id w.heap.size 0 v).η j=E.η j:=by simp[B9.upd,St.fresh_tk hf hj]
   rw[e];intro hg;have:=jv (hi.heap.tok j t hj) hg;omega
 · rw[T];exact .inl hi.heap.kept.size
def lJ(ad:0<k): ∀(news:List (List α)) (p:Nat) (x:α),(∀e∈news,e.length=k)->news.flatten[p]?=some x-> ∃e,news[p / k]?=some e/\e[p % k]?=some x
 | [],p,x,_,h=>by simp at h
 |e::r,p,x,hn,h=>by
  have he:e.length=k:=hn e List.mem_cons_self;rw[List.flatten_cons,List.getElem?_append] at h;split at h
  · rename_i T;rw[he] at T;exact⟨e,by rw[Nat.div_eq_of_lt T];rfl,by rw[Nat.mod_eq_of_lt T];exact h⟩
  · rename_i ar;rw[he] at ar h;obtain⟨e',h1,h2⟩:=lJ ad r (p - k) x (fun e' h'=>hn e' (List.mem_cons_of_mem _ h')) h;have hp:p=(p - k)+k:=C;refine⟨e',?_,?_⟩
    · rw[hp,Nat.add_div_right _ ad];simpa using h1
    · rw[hp,Nat.add_mod_right];simpa using h2
def ao: ∀(news:List (List α)),(∀e∈news,e.length=k)->news.flatten.length=news.length*k
 | [],_=>by simp
 |e::r,hn=>by
  rw[List.flatten_cons,gV,hn e List.mem_cons_self,ao r (fun T h'=>hn T (List.mem_cons_of_mem _ h')),lC,Nat.add_mul,Nat.one_mul,Nat.add_comm]
def Makes.cloneB0
 (ho:o.op= .call {callee:= .builtin .append,args:= #[x,y],argTypes:= #[t,t']}) (ht:P.underlying t=some (.slice e)) (a8:P.info? e=some i) (a9:i.size=k) (ba:i.bytes=bytes) (bh:i.zero=some z) (a0:z.cells.size=k) (bi: ∀u∈z.cells.toList,u.oneCell'=true)
 (hd:P.underlying t'=some d) (hn:gB d) (a1:0<k) (hx: ∀(E:B9) (a:Act) (w:World),Inv c E st a w-> ∃base,a.eval x= .slice base 0 0) (a2: ∀e∈news,e.length=k) (hy:Adds P c st y k news) (bl:news≠ [])
 (hm:news.length<=maxLen) (bm:news.length*bytes<=140737488355328) (hf:st.fresh id'=true) (a3:news.flatten.map .iv=cs) (bp:AV.ments id' cs=false):
 Makes P c st o (.bsh id' 0 news.length k) ((id',⟨e,cs⟩)::st.bx) st.tk:=fun E a w hi=>by
 subst a9;subst ba;obtain⟨us,a4,a5,bP,bR⟩:=hy E a w hi;obtain⟨base,hq⟩:=hx E a w hi;have b3:0<news.length:=gU bl;have a7:news.length<=9223372036854775807:=by simp only[maxLen] at hm;omega
 have ar:(execOp a.eval o).run P w=((Builtin.append_ #[t,t'] o.type #[a.eval x,a.eval y]).run P w).andThen fun v w'=> .ok (.value v) w':=by
  simp[execOp,ho,resolve,invoke,builtin]
 have T:=wd (ty:=o.type) ht hd hn a8 bh a4 (base:=base) (n:=0) (cap:=0) (olds:= []) (by cases base<;>simp[Builtin.firstCells,loadCells,loadCellsFrom]) C C (growslice_fits C (by simpa using bm));simp only[Nat.zero_add,List.nil_append] at T;have bS:news.length<=grownCap w news.length 0 e:=grownCap_ge _ _ _ _;have bW:=grownCap_le_maxLen w news.length 0 e hm;have ad:(us++(Builtin.zeroCells z.cells (grownCap w news.length 0 e - news.length)).toList).length=grownCap w news.length 0 e*i.size:=by
  simp only[gV,a5,Array.length_toList,size_zeroCells,a0];rw[<-Nat.add_mul];congr 1;omega
 have a6:cs.length=news.length*i.size:=by rw[<-a3,lM,ao news a2]
 have b1:=hi.drew.newRoom hf (ty:=e) (cs:=cs) (us:=us++(Builtin.zeroCells z.cells (grownCap w news.length 0 e - news.length)).toList) (ri i.size (grownCap w news.length 0 e))
  (by rw[ad,a6];exact mR _ bS)
  (fun p x u hx hu=>by
    have aR:=(gS hx).1;rw[gL (by rw[a5,<-a6];exact aR)] at hu;rw[<-a3,gP,Option.map_eq_some_iff] at hx;obtain⟨x',b2,rfl⟩:=hx;obtain⟨e',h1,h2⟩:=lJ a1 news p x' a2 b2;have hp:p / i.size*i.size+p % i.size=p:=by rw[Nat.mul_comm];exact Nat.div_add_mod p i.size
    exact .iv (C8.mono (φ:=E.φ) (w:=w) (w':=w.drew) (fun _ _ _=>rfl) (fun _=>Nat.le_refl _) (bR _ e' _ x' u h1 h2 (by rw[hp];exact hu))))
  (fun u hu=>by
    rcases mA hu with hu|hu
    · exact bP u hu
    · simp only[Builtin.zeroCells,Array.toList_map,Array.toList_range,List.mem_map,List.mem_range] at hu;obtain⟨p,_,rfl⟩:=hu;have aR:p % z.cells.size<z.cells.size:=Nat.mod_lt _ (by rw[a0];exact a1);rw[getElem!_pos z.cells _ aR];exact bi _ sP)
  bp (fun k' cap' he=>by
   obtain⟨rfl,rfl⟩:=mV he;exact Nat.le_of_eq ad.symm)
 refine⟨_,_,_,?_,b1,.bsh (cap:=grownCap w news.length 0 e) (o:=0) C bW (by simp[B9.upd]) (fun _=>by simp) U⟩;rw[ar,hq,T];simp[B9.upd]
def Makes.cloneB{off:Nat}
 (ho:o.op= .call {callee:= .builtin .append,args:= #[x,y],argTypes:= #[t,t']}) (ht:P.underlying t=some (.slice e)) (T:P.info? e=some i) (ad:i.size=k) (ar:i.bytes=bytes) (aR:i.zero=some z) (a0:z.cells.size=k) (a1: ∀u∈z.cells.toList,u.oneCell'=true)
 (hd:P.underlying t'=some d) (hn:gB d) (a2:0<k) (hx:st.ev x= .bsl id off 0 0) (a3: ∀e∈news,e.length=k) (hy:Adds P c st y k news) (a4:news≠ [])
 (hm:news.length<=maxLen) (a5:news.length*bytes<=140737488355328) (hf:st.fresh id'=true) (a6:news.flatten.map .iv=cs) (a7:AV.ments id' cs=false):
 Makes P c st o (.bsh id' 0 news.length k) ((id',⟨e,cs⟩)::st.bx) st.tk:=
 Makes.cloneB0 ho ht T ad ar aR a0 a1 hd hn a2 (fun E a w hi=>by
  have h:=hi.ev x;rw[hx] at h;obtain⟨o',hq,_⟩:=h.bsl_inv;exact⟨_,hq⟩) a3 hy a4 hm a5 hf a6 a7
end
end
end Go.Abs
