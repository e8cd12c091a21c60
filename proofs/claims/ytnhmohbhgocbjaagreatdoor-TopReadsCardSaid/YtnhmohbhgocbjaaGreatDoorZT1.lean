/- Lemmas towards the law. Conditions: each one says its own. -/
import Derived.WalkKit
import Derived.Orders
import Derived.Below
import Derived.Deep.DeepAppendWide
set_option linter.all false
set_option maxHeartbeats 64000000
set_option maxRecDepth 100000
namespace Go.Abs
def C{p:Prop}(h:p:=by omega):p:=h
def dD{p:Prop}(h:p:=by decide):p:=h
def U.{u}{α:Sort u}{a:α}:a=a:=rfl
def oD{p:Prop}(h:p:=by dsimp only;omega):p:=h
def oO{p:Prop}(h:p:=by simp[Op.operands,Call.operands]):p:=h
def kR{p:Prop}(h:p:=by kernel_rfl):p:=h
def nR{n:Nat}:n≤n:=Nat.le_refl n
def oM{p:Prop}(h:p:=by rw[List.length_map];omega):p:=h
def sP{p:Prop}(h:p:=by simp):p:=h
def gS{α:Type}{l:List α}{i:Nat}{a:α}(h:l[i]?=some a): ∃k:i<l.length,l[i] =a:=List.getElem?_eq_some_iff.1 h
def gO{α:Type}{l:List α}{i:Nat}(h:l[i]?=none):l.length≤i:=List.getElem?_eq_none_iff.1 h
def gE{α:Type}{l:List α}{i:Nat}{a:α}(h:l[i]?=some a):a∈l:=List.mem_of_getElem? h
def mM{α:Type}{β:Type}{f:α→β}{l:List α}{b:β}(h:b∈l.map f): ∃a,a∈l∧f a=b:=List.mem_map.1 h
def mA{α:Type}{s t:List α}{a:α}(h:a∈s++t):a∈s∨a∈t:=List.mem_append.1 h
def gU{α:Type}{l:List α}(h:l≠ []):0<l.length:=List.length_pos_iff.2 h
def mT{α:Type}{a:α}{n:Nat}{l:List α}(h:a∈l.take n):a∈l:=List.mem_of_mem_take h
def mD{α:Type}{a:α}{n:Nat}{l:List α}(h:a∈l.drop n):a∈l:=List.mem_of_mem_drop h
def tL{α:Type}{n:Nat}{l:List α}(h:l.length≤n):l.take n=l:=List.take_of_length_le h
def dL{α:Type}{l:List α}{n:Nat}(h:l.length≤n):l.drop n= []:=List.drop_eq_nil_of_le h
def nZ{α:Type}{l:List α}(h:l.length=0):l= []:=List.eq_nil_of_length_eq_zero h
def gL{α:Type}{l t:List α}{n:Nat}(h:n<l.length):(l++t)[n]?=l[n]?:=List.getElem?_append_left h
def gG{α:Type}{l:List α}{n:Nat}(h:n<l.length):l[n]?=some l[n]:=List.getElem?_eq_getElem h
def tA{α:Type}{l t:List α}{n:Nat}(h:n≤l.length):(l++t).take n=l.take n:=List.take_append_of_le_length h
def bT{n m:Nat}(h:Nat.ble n m=true):n≤m:=Nat.le_of_ble_eq_true h
def mR{m n:Nat}(k:Nat)(h:m≤n):m*k≤n*k:=Nat.mul_le_mul_right k h
def aT{α:Type}{p:α→Bool}{l:List α}(h:l.all p=true): ∀x,x∈l→p x=true:=List.all_eq_true.1 h
def cN{α:Type}(a:α)(l:List α):a::l≠ []:=List.cons_ne_nil a l
def lM{α:Type}{β:Type}{as:List α}(f:α→β):(as.map f).length=as.length:=List.length_map f
def gP{α:Type}{β:Type}{f:α→β}{l:List α}{i:Nat}:(l.map f)[i]?=Option.map f l[i]?:=List.getElem?_map
def gV{α:Type}{as bs:List α}:(as++bs).length=as.length+bs.length:=List.length_append
def lT{α:Type}{i:Nat}{l:List α}:(l.take i).length=min i l.length:=List.length_take
def lD{α:Type}{i:Nat}{l:List α}:(l.drop i).length=l.length - i:=List.length_drop
def pA{α:Type}{β:Type}{f:α→β}{l₁ l₂:List α}:(l₁++l₂).map f=l₁.map f++l₂.map f:=List.map_append
def iN(n:Nat):((n:Nat):Int).toNat=n:=Int.toNat_natCast n
def aE(a b:Bool):((a && b)=true)=(a=true∧b=true):=Bool.and_eq_true a b
def lC{α:Type}{a:α}{as:List α}:(a::as).length=as.length+1:=List.length_cons
end Go.Abs
namespace Go.Abs
open Go.RowKit (Below)
inductive IV where
 |im (v:Value)
 |sl (es:List (List IV))
inductive RepI (φ:Nat→Nat) (w:World):IV→Value→Prop
 |im {v:Value} (h:v.oneCell'=true):RepI φ w (.im v) v
 |emp {a:Option Addr} {cap:Nat} (hn:a=none→cap=0) (hm:cap≤maxLen):RepI φ w (.sl []) (.slice a 0 cap)
 |sl {es:List (List IV)} {b o cap k:Nat} (f:Nat→Nat→Value) (hc:es.length≤cap) (hm:cap≤maxLen)
   (hk: ∀(i:Nat) (e:List IV),es[i]?=some e→e.length=k)
   (hφ: ∀(i:Nat) (e:List IV) (j:Nat) (x:IV),es[i]?=some e→e[j]?=some x→o+i*k+j<φ b)
   (hcell: ∀(i:Nat) (e:List IV) (j:Nat) (x:IV),es[i]?=some e→e[j]?=some x→w.cell? ⟨b,o+i*k+j,none⟩=some (f i j))
   (hrep: ∀(i:Nat) (e:List IV) (j:Nat) (x:IV),es[i]?=some e→e[j]?=some x→RepI φ w x (f i j)):
   RepI φ w (.sl es) (.slice (some ⟨b,o,none⟩) es.length cap)
def RepI.nil{φ:Nat→Nat}{w:World}:RepI φ w (.sl []) (.slice none 0 0):= .emp (fun _=>rfl) (Nat.zero_le _)
def RepI.oneCell{φ:Nat→Nat}{w:World}{x:IV}{v:Value}(h:RepI φ w x v):v.oneCell'=true:=by
 cases h<;>first|assumption|rfl
def RepI.im_eq{φ:Nat→Nat}{w:World}{v u:Value}(h:RepI φ w (.im v) u):u=v:=by
 cases h;rfl
def Keeps(φ:Nat→Nat)(w w':World):Prop:= ∀b o,o<φ b→w'.cell? ⟨b,o,none⟩=w.cell? ⟨b,o,none⟩
def RepI.mono{φ φ':Nat→Nat}{w w':World}(hk:Keeps φ w w')(hφ: ∀b,φ b≤φ' b){x:IV}{v:Value}(h:RepI φ w x v):RepI φ' w' x v:=by
 induction h with
 |im h=>exact .im h
 |emp hn hm=>exact .emp hn hm
 |sl f hc hm hkk hph hcell _ ih=>
  exact .sl f hc hm hkk (fun i e j x h1 h2=>Nat.lt_of_lt_of_le (hph i e j x h1 h2) (hφ _))
   (fun i e j x h1 h2=>(hk _ _ (hph i e j x h1 h2)).trans (hcell i e j x h1 h2)) ih
inductive AV where
 |any
 |iv (x:IV)
 |nils
 |emp
 |row (id:Nat) (es:List (List IV))
 |ptr (id off:Nat)
 |bsl (id off n cap:Nat)
 |bsh (id off n k:Nat)
 |el (cs:List IV)
 |agg (cs:List AV)
 |tup (vs:List AV)
 |fn (f:FuncId) (caps:List AV)
 |opt (c:Bool) (v:AV)
def rB(k cap:Nat):Value:= .tuple #[.int .i64 k,.int .i64 cap]
def na{k cap k' cap':Nat}(h:rB k cap=rB k' cap'):k=k'∧cap=cap':=by
 simp only[rB,Value.tuple.injEq,Array.mk.injEq,List.cons.injEq,Value.int.injEq,true_and,and_true] at h;omega
structure Env where
 φ:Nat→Nat
 ρ:Nat→Nat
 η:Nat→Value
inductive RepA (E:Env) (w:World):AV→Value→Prop
 |any {u:Value}:RepA E w .any u
 |iv {x:IV} {u:Value} (h:RepI E.φ w x u):RepA E w (.iv x) u
 |nils:RepA E w .nils (.slice none 0 0)
 |emp {a:Option Addr} {u:Value} (hu:u= .slice a 0 0):RepA E w .emp u
 |row {id:Nat} {es:List (List IV)} {u:Value} (hu:u=E.η id) (h:RepI E.φ w (.sl es) u):RepA E w (.row id es) u
 |ptr {id off:Nat} {u:Value} (hu:u= .pointer (some ⟨E.ρ id,off,none⟩)):RepA E w (.ptr id off) u
 |bsl {id off n cap o:Nat} {u:Value} (hn:n≤cap) (hm:cap≤maxLen) (ho:cap≠0→o=off) (hu:u= .slice (some ⟨E.ρ id,o,none⟩) n cap):RepA E w (.bsl id off n cap) u
 |bsh {id off n k cap o:Nat} {u:Value} (hn:off+n≤cap) (hm:cap≤maxLen) (he:E.η id=rB k cap) (ho:cap - off≠0→o=off*k) (hu:u= .slice (some ⟨E.ρ id,o,none⟩) n (cap - off)):RepA E w (.bsh id off n k) u
 |el {cs:List IV} {b o:Nat} (f:Nat→Value) (hc: ∀(j:Nat) (x:IV),cs[j]?=some x→o+j<E.φ b∧w.cell? ⟨b,o+j,none⟩=some (f j))
   (hr: ∀(j:Nat) (x:IV),cs[j]?=some x→RepI E.φ w x (f j)):RepA E w (.el cs) (.pointer (some ⟨b,o,none⟩))
 |agg {cs:List AV} {us:List Value} (hl:us.length=cs.length) (h1: ∀u∈us,u.oneCell'=true)
   (h: ∀(i:Nat) (c:AV) (u:Value),cs[i]?=some c→us[i]?=some u→RepA E w c u):RepA E w (.agg cs) (.agg us.toArray)
 |tup {cs:List AV} {us:List Value} (hl:us.length=cs.length)
   (h: ∀(i:Nat) (c:AV) (u:Value),cs[i]?=some c→us[i]?=some u→RepA E w c u):RepA E w (.tup cs) (.tuple us.toArray)
 |fn {f:FuncId} {caps:List AV} {us:List Value} (hl:us.length=caps.length)
   (h: ∀(i:Nat) (c:AV) (u:Value),caps[i]?=some c→us[i]?=some u→RepA E w c u):RepA E w (.fn f caps) (.func (.func f) #[] us.toArray)
 |optT {v:AV} {u:Value} (h:RepA E w v u):RepA E w (.opt true v) u
 |optF {v:AV}:RepA E w (.opt false v) undef
mutual
def AV.ment(id:Nat):AV→Bool
 | .any| .iv _| .nils| .emp| .el _=>false
 | .row i _=>i==id
 | .ptr i _=>i==id
 | .bsl i _ _ _=>i==id
 | .bsh i _ _ _=>i==id
 | .agg cs=>AV.ments id cs
 | .tup cs=>AV.ments id cs
 | .fn _ cs=>AV.ments id cs
 | .opt _ v=>AV.ment id v
def AV.ments(id:Nat):List AV→Bool
 | [] =>false
 |c::cs=>AV.ment id c||AV.ments id cs
end
section
variable {E:Env}{id n off:Nat}{u:Value}{v:AV}{w w':World}
def bB: ∀{cs:List AV},AV.ments id cs=false→ ∀(i:Nat) (c:AV),cs[i]?=some c→AV.ment id c=false
 | [],_,i,c,h=>by simp at h
 |d::cs,hm,0,c,h=>by
  simp only[AV.ments,Bool.or_eq_false_iff] at hm;simp at h;subst h;exact hm.1
 |d::cs,hm,i+1,c,h=>by
  simp only[AV.ments,Bool.or_eq_false_iff] at hm;exact bB hm.2 i c (by simpa using h)
def RepA.mono{E':Env}(hk:Keeps E.φ w w')(hφ: ∀b,E.φ b≤E'.φ b){v:AV}{u:Value}(h:RepA E w v u):
 (∀id,AV.ment id v=true→E'.ρ id=E.ρ id∧E'.η id=E.η id)→RepA E' w' v u:=by
 induction h with
 |any=>exact fun _=> .any
 |iv h=>exact fun _=> .iv (h.mono hk hφ)
 |nils=>exact fun _=> .nils
 |emp hu=>exact fun _=> .emp hu
 |row hu h=>exact fun hm=> .row (by rw[hu];exact(hm _ (by simp[AV.ment])).2.symm) (h.mono hk hφ)
 |ptr hu=>exact fun hm=> .ptr (by rw[hu,(hm _ (by simp[AV.ment])).1])
 |bsl hn hx ho hu=>exact fun hm=> .bsl hn hx ho (by rw[hu,(hm _ (by simp[AV.ment])).1])
 |bsh hn hx he ho hu=>exact fun hm=> .bsh hn hx (by rw[(hm _ (by simp[AV.ment])).2];exact he) ho (by rw[hu,(hm _ (by simp[AV.ment])).1])
 |el f hc hr=>exact fun _=> .el f (fun j x hx=>⟨Nat.lt_of_lt_of_le (hc j x hx).1 (hφ _),(hk _ _ (hc j x hx).1).trans (hc j x hx).2⟩) (fun j x hx=>(hr j x hx).mono hk hφ)
 |agg hl h1 _ ih=>
  refine fun hm=> .agg hl h1 (fun i c u hc hu=>ih i c u hc hu (fun id hid=>hm id ?_))
  cases hq:AV.ment id (.agg _) with
  |true=>rfl
  |false=>simp only[AV.ment] at hq;rw[bB hq i c hc] at hid;cases hid
 |tup hl _ ih=>
  refine fun hm=> .tup hl (fun i c u hc hu=>ih i c u hc hu (fun id hid=>hm id ?_))
  cases hq:AV.ment id (.tup _) with
  |true=>rfl
  |false=>simp only[AV.ment] at hq;rw[bB hq i c hc] at hid;cases hid
 |fn hl _ ih=>
  refine fun hm=> .fn hl (fun i c u hc hu=>ih i c u hc hu (fun id hid=>hm id ?_))
  cases hq:AV.ment id (.fn _ _) with
  |true=>rfl
  |false=>simp only[AV.ment] at hq;rw[bB hq i c hc] at hid;cases hid
 |optT h ih=>exact fun hm=> .optT (ih (fun id hid=>hm id (by simpa[AV.ment] using hid)))
 |optF=>exact fun _=> .optF
def RepA.keep(hk:Keeps E.φ w w'){v:AV}{u:Value}(h:RepA E w v u):RepA E w' v u:=
 h.mono hk (fun _=>Nat.le_refl _) (fun _ _=>⟨rfl,rfl⟩)
def RepA.iv_im{v:Value}(h:RepA E w (.iv (.im v)) u):u=v:=by
 cases h with|iv h=>exact h.im_eq
def RepA.iv_inv{x:IV}(h:RepA E w (.iv x) u):RepI E.φ w x u:=by
 cases h with|iv h=>exact h
def RepA.bsl_inv{cap:Nat}(h:RepA E w (.bsl id off n cap) u): ∃o,u= .slice (some ⟨E.ρ id,o,none⟩) n cap∧n≤cap∧cap≤maxLen∧(cap≠0→o=off):=by
 cases h with|bsl hn hm ho h=>exact⟨_,h,hn,hm,ho⟩
def RepA.bsh_inv{k:Nat}(h:RepA E w (.bsh id off n k) u): ∃cap o,u= .slice (some ⟨E.ρ id,o,none⟩) n (cap - off)∧off+n≤cap∧cap≤maxLen∧E.η id=rB k cap∧(cap - off≠0→o=off*k):=by
 cases h with|bsh hn hm he ho h=>exact⟨_,_,h,hn,hm,he,ho⟩
def RepA.ptr_inv(h:RepA E w (.ptr id off) u):u= .pointer (some ⟨E.ρ id,off,none⟩):=by
 cases h with|ptr h=>exact h
def AV.one:AV→Bool
 | .agg _| .tup _| .any| .opt _ _=>false
 |_=>true
def RepA.oneCell(h:RepA E w v u)(h1:v.one=true):u.oneCell'=true:=by
 cases h with
 |iv h=>exact h.oneCell
 |nils=>rfl
 |emp hu=>subst hu;rfl
 |row hu h=>exact h.oneCell
 |ptr hu=>subst hu;rfl
 |bsl hn hx ho hu=>subst hu;rfl
 |bsh hn hx he ho hu=>subst hu;rfl
 |el=>rfl
 |fn=>rfl
 |_=>simp[AV.one] at h1
def AV.cells:AV→List AV
 | .agg cs=>cs
 |v=> [v]
def RepA.cells(h:RepA E w v u)(h1:v.one=true∨ ∃cs,v= .agg cs):
 u.cells.toList.length=v.cells.length∧(∀x∈u.cells.toList,x.oneCell'=true)∧
   ∀(i:Nat) (c:AV) (x:Value),v.cells[i]?=some c→u.cells.toList[i]?=some x→RepA E w c x:=by
 rcases h1 with h1|⟨cs,rfl⟩
 · have ho:=h.oneCell h1;have e1:u.cells= #[u]:=by cases u<;>first|rfl|simp[Value.oneCell'] at ho
   have e2:v.cells= [v]:=by cases v<;>first|rfl|simp[AV.one] at h1
   rw[e1,e2];refine⟨by simp,by simpa using ho,fun i c x hc hx=> ?_⟩;cases i with
   |zero=>simp at hc hx;subst hc;subst hx;exact h
   |succ i=>simp at hc
 · cases h with
   |agg hl h1 h=>exact⟨by simpa[AV.cells,Value.cells] using hl,by simpa[Value.cells] using h1,fun i c x hc hx=>h i c x hc (by simpa[Value.cells] using hx)⟩
end
end Go.Abs
namespace Go.Abs
class Dr where
 p:Prop
instance (priority:=low) noDr:Dr:=⟨False⟩
variable [Dr]
open Go.RowKit (Below)
inductive Cells where
 |l (cs:List AV)
 |r (xs:List IV) (m:Nat)
def Cells.list:Cells→List AV
 | .l cs=>cs
 | .r xs m=>xs.map .iv++List.replicate m .any
instance:Coe (List AV) Cells:=⟨.l⟩
structure Box where
 ty:TypeId
 c:Cells
def Box.cs(b:Box):List AV:=b.c.list
@[simp] def Box.cs_l(ty:TypeId)(cs:List AV):(Box.mk ty (.l cs)).cs=cs:=rfl
@[simp] def Box.cs_r(ty:TypeId)(xs:List IV)(m:Nat):(Box.mk ty (.r xs m)).cs=xs.map .iv++List.replicate m .any:=rfl
def Box.ment(id:Nat)(b:Box):Bool:=
 match b.c with
 | .l cs=>AV.ments id cs
 | .r _ _=>false
def pz{id:Nat}: ∀{l m:List AV},AV.ments id l=false→AV.ments id m=false→AV.ments id (l++m)=false
 | [],m,_,h=>h
 |x::l,m,h,h'=>by
  simp only[AV.ments,Bool.or_eq_false_iff] at h;simp only[List.cons_append,AV.ments,Bool.or_eq_false_iff];exact⟨h.1,pz h.2 h'⟩
def gg(id:Nat): ∀xs:List IV,AV.ments id (xs.map .iv)=false
 | [] =>rfl
 |x::xs=>by simp[AV.ments,AV.ment,gg id xs]
def sn(id:Nat): ∀m:Nat,AV.ments id (List.replicate m .any)=false
 |0=>rfl
 |m+1=>by simp[List.replicate_succ,AV.ments,AV.ment,sn id m]
def Box.ment_eq(id:Nat)(b:Box):b.ment id=AV.ments id b.cs:=by
 obtain⟨ty,c⟩:=b;cases c with
 |l cs=>rfl
 |r xs m=>exact(pz (gg id xs) (sn id m)).symm
structure Tok where
 ty:TypeId
 k:Nat
structure St where
 fr:List (Nat×AV)
 bx:List (Nat×Box)
 tk:List (Nat×Tok)
structure Ctx where
 nt:Nat
 w0:World
 E0:Env
 ins:List Nat
def Ctx.M(c:Ctx)(g:Nat):Prop:= ∃id∈c.ins,c.E0.ρ id=g∧c.E0.φ g=0
def BoxOk(E:Env)(w:World)(id:Nat)(b:Box):Prop:=
 E.φ (E.ρ id)=0∧ ∃arr:List Value,w.heap[E.ρ id]?=some (.cells arr.toArray b.ty (0,0))∧b.cs.length≤arr.length∧(∀u∈arr,u.oneCell'=true)∧
   (∀(i:Nat) (c:AV) (u:Value),b.cs[i]?=some c→arr[i]?=some u→RepA E w c u)∧ ∀k cap,E.η id=rB k cap→cap*k≤arr.length
def TokOk(E:Env)(w:World)(id:Nat)(t:Tok):Prop:=
 E.η id= .slice none 0 0∨
 ∃(g n cap:Nat) (cur:Array Value),E.η id= .slice (some ⟨g,0,none⟩) n cap∧w.heap[g]?=some (.cells cur t.ty (0,0))∧n≤cap∧cap≤maxLen∧
  cap*t.k≤cur.size∧E.φ g≤n*t.k
structure KeptBut (M:Nat→Prop) (w w':World):Prop where
 os:w'.os=w.os
 tape:w'.tape=w.tape
 output:w'.output=w.output
 size:w.heap.size≤w'.heap.size
 block: ∀k,k<w.heap.size→ ¬M k→w'.heap[k]?=w.heap[k]?
 drawn:Dr.p→w.drawn≤w'.drawn
def KeptBut.refl(M:Nat→Prop)(w:World):KeptBut M w w:=⟨rfl,rfl,rfl,Nat.le_refl _,fun _ _ _=>rfl,fun _=>Nat.le_refl _⟩
def nL{M:Nat→Prop}{w w':World}(h:Below w.heap.size w w')(hd:Dr.p→w.drawn≤w'.drawn:=by exact fun h=>False.elim h):KeptBut M w w':=⟨h.os,h.tape,h.output,h.size,fun k hk _=>h.block k hk,hd⟩
def KeptBut.next{M:Nat→Prop}{w0 w w':World}(h:KeptBut M w0 w)(os:w'.os=w.os)(tape:w'.tape=w.tape)(output:w'.output=w.output)(size:w.heap.size≤w'.heap.size)
 (block: ∀k,k<w0.heap.size→ ¬M k→w'.heap[k]?=w.heap[k]?) (drawn:Dr.p→w.drawn≤w'.drawn:=by intro _;first|exact Nat.le_refl _|exact Nat.le_succ _):KeptBut M w0 w':=
 ⟨os.trans h.os,tape.trans h.tape,output.trans h.output,Nat.le_trans h.size size,fun k hk hm=>(block k hk hm).trans (h.block k hk hm),fun hp=>Nat.le_trans (h.drawn hp) (drawn hp)⟩
structure HInv (c:Ctx) (E:Env) (bx:List (Nat×Box)) (tk:List (Nat×Tok)) (w:World):Prop where
 box: ∀(id:Nat) (b:Box),bx.lookup id=some b→b.cs≠ [] →BoxOk E w id b
 tok: ∀(id:Nat) (t:Tok),tk.lookup id=some t→TokOk E w id t
 bb: ∀(i j:Nat) (b b':Box),bx.lookup i=some b→bx.lookup j=some b'→b.cs≠ [] →b'.cs≠ [] →E.ρ i=E.ρ j→i=j
 tt: ∀(i j:Nat) (t t':Tok) (g:Nat),tk.lookup i=some t→tk.lookup j=some t'→(E.η i).ownBlock=some g→(E.η j).ownBlock=some g→i=j
 bt: ∀(i j:Nat) (b:Box) (t:Tok),bx.lookup i=some b→b.cs≠ [] →tk.lookup j=some t→(E.η j).ownBlock≠some (E.ρ i)
 own: ∀(i:Nat) (b:Box),bx.lookup i=some b→b.cs≠ [] →c.w0.heap.size≤E.ρ i∨c.M (E.ρ i)
 ownt: ∀(j:Nat) (t:Tok) (g:Nat),tk.lookup j=some t→(E.η j).ownBlock=some g→c.w0.heap.size≤g
 new: ∀b,w.heap.size≤b→E.φ b=0
 old: ∀b,b<c.w0.heap.size→E.φ b=c.E0.φ b
 ins: ∀id∈c.ins,E.ρ id=c.E0.ρ id∧E.η id=c.E0.η id∧(bx.lookup id).isSome=true
 kept:KeptBut c.M c.w0 w
structure Inv (c:Ctx) (E:Env) (st:St) (a:Act) (w:World):Prop where
 defers:a.defers= []
 size:a.tmps.size=c.nt
 slot: ∀(s:Nat) (v:AV),st.fr.lookup s=some v→RepA E w v (a.tmps.getD s undef)
 heap:HInv c E st.bx st.tk w
def R(c:Ctx)(st:St)(a:Act)(w:World):Prop:= ∃E,Inv c E st a w
def L(c:Ctx)(st:St)(X:Act→World→Prop):Prop:= ∀a w,R c st a w→X a w
def Sub(v v':AV):Prop:= ∀(E:Env) (w:World) (u:Value),RepA E w v u→RepA E w v' u
def Sub.refl(v:AV):Sub v v:=fun _ _ _ h=>h
def Sub.any(v:AV):Sub v .any:=fun _ _ _ _=> .any
def Sub.row(id:Nat)(es:List (List IV)):Sub (.row id es) (.iv (.sl es)):=fun _ _ _ h=>by cases h with|row hu h=>exact .iv h
def Sub.nils:Sub .nils (.iv (.sl [])):=fun _ _ _ h=>by cases h;exact .iv .nil
def Sub.emp:Sub .emp (.iv (.sl [])):=fun _ _ _ h=>by
 cases h with
 |emp hu=>subst hu;exact .iv (.emp (fun _=>rfl) (Nat.zero_le _))
def Sub.nilsEmp:Sub .nils .emp:=fun _ _ _ h=>by cases h;exact .emp U
def Sub.trans{a b c:AV}(h:Sub a b)(k:Sub b c):Sub a c:=fun E w u x=>k E w u (h E w u x)
def Subs(l l':List AV):Prop:=l'.length=l.length∧ ∀(i:Nat) (x y:AV),l[i]?=some x→l'[i]?=some y→Sub x y
def Subs.nil:Subs [] []:=⟨rfl,fun i x y h=>by simp at h⟩
def Subs.cons{x y:AV}{l l':List AV}(h:Sub x y)(t:Subs l l'):Subs (x::l) (y::l'):=
 ⟨by simp[t.1],fun i a b ha hb=>by
   cases i with
   |zero=>simp at ha hb;subst ha;subst hb;exact h
   |succ i=>exact t.2 i a b (by simpa using ha) (by simpa using hb)⟩
def Subs.refl(l:List AV):Subs l l:=⟨rfl,fun i x y h1 h2=>by rw[h1] at h2;cases h2;exact Sub.refl _⟩
def Subs.ne{l l':List AV}(h:Subs l l')(hn:l'≠ []):l≠ []:=fun e=>by
 have:=h.1;rw[e] at this;exact hn (nZ (by simpa using this))
def Sub.agg{l l':List AV}(h:Subs l l'):Sub (.agg l) (.agg l'):=fun E w u x=>by
 cases x with
 |agg hl h1 hr=>
  refine .agg (by rw[hl,h.1]) h1 (fun i c u hc hu=> ?_);have hi:i<l.length:=by
   have:=(gS hc).1;rw[h.1] at this;exact this
  exact h.2 i _ _ (gG hi) hc E w u (hr i _ u (gG hi) hu)
def Sub.tup{l l':List AV}(h:Subs l l'):Sub (.tup l) (.tup l'):=fun E w u x=>by
 cases x with
 |tup hl hr=>
  refine .tup (by rw[hl,h.1]) (fun i c u hc hu=> ?_);have hi:i<l.length:=by
   have:=(gS hc).1;rw[h.1] at this;exact this
  exact h.2 i _ _ (gG hi) hc E w u (hr i _ u (gG hi) hu)
def AV.pub:AV→AV
 | .row _ es=> .iv (.sl es)
 | .nils=> .iv (.sl [])
 | .emp=> .iv (.sl [])
 | .agg cs=> .agg (pubs cs)
 |v=>v
 where pubs:List AV→List AV
  | [] => []
  |c::cs=>AV.pub c::pubs cs
mutual
def Sub.pub: ∀v:AV,Sub v v.pub
 | .row id es=>Sub.row id es
 | .nils=>Sub.nils
 | .emp=>Sub.emp
 | .agg cs=>Sub.agg (Subs.pubs cs)
 | .any=>Sub.refl _
 | .iv _=>Sub.refl _
 | .ptr _ _=>Sub.refl _
 | .bsl _ _ _ _=>Sub.refl _
 | .bsh _ _ _ _=>Sub.refl _
 | .el _=>Sub.refl _
 | .tup _=>Sub.refl _
 | .fn _ _=>Sub.refl _
 | .opt _ _=>Sub.refl _
def Subs.pubs: ∀l:List AV,Subs l (AV.pub.pubs l)
 | [] =>Subs.nil
 |c::cs=>Subs.cons (Sub.pub c) (Subs.pubs cs)
end
structure Wk (c:Ctx) (st st':St):Prop where
 ins: ∀id∈c.ins,(st'.bx.lookup id).isSome=true
 fr: ∀(s:Nat) (v:AV),st'.fr.lookup s=some v→ ∃v0,st.fr.lookup s=some v0∧Sub v0 v
 bx: ∀(id:Nat) (b:Box),st'.bx.lookup id=some b→ ∃b0,st.bx.lookup id=some b0∧b0.ty=b.ty∧Subs b0.cs b.cs
 tk: ∀(id:Nat) (t:Tok),st'.tk.lookup id=some t→st.tk.lookup id=some t
def BoxOk.sub{E:Env}{w:World}{id:Nat}{b b':Box}(h:BoxOk E w id b)(ht:b.ty=b'.ty)(hs:Subs b.cs b'.cs):BoxOk E w id b':=by
 obtain⟨h0,arr,ha,hl,h1,hr,hη⟩:=h;refine⟨h0,arr,by rw[←ht];exact ha,by rw[hs.1];exact hl,h1,fun i c u hc hu=> ?_,hη⟩;have hi:i<b.cs.length:=by
  have:=(gS hc).1;rw[hs.1] at this;exact this
 exact hs.2 i _ _ (gG hi) hc E w u (hr i _ u (gG hi) hu)
def HInv.wk{c:Ctx}{E:Env}{w:World}{st st':St}(h:HInv c E st.bx st.tk w)(hw:Wk c st st'):HInv c E st'.bx st'.tk w where
 box id b hb hn:=by obtain⟨b0,h0,ht,hs⟩:=hw.bx id b hb;exact(h.box id b0 h0 (hs.ne hn)).sub ht hs
 tok id t ht:=h.tok id t (hw.tk id t ht)
 bb i j b b' hi hj hn hn' he:=by
  obtain⟨b0,h0,_,hs⟩:=hw.bx i b hi;obtain⟨b1,h1,_,hs'⟩:=hw.bx j b' hj;exact h.bb i j b0 b1 h0 h1 (hs.ne hn) (hs'.ne hn') he
 tt i j t t' g hi hj:=h.tt i j t t' g (hw.tk i t hi) (hw.tk j t' hj)
 bt i j b t hi hn hj:=by
  obtain⟨b0,h0,_,hs⟩:=hw.bx i b hi;exact h.bt i j b0 t h0 (hs.ne hn) (hw.tk j t hj)
 own i b hi hn:=by obtain⟨b0,h0,_,hs⟩:=hw.bx i b hi;exact h.own i b0 h0 (hs.ne hn)
 ownt j t g hj:=h.ownt j t g (hw.tk j t hj)
 new:=h.new
 old:=h.old
 ins id hid:=⟨(h.ins id hid).1,(h.ins id hid).2.1,hw.ins id hid⟩
 kept:=h.kept
def R.wk{c:Ctx}{st st':St}{a:Act}{w:World}(h:R c st a w)(hw:Wk c st st'):R c st' a w:=by
 obtain⟨E,hi⟩:=h;exact⟨E,hi.defers,hi.size,fun s v hv=>by obtain⟨v0,h0,hs⟩:=hw.fr s v hv;exact hs E w _ (hi.slot s v0 h0),hi.heap.wk hw⟩
def L.wk{c:Ctx}{st st':St}{X:Act→World→Prop}(hw:Wk c st st')(h:L c st' X):L c st X:=fun a w hr=>h a w (hr.wk hw)
inductive WkF (fr:List (Nat×AV)):List (Nat×AV)→Prop
 |nil:WkF fr []
 |cons {s:Nat} {v v0:AV} {r:List (Nat×AV)} (h:fr.lookup s=some v0) (hs:Sub v0 v) (t:WkF fr r):WkF fr ((s,v)::r)
inductive WkB (bx:List (Nat×Box)):List (Nat×Box)→Prop
 |nil:WkB bx []
 |cons {id:Nat} {b:Box} {b0:Box} {r:List (Nat×Box)} (h:bx.lookup id=some b0) (ht:b0.ty=b.ty) (hs:Subs b0.cs b.cs) (t:WkB bx r):WkB bx ((id,b)::r)
inductive WkT (tk:List (Nat×Tok)):List (Nat×Tok)→Prop
 |nil:WkT tk []
 |cons {id:Nat} {t:Tok} {r:List (Nat×Tok)} (h:tk.lookup id=some t) (l:WkT tk r):WkT tk ((id,t)::r)
def WkF.get{fr fr':List (Nat×AV)}(h:WkF fr fr'): ∀(s:Nat) (v:AV),fr'.lookup s=some v→ ∃v0,fr.lookup s=some v0∧Sub v0 v:=by
 induction h with
 |nil=>intro s v h;simp at h
 | @cons s0 v1 v0 r h hs _ ih=>
   intro s v hl;by_cases e:s=s0
   · subst e;simp[List.lookup] at hl;subst hl;exact⟨v0,h,hs⟩
   · have e':(s==s0)=false:=by simpa using e
     exact ih s v (by simpa[List.lookup,e'] using hl)
def WkB.get{bx bx':List (Nat×Box)}(h:WkB bx bx'): ∀(s:Nat) (v:Box),bx'.lookup s=some v→ ∃v0,bx.lookup s=some v0∧v0.ty=v.ty∧Subs v0.cs v.cs:=by
 induction h with
 |nil=>intro s v h;simp at h
 | @cons s0 v1 v0 r h ht hs _ ih=>
   intro s v hl;by_cases e:s=s0
   · subst e;simp[List.lookup] at hl;subst hl;exact⟨v0,h,ht,hs⟩
   · have e':(s==s0)=false:=by simpa using e
     exact ih s v (by simpa[List.lookup,e'] using hl)
def WkT.get{tk tk':List (Nat×Tok)}(h:WkT tk tk'): ∀(s:Nat) (v:Tok),tk'.lookup s=some v→tk.lookup s=some v:=by
 induction h with
 |nil=>intro s v h;simp at h
 | @cons s0 v1 r h _ ih=>
   intro s v hl;by_cases e:s=s0
   · subst e;simp[List.lookup] at hl;subst hl;exact h
   · have e':(s==s0)=false:=by simpa using e
     exact ih s v (by simpa[List.lookup,e'] using hl)
def Wk.mk'{c:Ctx}{st:St}{fr:List (Nat×AV)}{bx:List (Nat×Box)}{tk:List (Nat×Tok)}(h0: ∀id∈c.ins,(bx.lookup id).isSome=true)(h1:WkF st.fr fr)(h2:WkB st.bx bx)(h3:WkT st.tk tk):Wk c st ⟨fr,bx,tk⟩:=
 ⟨h0,h1.get,h2.get,h3.get⟩
def ix{β:Type}(p:Nat→Bool): ∀(l:List (Nat×β)) (s:Nat) (v:β),(l.filter (fun q=>p q.1)).lookup s=some v→l.lookup s=some v
 | [],s,v,h=>by simp at h
 |(t,u)::l,s,v,h=>by
  by_cases e:s=t
  · subst e;by_cases hp:p s=true
    · simpa[List.filter_cons,hp,List.lookup] using h
    · simp only[Bool.not_eq_true] at hp;exfalso;have:(List.filter (fun q=>p q.1) ((s,u)::l))=List.filter (fun q=>p q.1) l:=by simp[hp]
      rw[this] at h;have hmem: ∀(m:List (Nat×β)),(m.filter (fun q=>p q.1)).lookup s=some v→p s=true:=by
       intro m;induction m with
       |nil=>intro h;simp at h
       |cons x m ih=>
        intro h;by_cases hx:p x.1=true
        · by_cases e:s=x.1
          · rw[e];exact hx
          · have e':(s==x.1)=false:=by simpa using e
            obtain⟨x1,x2⟩:=x;simp only at hx e';exact ih (by simpa[List.filter_cons,hx,List.lookup,e'] using h)
        · simp only[Bool.not_eq_true] at hx;exact ih (by simpa[List.filter_cons,hx] using h)
      rw[hmem l h] at hp;cases hp
  · have e':(s==t)=false:=by simpa using e
    by_cases hp:p t=true
    · simp only[List.filter_cons,hp,if_true,List.lookup,e'] at h⊢;exact ix p l s v h
    · simp only[Bool.not_eq_true] at hp;simp only[List.filter_cons,hp,List.lookup,e'] at h⊢;exact ix p l s v (by simpa using h)
end Go.Abs
namespace Go.Abs
variable [Dr]
open Go.RowKit (Below)
abbrev S(l:List UInt8):IV:= .im (.string ⟨l.toArray⟩)
abbrev I(n:Int):IV:= .im (.int .i64 n)
abbrev B(b:Bool):IV:= .im (.bool b)
abbrev aS(l:List UInt8):AV:= .iv (.im (.string ⟨l.toArray⟩))
abbrev aI(n:Int):AV:= .iv (.im (.int .i64 n))
abbrev aB(b:Bool):AV:= .iv (.im (.bool b))
def cz:Value→AV
 | .slice none 0 0=> .nils
 |v=> .iv (.im v)
def zW:Value→AV
 | .slice none 0 0=> .nils
 | .agg cs=>if cs.toList.all (·.oneCell') then .agg (cs.toList.map cz) else .any
 | .tuple _=> .any
 |v=> .iv (.im v)
def jq(E:Env)(w:World)(v:Value)(h:v.oneCell'=true):RepA E w (cz v) v:=by
 unfold cz;split
 · exact .nils
 · exact .iv (.im h)
def Cd(E:Env)(w:World)(v:Value):RepA E w (zW v) v:=by
 unfold zW;split
 · exact .nils
 · rename_i cs;split
   · rename_i hall;have:(Value.agg cs)= .agg cs.toList.toArray:=by simp
     rw[this];refine .agg sP (fun u hu=>by simpa using aT hall u hu) (fun i c u hc hu=> ?_);simp only[gP] at hc;rw[hu] at hc;simp at hc;subst hc;exact jq E w u (aT hall u (gE hu))
   · exact .any
 · exact .any
 · rename_i h1 h2 h3;exact .iv (.im (by cases v<;>first|rfl|(exact(h2 _ U).elim)|(exact(h3 _ U).elim)))
def AV.strip:AV→AV
 | .opt true v=>v.strip
 |v=>v
def RepA.strip{E:Env}{w:World}: ∀{v:AV} {u:Value},RepA E w v u→RepA E w v.strip u
 | .opt true v,u,h=>by cases h with|optT h=>exact RepA.strip (v:=v) h
 | .opt false v,u,h=>h
 | .any,u,h=>h
 | .iv _,u,h=>h
 | .nils,u,h=>h
 | .emp,u,h=>h
 | .row _ _,u,h=>h
 | .ptr _ _,u,h=>h
 | .bsl _ _ _ _,u,h=>h
 | .bsh _ _ _ _,u,h=>h
 | .el _,u,h=>h
 | .agg _,u,h=>h
 | .tup _,u,h=>h
 | .fn _ _,u,h=>h
def St.ev(st:St):Operand→AV
 | .tmp t=>match st.fr.lookup t with
   |some v=>v.strip
   |none=> .any
 | .const v=>zW v
 | .func f=> .fn f []
 | .global _=> .any
def Inv.ev{c:Ctx}{E:Env}{st:St}{a:Act}{w:World}(h:Inv c E st a w)(x:Operand):RepA E w (st.ev x) (a.eval x):=by
 cases x with
 |tmp t=>
  simp only[St.ev,Act.eval];split
  · rename_i v hv;exact(h.slot t v hv).strip
  · exact .any
 |const v=>exact Cd E w v
 |global g=>exact .any
 |func f=>exact .fn (us:= []) U (fun i c u hc hu=>by simp at hc)
def Inv.put{c:Ctx}{E:Env}{st:St}{a:Act}{w:World}(h:Inv c E st a w){d:Nat}(hd:d<c.nt){v:AV}{u:Value}(hr:RepA E w v u):
 Inv c E ⟨(d,v)::st.fr,st.bx,st.tk⟩ (a.put (some d) u) w:=by
 refine⟨h.defers,by simpa[Act.put] using h.size,fun s v' hv=> ?_,h.heap⟩;by_cases e:s=d
 · subst e;simp[List.lookup] at hv;subst hv;have:s<a.tmps.size:=by rw[h.size];exact hd
   simpa[Act.put,this] using hr
 · have e':(s==d)=false:=by simpa using e
   have:=h.slot s v' (by simpa[List.lookup,e'] using hv);have hne:d≠s:=fun x=>e x.symm
   simpa[Act.put,Array.getElem?_setIfInBounds_ne hne] using this
section
variable {P:Program}{c:Ctx}{st:St}{ops:Array Oper}{Q:Exit→Act→World→Prop}{rest:List Oper}{o:Oper}
def Yields(P:Program)(c:Ctx)(st:St)(o:Oper)(v:AV):Prop:=
 ∀(E:Env) (a:Act) (w:World),Inv c E st a w→ ∃u,(execOp a.eval o).run P w= .ok (.value u) w∧RepA E w v u
section
variable {a:Act}{after:Array Edge}{b:Bool}{d j s:Nat}{k:IntKind}{m n:Int}{op:Op}{pos:String}{t t' ty:TypeId}{u:Value}{w:World}{x y z:Operand}
def en{w':World}{K:Act→World→Prop}(hr:(execOp a.eval o).run P w= .ok (.value u) w')(h:K (a.put o.dst u) w'):o.wp P a w K Q:=by
 unfold Oper.wp;rw[hr];exact h
def L.val{v:AV}(hg:o.guard=none)(hd:o.dst=some d)(hlt:Nat.ble (d+1) c.nt=true)(hy:Yields P c st o v)
 (h:L c ⟨(d,v)::st.fr,st.bx,st.tk⟩ (wpList P ops Q rest)):L c st (wpList P ops Q (o::rest)):=by
 rintro a w ⟨E,hi⟩;obtain⟨u,hr,hv⟩:=hy E a w hi;refine wpList_plain hg (fun K hK=>en hr (hK _ _ ?_));rw[hd];exact h _ _ ⟨E,hi.put (bT hlt) hv⟩
def L.nil(h:L c st (Q .normal)):L c st (wpList P ops Q []):=h
def L.guardDo{dst:Option Tmp}
 (hj:(ops[j]?).bind (·.dst)=some s) (hb:st.ev (.tmp s)=aB b)
 (h:L c st (wpList P ops Q (⟨dst,op,ty,pos,after,none⟩::rest))):L c st (wpList P ops Q (⟨dst,op,ty,pos,after,some (j,b)⟩::rest)):=by
 rintro a w hr;have h':=h a w hr;obtain⟨E,hi⟩:=hr;have hv:=(hi.ev (.tmp s))
 rw[hb] at hv;have hq:=hv.iv_im;have hy:yielded ops a.tmps j=some b:=by
  simp only[yielded,hj,Option.bind_some];simp only[Act.eval,Array.getD_eq_getD_getElem?] at hq;cases hx:a.tmps[s]? with
  |none=>rw[hx] at hq;simp[undef] at hq
  |some x=>rw[hx] at hq;simp at hq;subst hq;rfl
 unfold wpList at h'⊢;simp only[Region.wanted,if_true,hy] at h'⊢;rw[if_pos sP];exact h'
def L.guardSkip{b':Bool}(hlt:Nat.ble (d+1) c.nt=true)
 (hj:(ops[j]?).bind (·.dst)=some s) (hb:st.ev (.tmp s)=aB b') (hne:b'≠b)
 (h:L c ⟨(d,.opt false .any)::st.fr,st.bx,st.tk⟩ (wpList P ops Q rest)):L c st (wpList P ops Q (⟨some d,op,ty,pos,after,some (j,b)⟩::rest)):=by
 rintro a w ⟨E,hi⟩;have hv:=(hi.ev (.tmp s))
 rw[hb] at hv;have hq:=hv.iv_im;have hy:yielded ops a.tmps j=some b':=by
  simp only[yielded,hj,Option.bind_some];simp only[Act.eval,Array.getD_eq_getD_getElem?] at hq;cases hx:a.tmps[s]? with
  |none=>rw[hx] at hq;simp[undef] at hq
  |some x=>rw[hx] at hq;simp at hq;subst hq;rfl
 unfold wpList;simp only[Region.wanted,hy];rw[if_neg (by simpa using hne)];exact h _ _ ⟨E,hi.put (bT hlt) .optF⟩
def L.guardSkipU(hlt:Nat.ble (d+1) c.nt=true)
 (hj:(ops[j]?).bind (·.dst)=some s) (hb:st.ev (.tmp s)= .opt false .any)
 (h:L c ⟨(d,.opt false .any)::st.fr,st.bx,st.tk⟩ (wpList P ops Q rest)):L c st (wpList P ops Q (⟨some d,op,ty,pos,after,some (j,b)⟩::rest)):=by
 rintro a w ⟨E,hi⟩;have hv:=(hi.ev (.tmp s))
 rw[hb] at hv;have hq:a.eval (.tmp s)=undef:=by generalize a.eval (.tmp s)=u at hv;cases hv;rfl
 have hy:yielded ops a.tmps j=none:=by
  simp only[yielded,hj,Option.bind_some];simp only[Act.eval,Array.getD_eq_getD_getElem?] at hq;cases hx:a.tmps[s]? with
  |none=>rfl
  |some x=>rw[hx] at hq;simp at hq;subst hq;rfl
 unfold wpList;simp only[Region.wanted,hy];rw[if_neg sP];exact h _ _ ⟨E,hi.put (bT hlt) .optF⟩
def Yields.of_eval(h: ∀a:Act,(execOp a.eval o)=pure (.value (a.eval x))):Yields P c st o (st.ev x):=
 fun E a w hi=>⟨_,by rw[h a];rfl,hi.ev x⟩
def Yields.move(ho:o.op= .move x):Yields P c st o (st.ev x):= .of_eval fun a=>by simp[execOp,ho]
def Yields.assign(ho:o.op= .assign x):Yields P c st o (st.ev x):= .of_eval fun a=>by simp[execOp,ho]
def Yields.pickT(ho:o.op= .pick x y z)(hx:st.ev x=aB true):Yields P c st o (st.ev y):=fun E a w hi=>by
 have h:=hi.ev x;rw[hx] at h;exact⟨_,by simp[execOp,ho,h.iv_im,asBool],hi.ev y⟩
def Yields.pickF(ho:o.op= .pick x y z)(hx:st.ev x=aB false):Yields P c st o (st.ev z):=fun E a w hi=>by
 have h:=hi.ev x;rw[hx] at h;exact⟨_,by simp[execOp,ho,h.iv_im,asBool],hi.ev z⟩
def Yields.im(h1:u.oneCell'=true)(h: ∀(E:Env) (a:Act) (w:World),Inv c E st a w→(execOp a.eval o).run P w= .ok (.value u) w):Yields P c st o (.iv (.im u)):=
 fun E a w hi=>⟨u,h E a w hi,.iv (.im h1)⟩
def Inv.im{E:Env}(hi:Inv c E st a w){x:Operand}{u:Value}(hx:st.ev x= .iv (.im u)):a.eval x=u:=by
 have h:=hi.ev x;rw[hx] at h;exact h.iv_im
def Yields.addI(ho:o.op= .binOp .add t x y t')(hx:st.ev x=aI m)(hy:st.ev y=aI n)
 (hlo: -9223372036854775808≤m+n) (hhi:m+n≤9223372036854775807):Yields P c st o (aI (m+n)):=
 .im U fun E a w hi=>by
   have:IntKind.i64.wrap (m+n)=m+n:=IntWalk.i64_in _ ⟨hlo,hhi⟩;simp[execOp,ho,hi.im hx,hi.im hy,eqGuard,binOp,Op.intArith,this]
def Yields.subI(ho:o.op= .binOp .sub t x y t')(hx:st.ev x=aI m)(hy:st.ev y=aI n)
 (hlo: -9223372036854775808≤m - n) (hhi:m - n≤9223372036854775807):Yields P c st o (aI (m - n)):=
 .im U fun E a w hi=>by
   have:IntKind.i64.wrap (m - n)=m - n:=IntWalk.i64_in _ ⟨hlo,hhi⟩;simp[execOp,ho,hi.im hx,hi.im hy,eqGuard,binOp,Op.intArith,this]
def Yields.mulI(ho:o.op= .binOp .mul t x y t')(hx:st.ev x=aI m)(hy:st.ev y=aI n)
 (hlo: -9223372036854775808≤m*n) (hhi:m*n≤9223372036854775807):Yields P c st o (aI (m*n)):=
 .im U fun E a w hi=>by
   have:IntKind.i64.wrap (m*n)=m*n:=IntWalk.i64_in _ ⟨hlo,hhi⟩;simp[execOp,ho,hi.im hx,hi.im hy,eqGuard,binOp,Op.intArith,this]
def Yields.eqlI(ho:o.op= .binOp .eql t x y t')(hx:st.ev x= .iv (.im (.int k m)))(hy:st.ev y= .iv (.im (.int k n))):Yields P c st o (aB (m==n)):=
 .im U fun E a w hi=>by simp[execOp,ho,hi.im hx,hi.im hy,eqGuard,binOp,Op.intCmp]
def Yields.neqI(ho:o.op= .binOp .neq t x y t')(hx:st.ev x= .iv (.im (.int k m)))(hy:st.ev y= .iv (.im (.int k n))):Yields P c st o (aB (m !=n)):=
 .im U fun E a w hi=>by simp[execOp,ho,hi.im hx,hi.im hy,eqGuard,binOp,Op.intCmp]
def Yields.lssI(ho:o.op= .binOp .lss t x y t')(hx:st.ev x= .iv (.im (.int k m)))(hy:st.ev y= .iv (.im (.int k n))):Yields P c st o (aB (decide (m<n))):=
 .im U fun E a w hi=>by simp[execOp,ho,hi.im hx,hi.im hy,eqGuard,binOp,Op.intCmp]
def Yields.leqI(ho:o.op= .binOp .leq t x y t')(hx:st.ev x= .iv (.im (.int k m)))(hy:st.ev y= .iv (.im (.int k n))):Yields P c st o (aB (decide (m≤n))):=
 .im U fun E a w hi=>by simp[execOp,ho,hi.im hx,hi.im hy,eqGuard,binOp,Op.intCmp]
def Yields.gtrI(ho:o.op= .binOp .gtr t x y t')(hx:st.ev x= .iv (.im (.int k m)))(hy:st.ev y= .iv (.im (.int k n))):Yields P c st o (aB (decide (n<m))):=
 .im U fun E a w hi=>by simp[execOp,ho,hi.im hx,hi.im hy,eqGuard,binOp,Op.intCmp]
def Yields.geqI(ho:o.op= .binOp .geq t x y t')(hx:st.ev x= .iv (.im (.int k m)))(hy:st.ev y= .iv (.im (.int k n))):Yields P c st o (aB (decide (n≤m))):=
 .im U fun E a w hi=>by simp[execOp,ho,hi.im hx,hi.im hy,eqGuard,binOp,Op.intCmp]
def Yields.arith{op:BinOp}{r:Int}(ho:o.op= .binOp op t x y t')(hx:st.ev x= .iv (.im (.int k m)))(hy:st.ev y= .iv (.im (.int k n)))
 (hr: ∀w,(binOp op t (.int k m) (.int k n)).run P w= .ok (.int k r) w) (hq: ∀w,(eqGuard op t x y (.int k m) (.int k n)).run P w= .ok () w):Yields P c st o (.iv (.im (.int k r))):=
 .im U fun E a w hi=>by simp[execOp,ho,hi.im hx,hi.im hy,hr,hq]
def Yields.conv{s:TypeId}{k':IntKind}(ho:o.op= .convert s t x)(hx:st.ev x= .iv (.im (.int k m)))
 (ht:P.underlying t=some (.int k')) (hs:(P.underlying s).isSome=true):Yields P c st o (.iv (.im (.int k' (k'.wrap m)))):=
 .im U fun E a w hi=>by
   obtain⟨d,hd⟩:=Option.isSome_iff_exists.1 hs;simp[execOp,ho,hi.im hx,convert,run_underlying hd,run_underlying ht,Conv.intToInt]
def Yields.not(ho:o.op= .unOp .not t x)(hx:st.ev x=aB b):Yields P c st o (aB (!b)):=
 .im U fun E a w hi=>by simp[execOp,ho,hi.im hx,Op.unary]
def Yields.negI(ho:o.op= .unOp .neg t x)(hx:st.ev x=aI m)(hlo: -9223372036854775808≤0 - m)(hhi:0 - m≤9223372036854775807):Yields P c st o (aI (0 - m)):=
 .im U fun E a w hi=>by
   have:IntKind.i64.wrap (0 - m)=0 - m:=IntWalk.i64_in _ ⟨hlo,hhi⟩;simp[execOp,ho,hi.im hx,Op.unary,Op.intArith] at this⊢;exact this
abbrev Nt:AV:= .iv (.im (.pointer none))
def Yields.eqlPP{id off:Nat}(ho:o.op= .binOp .eql t x y t')(hx:st.ev x= .ptr id off)(hy:st.ev y=Nt)(ht:P.underlying t=some (.pointer (P.pointee t))):Yields P c st o (aB false):=
 .im U fun E a w hi=>by
   have h:=hi.ev x;rw[hx] at h;simp[execOp,ho,h.ptr_inv,hi.im hy,eqGuard,run_eql_pointer_nil w t _ ht]
def Yields.eqlS{m n:List UInt8}(ho:o.op= .binOp .eql t x y t')(hx:st.ev x=aS m)(hy:st.ev y=aS n):Yields P c st o (aB (m==n)):=
 .im U fun E a w hi=>by simp[execOp,ho,hi.im hx,hi.im hy,eqGuard,binOp,Op.stringOp]
def Yields.neqS{m n:List UInt8}(ho:o.op= .binOp .neq t x y t')(hx:st.ev x=aS m)(hy:st.ev y=aS n):Yields P c st o (aB (!(m==n))):=
 .im U fun E a w hi=>by simp[execOp,ho,hi.im hx,hi.im hy,eqGuard,binOp,Op.stringOp]
def Yields.lssS{m n:List UInt8}(ho:o.op= .binOp .lss t x y t')(hx:st.ev x=aS m)(hy:st.ev y=aS n):Yields P c st o (aB (Op.bytesLess m n)):=
 .im U fun E a w hi=>by simp[execOp,ho,hi.im hx,hi.im hy,eqGuard,binOp,Op.stringOp]
def Yields.leqS{m n:List UInt8}(ho:o.op= .binOp .leq t x y t')(hx:st.ev x=aS m)(hy:st.ev y=aS n):Yields P c st o (aB (Op.bytesLess m n||m==n)):=
 .im U fun E a w hi=>by simp[execOp,ho,hi.im hx,hi.im hy,eqGuard,binOp,Op.stringOp]
def Yields.gtrS{m n:List UInt8}(ho:o.op= .binOp .gtr t x y t')(hx:st.ev x=aS m)(hy:st.ev y=aS n):Yields P c st o (aB (!(Op.bytesLess m n||m==n))):=
 .im U fun E a w hi=>by simp[execOp,ho,hi.im hx,hi.im hy,eqGuard,binOp,Op.stringOp]
def Yields.geqS{m n:List UInt8}(ho:o.op= .binOp .geq t x y t')(hx:st.ev x=aS m)(hy:st.ev y=aS n):Yields P c st o (aB (!(Op.bytesLess m n))):=
 .im U fun E a w hi=>by simp[execOp,ho,hi.im hx,hi.im hy,eqGuard,binOp,Op.stringOp]
def Yields.addS{m n:List UInt8}(ho:o.op= .binOp .add t x y t')(hx:st.ev x=aS m)(hy:st.ev y=aS n)(hl:m.length+n.length≤9223372036854775807):Yields P c st o (aS (m++n)):=
 .im U fun E a w hi=>by
   have h1: ¬(((m.length+n.length:Nat):Int)>IntKind.i64.max):=by simp[IntKind.max,IntKind.signed,IntKind.bits];omega
   have h2:((ByteArray.mk m.toArray)++(ByteArray.mk n.toArray))=ByteArray.mk (m++n).toArray:=by
    apply ByteArray.ext;simp
   simp only[execOp,ho,hi.im hx,hi.im hy,eqGuard,binOp,Op.stringOp,ByteArray.size,List.size_toArray,h1,if_false,h2];simp
def Yields.lenS{m:List UInt8}(ho:o.op= .call {callee:= .builtin .len,args:= #[x],argTypes:= #[t]})(hx:st.ev x=aS m)
 (ht:P.underlying t=some .string):Yields P c st o (aI m.length):=
 .im U fun E a w hi=>by simp[execOp,ho,resolve,invoke,builtin,hi.im hx,run_len_string w t _ _ ht,goInt,ByteArray.size]
def Yields.indexS{i:Operand}{m:List UInt8}{b:UInt8}(ho:o.op= .index t x i)(hx:st.ev x=aS m)(hi':st.ev i= .iv (.im (.int k n)))
 (ht:P.underlying t=some .string) (h0:0≤n) (hb:m[n.toNat]?=some b):Yields P c st o (.iv (.im (.int .u8 b.toNat))):=
 .im U fun E a w hi=>by
   have:(ByteArray.mk m.toArray)[n.toNat]?=some b:=by
    have hlt:=(gS hb).1;rw[ByteArray.getElem?_lt' _ _ (by simpa[ByteArray.size] using hlt)];rw[←hb];simp[hlt];rfl
   simp[execOp,ho,hi.im hx,hi.im hi',Instr.index,asIntOf,run_underlying ht,h0,this]
end
end
def RelL(E:Env)(w:World)(cs:List AV)(us:List Value):Prop:=
 us.length=cs.length∧ ∀(i:Nat) (c:AV) (u:Value),cs[i]?=some c→us[i]?=some u→RepA E w c u
def RelL.nil(E:Env)(w:World):RelL E w [] []:=⟨rfl,fun i c u h=>by simp at h⟩
section
variable {E:Env}{P:Program}{a cs:List AV}{k:Nat}{t:TypeId}{u:Value}{w:World}{x:List Value}
def RelL.append{b:List AV}{y:List Value}(h:RelL E w a x)(k:RelL E w b y):RelL E w (a++b) (x++y):=by
 refine⟨by simp[h.1,k.1],fun i c u hc hu=> ?_⟩;by_cases hi:i<a.length
 · rw[gL hi] at hc;rw[gL (by rw[h.1];exact hi)] at hu;exact h.2 i c u hc hu
 · rw[List.getElem?_append_right C] at hc;rw[List.getElem?_append_right (by rw[h.1];omega),h.1] at hu;exact k.2 _ c u hc hu
def RelL.take(h:RelL E w a x)(n:Nat):RelL E w (a.take n) (x.take n):=by
 refine⟨by simp[h.1],fun i c u hc hu=> ?_⟩;rw[List.getElem?_take] at hc hu;split at hc
 · rename_i hi;rw[if_pos hi] at hu;exact h.2 i c u hc hu
 · cases hc
def RelL.drop(h:RelL E w a x)(n:Nat):RelL E w (a.drop n) (x.drop n):=by
 refine⟨by simp[h.1],fun i c u hc hu=> ?_⟩;rw[List.getElem?_drop] at hc hu;exact h.2 _ c u hc hu
def RelL.keep{w':World}(hk:Keeps E.φ w w'){a:List AV}{x:List Value}(h:RelL E w a x):RelL E w' a x:=
 ⟨h.1,fun i c u hc hu=>(h.2 i c u hc hu).keep hk⟩
def tM(E:Env)(w:World): ∀(us:List Value),us.all (·.oneCell')=true→RelL E w (us.map cz) us
 |us,h=>⟨by simp,fun i c u hc hu=>by
    simp only[gP] at hc;rw[hu] at hc;simp at hc;subst hc;exact jq E w u (aT h u (gE hu))⟩
def RelL.agg{us:List Value}(h:RelL E w cs us)(h1: ∀u∈us,u.oneCell'=true):RepA E w (.agg cs) (.agg us.toArray):= .agg h.1 h1 h.2
def RepA.agg_inv(h:RepA E w (.agg cs) u): ∃us:List Value,u= .agg us.toArray∧RelL E w cs us∧ ∀u∈us,u.oneCell'=true:=by
 cases h with
 |agg hl h1 h=>exact⟨_,rfl,⟨hl,h⟩,h1⟩
def RepA.tup_inv(h:RepA E w (.tup cs) u): ∃us:List Value,u= .tuple us.toArray∧RelL E w cs us:=by
 cases h with
 |tup hl h=>exact⟨_,rfl,⟨hl,h⟩⟩
def AV.lays:AV→Bool
 | .agg _=>true
 |v=>v.one
def RepA.lay{v:AV}(h:RepA E w v u)(h1:v.lays=true):RelL E w v.cells u.cells.toList∧ ∀x∈u.cells.toList,x.oneCell'=true:=by
 have:=h.cells (by cases v<;>first|exact .inl h1|exact .inr ⟨_,rfl⟩);exact⟨⟨this.1,this.2.2⟩,this.2.1⟩
def aK(b o n:Nat):(⟨b,o,none⟩:Addr).add n=⟨b,o+n,none⟩:=by unfold Addr.add;split<;>simp_all
def rq(P:Program)(s:TypeId)(f fo:Nat):Bool:=
 match P.underlying s with
 |some (.struct fs)=>match fs[f]? with
  |some fd=>fd.offset==fo && (match P.info? fd.type with|some i=>i.size !=0|none=>false)
  |none=>false
 |_=>false
def nI(P:Program)(t:TypeId)(agg:Bool)(k:Nat):Bool:=
 match P.underlying t,P.info? t with
 |some d,some i=>(match d with| .struct _| .array _ _=>true|_=>false)==agg && i.size==k
 |_,_=>false
def bI(P:Program)(t e:TypeId)(k:Nat):Bool:=
 (match P.underlying t with|some (.slice e')=>e'==e|_=>false) && (match P.info? e with|some i=>i.size==k|none=>false)
def ti{s:TypeId}{f fo:Nat}(h:rq P s f fo=true)(b o:Nat)(w:World):
 (Instr.fieldAt s (.pointer (some ⟨b,o,none⟩)) f).run P w= .ok (.pointer (some ⟨b,o+fo,none⟩)) w:=by
 unfold rq at h;split at h
 · rename_i fs hu;split at h
   · rename_i fd hf;simp only[aE,beq_iff_eq] at h;obtain⟨h1,h2⟩:=h;split at h2
     · rename_i i hi;have h3:i.size≠0:=by simpa using h2
       simp[Instr.fieldAt,run_underlying hu,hf,Instr.sureAddr,fieldPlace,sizeOf,typeInfo,hi,h3,h1,aK]
     · cases h2
   · cases h
 · cases h
def fJ{agg:Bool}(h:nI P t agg k=true)(w:World):
 (isAgg t).run P w= .ok agg w∧(sizeOf t).run P w= .ok k w:=by
 unfold nI at h;split at h
 · rename_i d i hu hi;simp only[aE,beq_iff_eq] at h;refine⟨?_,by simp[sizeOf,typeInfo,hi,h.2]⟩;unfold isAgg;rw[Sem.run_bind,run_underlying hu w];cases d<;>simp_all
 · cases h
def aH{e:TypeId}(h:bI P t e k=true):P.underlying t=some (.slice e)∧ ∃i,P.info? e=some i∧i.size=k:=by
 unfold bI at h;simp only[aE] at h;obtain⟨h1,h2⟩:=h;split at h1
 · rename_i e' hu;simp only[beq_iff_eq] at h1;subst h1;split at h2
   · rename_i i hi;exact⟨hu,i,hi,by simpa using h2⟩
   · cases h2
 · cases h1
end
section
variable {P:Program}{c:Ctx}{st:St}{ops:Array Oper}{Q:Exit→Act→World→Prop}{rest:List Oper}{o:Oper}
section
variable {E:Env}{a:Act}{b:Box}{cs:List IV}{e s t:TypeId}{es:List (List IV)}{f fo id k off:Nat}{u:Value}{v:AV}{w:World}{x:Operand}
def Inv.ptr(hi:Inv c E st a w){x:Operand}{id off:Nat}(hx:st.ev x= .ptr id off):a.eval x= .pointer (some ⟨E.ρ id,off,none⟩):=by
 have h:=hi.ev x;rw[hx] at h;exact h.ptr_inv
def Yields.fieldP(ho:o.op= .fieldAddr s x f)(hx:st.ev x= .ptr id off)(hf:rq P s f fo=true):Yields P c st o (.ptr id (off+fo)):=
 fun E a w hi=>⟨_,by simp only[execOp,ho,hi.ptr hx,ti hf,Sem.run_bind,Result.andThen_ok,Sem.run_pure],.ptr U⟩
def Yields.fieldE(ho:o.op= .fieldAddr s x f)(hx:st.ev x= .el cs)(hf:rq P s f fo=true):Yields P c st o (.el (cs.drop fo)):=
 fun E a w hi=>by
  have h:=hi.ev x;rw[hx] at h;generalize hq:a.eval x=u at h;cases h with
  | @el _ b o' g hc hr=>
    refine⟨.pointer (some ⟨b,o'+fo,none⟩),by simp only[execOp,ho,hq,ti hf,Sem.run_bind,Result.andThen_ok,Sem.run_pure],.el (fun j=>g (fo+j)) (fun j x hx=> ?_) (fun j x hx=> ?_)⟩
    · have:=hc (fo+j) x (by rw[List.getElem?_drop] at hx;exact hx);rw[Nat.add_assoc];exact this
    · exact hr (fo+j) x (by rw[List.getElem?_drop] at hx;exact hx)
def RepI.sl_inv{φ:Nat→Nat}(h:RepI φ w (.sl es) u):
 (u= .slice none 0 0∧es= [])∨(∃(ad:Addr) (cap:Nat),u= .slice (some ad) 0 cap∧ad.spot≠none∧cap≤maxLen∧es= [])∨ ∃(b o cap k:Nat) (f:Nat→Nat→Value),u= .slice (some ⟨b,o,none⟩) es.length cap∧es.length≤cap∧cap≤maxLen∧(∀(i:Nat) (e:List IV),es[i]?=some e→e.length=k)∧
   (∀(i:Nat) (e:List IV) (j:Nat) (x:IV),es[i]?=some e→e[j]?=some x→o+i*k+j<φ b∧w.cell? ⟨b,o+i*k+j,none⟩=some (f i j)∧RepI φ w x (f i j)):=by
 cases h with
 | @emp a cap hn hm=>cases a with
   |none=>obtain rfl:=hn U;exact .inl ⟨rfl,rfl⟩
   |some ad=>
    by_cases hs:ad.spot=none
    · obtain⟨b,o,spot⟩:=ad;simp only at hs;subst hs;exact .inr (.inr ⟨b,o,cap,0,fun _ _=>undef,rfl,Nat.zero_le _,hm,fun i e h=>by simp at h,fun i e j x h=>by simp at h⟩)
    · exact .inr (.inl ⟨ad,cap,rfl,hs,hm,rfl⟩)
 |sl f hc hm hk hφ hcell hrep=>exact .inr<| .inr ⟨_,_,_,_,f,rfl,hc,hm,hk,fun i e j x h1 h2=>⟨hφ i e j x h1 h2,hcell i e j x h1 h2,hrep i e j x h1 h2⟩⟩
def AV.sl?:AV→Option (List (List IV))
 | .iv (.sl es)=>some es
 | .row _ es=>some es
 | .nils=>some []
 | .emp=>some []
 |_=>none
def RepA.sl(h:RepA E w v u)(hv:v.sl?=some es):RepI E.φ w (.sl es) u:=by
 cases v<;>simp only[AV.sl?] at hv<;>try (cases hv;done)
 · rename_i x;cases x with
   |im _=>simp at hv
   |sl _=>simp at hv;subst hv;exact h.iv_inv
 · simp at hv;subst hv;cases h;exact .nil
 · simp at hv;subst hv;cases h with|emp hu=>subst hu;exact .emp (fun _=>rfl) (Nat.zero_le _)
 · simp at hv;subst hv;cases h with|row hu h=>exact h
def Yields.indexAddr{i:Operand}{kd:IntKind}{n:Int}(ho:o.op= .indexAddr t x i)(hs:bI P t e k=true)(hx:(st.ev x).sl?=some es)
 (hn:st.ev i= .iv (.im (.int kd n))) (h0:0≤n) (hc:es[n.toNat]?=some cs) (hl:cs.length=k):Yields P c st o (.el cs):=
 fun E a w hi=>by
  obtain⟨hu,inf,hinf,hsz⟩:=aH hs;have hlt:=(gS hc).1;rcases((hi.ev x).sl hx).sl_inv with⟨_,rfl⟩|⟨_,_,_,_,_,rfl⟩|⟨b,o',cap,k',f,hq,_,_,hk,hcell⟩
  · simp at hlt
  · simp at hlt
  · have hk':k'=k:=by rw[←hk _ _ hc,hl]
    subst hk';have hb:n<(es.length:Int):=C;refine⟨.pointer (some ⟨b,o'+n.toNat*k',none⟩),?_,.el (fun j=>f n.toNat j) (fun j x hx=>⟨(hcell _ _ _ _ hc hx).1,(hcell _ _ _ _ hc hx).2.1⟩) (fun j x hx=>(hcell _ _ _ _ hc hx).2.2)⟩;simp[execOp,ho,hq,hi.im hn,Instr.indexAt,asIntOf,run_underlying hu,h0,hb,sizeOf,typeInfo,hinf,hsz,aK]
def Yields.lenSl(ho:o.op= .call {callee:= .builtin .len,args:= #[x],argTypes:= #[t]})(hs:bI P t e k=true)(hx:(st.ev x).sl?=some es):
 Yields P c st o (aI es.length):=
 .im U fun E a w hi=>by
   obtain⟨hu,_⟩:=aH hs;rcases((hi.ev x).sl hx).sl_inv with⟨hq,rfl⟩|⟨_,_,hq,_,_,rfl⟩|⟨b,o',cap,k',f,hq,_⟩
   · simp[execOp,ho,resolve,invoke,builtin,hq,Builtin.len_,run_underlying hu,goInt]
   · simp[execOp,ho,resolve,invoke,builtin,hq,Builtin.len_,run_underlying hu,goInt]
   · simp[execOp,ho,resolve,invoke,builtin,hq,Builtin.len_,run_underlying hu,goInt]
def Inv.boxCell(hi:Inv c E st a w){id:Nat}{b:Box}(hb:st.bx.lookup id=some b):
 ∃arr rest:List Value,(b.cs≠ [] →w.heap[E.ρ id]?=some (.cells (arr++rest).toArray b.ty (0,0)))∧RelL E w b.cs arr∧(∀u∈arr,u.oneCell'=true)∧(∀u∈rest,u.oneCell'=true)∧
  ∀j,j<arr.length→w.cell? ⟨E.ρ id,j,none⟩=arr[j]?:=by
 by_cases hn:b.cs= []
 · exact⟨[],[],fun h=>(h hn).elim,by rw[hn];exact RelL.nil E w,by simp,by simp,fun j hj=>by simp at hj⟩
 obtain⟨_,arr,ha,hl,h1,hr,_⟩:=hi.heap.box id b hb hn;refine⟨arr.take b.cs.length,arr.drop b.cs.length,fun _=>by rw[List.take_append_drop];exact ha,⟨by rw[lT];omega,fun i c u hc hu=>hr i c u hc ?_⟩,fun u hu=>h1 u (mT hu),fun u hu=>h1 u (mD hu),fun j hj=> ?_⟩
 · rw[List.getElem?_take] at hu;split at hu
   · exact hu
   · cases hu
 · rw[cell_of_row w _ j _ _ _ ha,List.getElem?_take,if_pos (by rw[lT] at hj;omega)];simp
def Yields.load1P(ho:o.op= .load t x)(ht:nI P t false 1=true)(hx:st.ev x= .ptr id off)(hb:st.bx.lookup id=some b)(hv:b.cs[off]?=some v):Yields P c st o v:=
 fun E a w hi=>by
  obtain⟨arr,_,_,hr,_,_,hc⟩:=hi.boxCell hb;have hlt:off<arr.length:=by rw[hr.1];exact(gS hv).1
  have hcell:w.cell? ⟨E.ρ id,off,none⟩=some arr[off]:=by rw[hc off hlt];exact gG hlt
  refine⟨arr[off],?_,hr.2 off v _ hv (gG hlt)⟩;simp[execOp,ho,hi.ptr hx,Instr.loadAt,Instr.sureAddr,loadVar,(fJ ht w).1,hcell]
def Yields.loadAP(ho:o.op= .load t x)(ht:nI P t true k=true)(hx:st.ev x= .ptr id off)(hb:st.bx.lookup id=some b)(hk:((b.cs.drop off).take k).length=k):
 Yields P c st o (.agg ((b.cs.drop off).take k)):=
 fun E a w hi=>by
  obtain⟨arr,_,_,hr,h1,_,hc⟩:=hi.boxCell hb;have hr':=(hr.drop off).take k;have hl:((arr.drop off).take k).length=k:=by rw[hr'.1,hk]
  have hrun:(loadCells ⟨E.ρ id,off,none⟩ ((arr.drop off).take k).length).run P w= .ok ((arr.drop off).take k).toArray w:=
   run_loadCells_list w _ _ (fun j v hv=>by
    rw[List.getElem?_take] at hv;split at hv
    · rw[List.getElem?_drop] at hv;rw[aK,hc _ (gS hv).1];exact hv
    · cases hv)
  rw[hl] at hrun;refine⟨.agg ((arr.drop off).take k).toArray,?_,hr'.agg (fun u hu=>h1 u (mD (mT hu)))⟩;simp[execOp,ho,hi.ptr hx,Instr.loadAt,Instr.sureAddr,loadVar,(fJ ht w).1,(fJ ht w).2,hrun]
def Yields.load1E{y:IV}(ho:o.op= .load t x)(ht:nI P t false 1=true)(hx:st.ev x= .el cs)(hy:cs[0]?=some y):Yields P c st o (.iv y):=
 fun E a w hi=>by
  have h:=hi.ev x;rw[hx] at h;generalize hq:a.eval x=u at h;cases h with
  | @el _ b o' g hc hr=>
    have h0:=(hc 0 y hy).2;simp only[Nat.add_zero] at h0;refine⟨g 0,?_,.iv (hr 0 y hy)⟩;simp[execOp,ho,hq,Instr.loadAt,Instr.sureAddr,loadVar,(fJ ht w).1,h0]
def Yields.loadAE(ho:o.op= .load t x)(ht:nI P t true k=true)(hx:st.ev x= .el cs)(hk:(cs.take k).length=k):Yields P c st o (.agg ((cs.take k).map .iv)):=
 fun E a w hi=>by
  have h:=hi.ev x;rw[hx] at h;generalize hq:a.eval x=u at h;cases h with
  | @el _ b o' g hc hr=>
    have hlen:k≤cs.length:=by rw[lT] at hk;omega
    have hrun:(loadCells ⟨b,o',none⟩ k).run P w= .ok ((List.range k).map g).toArray w:=
     run_loadCells w _ k g (fun j hj=>by rw[aK];exact(hc j cs[j] (gG C)).2)
    refine⟨.agg ((List.range k).map g).toArray,?_,.agg (by simp;omega) (fun u hu=> ?_) (fun i c u hc' hu=> ?_)⟩
    · simp[execOp,ho,hq,Instr.loadAt,Instr.sureAddr,loadVar,(fJ ht w).1,(fJ ht w).2,hrun]
    · simp only[List.mem_map,List.mem_range] at hu;obtain⟨j,hj,rfl⟩:=hu;exact(hr j cs[j] (gG C)).oneCell
    · simp only[gP,List.getElem?_take] at hc';simp only[gP] at hu;split at hc'
      · rename_i hik;rw[List.getElem?_range hik] at hu;simp at hu;subst hu;cases hci:cs[i]? with
        |none=>rw[hci] at hc';simp at hc'
        |some y=>rw[hci] at hc';simp at hc';subst hc';exact .iv (hr i y hci)
      · simp at hc'
def Yields.extract{i:Nat}{vs:List AV}(ho:o.op= .extract x i)(hx:st.ev x= .tup vs)(hv:vs[i]?=some v):Yields P c st o v:=
 fun E a w hi=>by
  have h:=hi.ev x;rw[hx] at h;obtain⟨us,hq,hr⟩:=h.tup_inv;have hlt:i<us.length:=by rw[hr.1];exact(gS hv).1
  exact⟨us[i],by simp[execOp,ho,hq,Instr.extract,gG hlt],hr.2 i v _ hv (gG hlt)⟩
def Yields.nilCheckP(ho:o.op= .nilCheck x)(hx:st.ev x= .ptr id off):Yields P c st o (.ptr id off):=
 fun E a w hi=>⟨_,by simp[execOp,ho,hi.ptr hx],.ptr U⟩
end
end
def St.fresh(id:Nat)(st:St):Bool:=
 st.fr.all (fun p=> !AV.ment id p.2) && st.bx.all (fun p=>p.1 !=id && !p.2.ment id) && st.tk.all (fun p=>p.1 !=id)
section
variable {E:Env}{a:Act}{bx:List (Nat×Box)}{c:Ctx}{id s:Nat}{st:St}{tk:List (Nat×Tok)}{w:World}{β:Type}
def dZ: ∀{l:List (Nat×β)} {s:Nat} {v:β},l.lookup s=some v→(s,v)∈l
 | [],s,v,h=>by simp at h
 |(t,u)::l,s,v,h=>by
  by_cases e:s=t
  · subst e;simp[List.lookup] at h;subst h;exact List.mem_cons_self
  · have e':(s==t)=false:=by simpa using e
    exact List.mem_cons_of_mem _ (dZ (by simpa[List.lookup,e'] using h))
def St.fresh_fr(h:st.fresh id=true){s:Nat}{v:AV}(hl:st.fr.lookup s=some v):AV.ment id v=false:=by
 simp only[St.fresh,aE,List.all_eq_true] at h;simpa using h.1.1 _ (dZ hl)
def St.fresh_bx(h:st.fresh id=true){s:Nat}{b:Box}(hl:st.bx.lookup s=some b):s≠id∧AV.ments id b.cs=false:=by
 simp only[St.fresh,aE,List.all_eq_true] at h;have:=h.1.2 _ (dZ hl);rw[Box.ment_eq] at this;simpa using this
def St.fresh_tk(h:st.fresh id=true){s:Nat}{t:Tok}(hl:st.tk.lookup s=some t):s≠id:=by
 simp only[St.fresh,aE,List.all_eq_true] at h;simpa using h.2 _ (dZ hl)
def Env.upd(E:Env)(id g p:Nat)(v:Value):Env:=
 ⟨fun b=>if b=g then p else E.φ b,fun i=>if i=id then g else E.ρ i,fun i=>if i=id then v else E.η i⟩
def Keeps.alloc{φ:Nat→Nat}(hn: ∀b,w.heap.size≤b→φ b=0)(ob:Obj):Keeps φ w (w.alloc ob):=fun b o ho=>by
 have hb:b<w.heap.size:=by
  rcases Nat.lt_or_ge b w.heap.size with h|h
  · exact h
  · rw[hn b h] at ho;cases ho
 exact World.cell?_alloc_lt _ _ _ hb
def zH(w:World)(ob:Obj)(i:Nat)(h:i<w.heap.size):(w.alloc ob).heap[i]?=w.heap[i]?:=by
 show(w.heap.push ob)[i]?=w.heap[i]?;rw[Array.getElem?_push,if_neg (Nat.ne_of_lt h)]
def zJ(w:World)(ob:Obj):(w.alloc ob).heap[w.heap.size]?=some ob:=by
 show(w.heap.push ob)[w.heap.size]?=some ob;simp
def HInv.alloc(h:HInv c E st.bx st.tk w){id:Nat}(hf:st.fresh id=true)(ob:Obj)(p:Nat)(v:Value):
 HInv c (E.upd id w.heap.size p v) st.bx st.tk (w.alloc ob)∧(∀(x:AV) (u:Value),AV.ment id x=false→RepA E w x u→RepA (E.upd id w.heap.size p v) (w.alloc ob) x u):=by
 have hk:Keeps E.φ w (w.alloc ob):=Keeps.alloc h.new ob;have hle: ∀b,E.φ b≤(E.upd id w.heap.size p v).φ b:=fun b=>by
  simp only[Env.upd];split
  · rename_i e;rw[h.new b C];exact Nat.zero_le _
  · exact Nat.le_refl _
 have hρ: ∀i,i≠id→(E.upd id w.heap.size p v).ρ i=E.ρ i:=fun i hi=>by simp[Env.upd,hi]
 have hη: ∀i,i≠id→(E.upd id w.heap.size p v).η i=E.η i:=fun i hi=>by simp[Env.upd,hi]
 have mono: ∀(x:AV) (u:Value),AV.ment id x=false→RepA E w x u→RepA (E.upd id w.heap.size p v) (w.alloc ob) x u:=fun x u hm hr=>
  hr.mono hk hle (fun i hi=>by
    have:i≠id:=fun e=>by subst e;rw[hm] at hi;cases hi
    exact⟨hρ i this,hη i this⟩)
 refine⟨⟨fun i b hb hn=> ?_,fun i t ht=> ?_,fun i j b b' hi hj hn hn' he=> ?_,fun i j t t' g hi hj h1 h2=> ?_,fun i j b t hi hn hj=> ?_,fun i b hi hn=> ?_,fun j t g hj hg=> ?_,fun b hb=> ?_,fun b hb=> ?_,fun i hin=> ?_,?_⟩,mono⟩
 · obtain⟨hne,hm⟩:=St.fresh_bx hf hb;obtain⟨h0,arr,ha,hl,h1,hr,hq⟩:=h.box i b hb hn;have hlt:E.ρ i<w.heap.size:=(Array.getElem?_eq_some_iff.1 ha).1;rw[BoxOk,hρ i hne,hη i hne];refine⟨by simp only[Env.upd];rw[if_neg C];exact h0,arr,by rw[zH w ob _ hlt];exact ha,hl,h1,fun k x u hx hu=>mono x u ?_ (hr k x u hx hu),hq⟩;exact bB hm k x hx
 · have hne:=St.fresh_tk hf ht;rcases h.tok i t ht with hn|⟨g,n,cap,cur,hv,hg,hnc,hcm,hcs,hφ⟩
   · exact .inl (by rw[hη i hne];exact hn)
   · have hlt:g<w.heap.size:=(Array.getElem?_eq_some_iff.1 hg).1;exact .inr ⟨g,n,cap,cur,by rw[hη i hne];exact hv,by rw[zH w ob _ hlt];exact hg,hnc,hcm,hcs,by simp only[Env.upd];rw[if_neg C];exact hφ⟩
 · rw[hρ i (St.fresh_bx hf hi).1,hρ j (St.fresh_bx hf hj).1] at he;exact h.bb i j b b' hi hj hn hn' he
 · rw[hη i (St.fresh_tk hf hi)] at h1;rw[hη j (St.fresh_tk hf hj)] at h2;exact h.tt i j t t' g hi hj h1 h2
 · rw[hρ i (St.fresh_bx hf hi).1,hη j (St.fresh_tk hf hj)];exact h.bt i j b t hi hn hj
 · rw[hρ i (St.fresh_bx hf hi).1];exact h.own i b hi hn
 · rw[hη j (St.fresh_tk hf hj)] at hg;exact h.ownt j t g hj hg
 · have hb':w.heap.size<b:=by simp at hb;omega
   simp only[Env.upd];rw[if_neg C];exact h.new b C
 · have:b<w.heap.size:=Nat.lt_of_lt_of_le hb h.kept.size;simp only[Env.upd];rw[if_neg C];exact h.old b hb
 · obtain⟨e1,e2,e3⟩:=h.ins i hin;obtain⟨b,hb⟩:=Option.isSome_iff_exists.1 e3;have hne:=(St.fresh_bx hf hb).1;exact⟨(hρ i hne).trans e1,(hη i hne).trans e2,e3⟩
 · refine h.kept.next U U U sP (fun k hk _=> ?_);exact zH w ob k (Nat.lt_of_lt_of_le hk h.kept.size)
def aa{t:Nat}{v:β}{l:List (Nat×β)}(h:s≠t):List.lookup s ((t,v)::l)=l.lookup s:=by
 have e':(s==t)=false:=by simpa using h
 simp[List.lookup,e']
def aj{v:β}{l:List (Nat×β)}:List.lookup s ((s,v)::l)=some v:=by simp[List.lookup]
def HInv.addBox(h:HInv c E bx tk w){id:Nat}{b:Box}(hn:bx.lookup id=none)(hb:BoxOk E w id b)
 (h1: ∀(j:Nat) (b':Box),bx.lookup j=some b'→b'.cs≠ [] →E.ρ j≠E.ρ id) (h2: ∀(j:Nat) (t:Tok),tk.lookup j=some t→(E.η j).ownBlock≠some (E.ρ id)) (h3:c.w0.heap.size≤E.ρ id∨c.M (E.ρ id)):
 HInv c E ((id,b)::bx) tk w:=by
 refine⟨fun i b' hi hc=> ?_,h.tok,fun i j b1 b2 hi hj hc hc' he=> ?_,h.tt,fun i j b1 t hi hc hj=> ?_,fun i b' hi hc=> ?_,h.ownt,h.new,h.old,fun i hin=> ?_,h.kept⟩
 · by_cases e:i=id
   · subst e;rw[aj] at hi;cases hi;exact hb
   · rw[aa e] at hi;exact h.box i b' hi hc
 · by_cases e:i=id
   · by_cases e':j=id
     · rw[e,e']
     · rw[aa e'] at hj;subst e;exact(h1 j b2 hj hc' he.symm).elim
   · rw[aa e] at hi;by_cases e':j=id
     · subst e';exact(h1 i b1 hi hc he).elim
     · rw[aa e'] at hj;exact h.bb i j b1 b2 hi hj hc hc' he
 · by_cases e:i=id
   · subst e;exact h2 j t hj
   · rw[aa e] at hi;exact h.bt i j b1 t hi hc hj
 · by_cases e:i=id
   · subst e;exact h3
   · rw[aa e] at hi;exact h.own i b' hi hc
 · obtain⟨e1,e2,e3⟩:=h.ins i hin;refine⟨e1,e2,?_⟩;by_cases e:i=id
   · subst e;rw[aj];rfl
   · rw[aa e];exact e3
def HInv.addTok(h:HInv c E bx tk w){id:Nat}{t:Tok}(ht:Go.Abs.TokOk E w id t)
 (h1: ∀(j:Nat) (t':Tok) (g:Nat),j≠id→tk.lookup j=some t'→(E.η j).ownBlock=some g→(E.η id).ownBlock≠some g) (h2: ∀(i:Nat) (b:Box),bx.lookup i=some b→b.cs≠ [] →(E.η id).ownBlock≠some (E.ρ i))
 (h3: ∀g,(E.η id).ownBlock=some g→c.w0.heap.size≤g):HInv c E bx ((id,t)::tk) w:=by
 refine⟨h.box,fun i t' hi=> ?_,h.bb,fun i j t1 t2 g hi hj e1 e2=> ?_,fun i j b t' hi hn hj=> ?_,h.own,fun j t' g hj hg=> ?_,h.new,h.old,h.ins,h.kept⟩
 · by_cases e:i=id
   · subst e;rw[aj] at hi;cases hi;exact ht
   · rw[aa e] at hi;exact h.tok i t' hi
 · by_cases e:i=id
   · by_cases e':j=id
     · rw[e,e']
     · rw[aa e'] at hj;subst e;exact(h1 j t2 g e' hj e2 e1).elim
   · rw[aa e] at hi;by_cases e':j=id
     · subst e';exact(h1 i t1 g e hi e1 e2).elim
     · rw[aa e'] at hj;exact h.tt i j t1 t2 g hi hj e1 e2
 · by_cases e:j=id
   · subst e;exact h2 i b hi hn
   · rw[aa e] at hj;exact h.bt i j b t' hi hn hj
 · by_cases e:j=id
   · subst e;exact h3 g hg
   · rw[aa e] at hj;exact h.ownt j t' g hj hg
def jx{t:Tok}(h:Go.Abs.TokOk E w id t){g:Nat}(hg:(E.η id).ownBlock=some g):g<w.heap.size:=by
 rcases h with hn|⟨g',n,cap,cur,hv,hh,_⟩
 · rw[hn] at hg;simp[Value.ownBlock] at hg
 · rw[hv] at hg;simp[Value.ownBlock] at hg;subst hg;exact(Array.getElem?_eq_some_iff.1 hh).1
def sW{b:Box}(h:BoxOk E w id b):E.ρ id<w.heap.size:=by
 obtain⟨_,arr,ha,_⟩:=h;exact(Array.getElem?_eq_some_iff.1 ha).1
def Inv.newBox(hi:Inv c E st a w){id:Nat}(hf:st.fresh id=true){ty:TypeId}{cs:List AV}{us:List Value}
 (hr:RelL E w cs us) (h1: ∀u∈us,u.oneCell'=true) (hm:AV.ments id cs=false):
 Inv c (E.upd id w.heap.size 0 undef) ⟨st.fr,(id,⟨ty,cs⟩)::st.bx,st.tk⟩ a (w.alloc (.cells us.toArray ty (0,0))):=by
 obtain⟨hh,mono⟩:=hi.heap.alloc hf (.cells us.toArray ty (0,0)) 0 undef;have hid:(E.upd id w.heap.size 0 undef).ρ id=w.heap.size:=by simp[Env.upd]
 refine⟨hi.defers,hi.size,fun s v hv=>mono v _ (St.fresh_fr hf hv) (hi.slot s v hv),hh.addBox ?_ ?_ ?_ ?_ ?_⟩
 · cases hq:st.bx.lookup id with
   |none=>rfl
   |some b=>exact((St.fresh_bx hf hq).1 U).elim
 · refine⟨by rw[hid];simp[Env.upd],us,by rw[hid];exact zJ w _,Nat.le_of_eq hr.1.symm,h1,fun i x u hx hu=>mono x u (bB hm i x hx) (hr.2 i x u hx hu),fun k cap he=>by simp[Env.upd,undef,rB] at he⟩
 · intro j b' hj hn;rw[hid];have:(E.upd id w.heap.size 0 undef).ρ j=E.ρ j:=by simp[Env.upd,(St.fresh_bx hf hj).1]
   rw[this];have:=sW (hi.heap.box j b' hj hn);omega
 · intro j t hj;rw[hid];have e:(E.upd id w.heap.size 0 undef).η j=E.η j:=by simp[Env.upd,St.fresh_tk hf hj]
   rw[e];intro hg;have:=jx (hi.heap.tok j t hj) hg;omega
 · rw[hid];exact .inl hi.heap.kept.size
def Inv.newRow(hi:Inv c E st a w){id:Nat}(hf:st.fresh id=true){ty:TypeId}{k cap:Nat}{es:List (List IV)}{us:List Value}
 (hk: ∀(i:Nat) (e:List IV),es[i]?=some e→e.length=k) (hl:us.length=cap*k) (hc:es.length≤cap) (hm:cap≤maxLen)
 (hr: ∀(i:Nat) (e:List IV) (j:Nat) (x:IV) (u:Value),es[i]?=some e→e[j]?=some x→us[i*k+j]?=some u→RepI E.φ w x u):
 ∃E',Inv c E' ⟨st.fr,st.bx,(id,⟨ty,k⟩)::st.tk⟩ a (w.alloc (.cells us.toArray ty (0,0)))∧
  RepA E' (w.alloc (.cells us.toArray ty (0,0))) (.row id es) (.slice (some ⟨w.heap.size,0,none⟩) es.length cap):=by
 obtain⟨hh,mono⟩:=hi.heap.alloc hf (.cells us.toArray ty (0,0)) (es.length*k) (.slice (some ⟨w.heap.size,0,none⟩) es.length cap);have hid:(E.upd id w.heap.size (es.length*k) (.slice (some ⟨w.heap.size,0,none⟩) es.length cap)).η id= .slice (some ⟨w.heap.size,0,none⟩) es.length cap:=by simp[Env.upd]
 have hidx: ∀(i:Nat) (e:List IV) (j:Nat) (x:IV),es[i]?=some e→e[j]?=some x→i*k+j<es.length*k:=fun i e j x h1 h2=>by
  have hi':=(gS h1).1;have hj':=(gS h2).1;rw[hk i e h1] at hj';calc i*k+j<i*k+k:=C
   _=(i+1)*k:=by rw[Nat.add_mul,Nat.one_mul]
   _≤es.length*k:=mR k hi'
 have hle2:es.length*k≤cap*k:=mR k hc;have hkk:Keeps E.φ w (w.alloc (.cells us.toArray ty (0,0))):=Keeps.alloc hi.heap.new _;have hle: ∀b,E.φ b≤(E.upd id w.heap.size (es.length*k) (.slice (some ⟨w.heap.size,0,none⟩) es.length cap)).φ b:=fun b=>by
  simp only[Env.upd];split
  · rename_i e;rw[hi.heap.new b C];exact Nat.zero_le _
  · exact Nat.le_refl _
 refine⟨_,⟨hi.defers,hi.size,fun s v hv=>mono v _ (St.fresh_fr hf hv) (hi.slot s v hv),hh.addTok ?_ ?_ ?_ ?_⟩,.row hid.symm ?_⟩
 · refine .inr ⟨w.heap.size,es.length,cap,us.toArray,hid,zJ w _,hc,hm,Nat.le_of_eq (by simpa using hl.symm),by simp[Env.upd]⟩
 · intro j t' g hne hj hg;rw[hid];simp only[Value.ownBlock,ne_eq,Option.some.injEq];have e:(E.upd id w.heap.size (es.length*k) (.slice (some ⟨w.heap.size,0,none⟩) es.length cap)).η j=E.η j:=by simp[Env.upd,hne]
   rw[e] at hg;have:=jx (hi.heap.tok j t' hj) hg;omega
 · intro i b hb hn;rw[hid];simp only[Value.ownBlock,ne_eq,Option.some.injEq];have e:(E.upd id w.heap.size (es.length*k) (.slice (some ⟨w.heap.size,0,none⟩) es.length cap)).ρ i=E.ρ i:=by simp[Env.upd,(St.fresh_bx hf hb).1]
   rw[e];have:=sW (hi.heap.box i b hb hn);omega
 · intro g hg;rw[hid] at hg;simp[Value.ownBlock] at hg;subst hg;exact hi.heap.kept.size
 · refine .sl (k:=k) (fun i j=>us.getD (i*k+j) undef) hc hm hk (fun i e j x h1 h2=> ?_) (fun i e j x h1 h2=> ?_) (fun i e j x h1 h2=> ?_)
   · have:=hidx i e j x h1 h2;simp only[Env.upd,if_true];omega
   · have:=hidx i e j x h1 h2;rw[Nat.zero_add,World.cell?_alloc_new];have hlt:i*k+j<us.length:=C;simp[hlt]
   · have:=hidx i e j x h1 h2;have hlt:i*k+j<us.length:=C;have hu:us[i*k+j]?=some (us.getD (i*k+j) undef):=by simp[gG hlt]
     exact(hr i e j x _ h1 h2 hu).mono hkk hle
def Inv.drew(hi:Inv c E st a w):Inv c E st a w.drew:=by
 have hk:Keeps E.φ w w.drew:=fun _ _ _=>rfl
 refine⟨hi.defers,hi.size,fun s v hv=>(hi.slot s v hv).keep hk,⟨fun i b hb hn=> ?_,fun i t ht=>hi.heap.tok i t ht,hi.heap.bb,hi.heap.tt,hi.heap.bt,hi.heap.own,hi.heap.ownt,hi.heap.new,hi.heap.old,hi.heap.ins,?_⟩⟩
 · obtain⟨h0,arr,ha,hl,h1,hr,hq⟩:=hi.heap.box i b hb hn;exact⟨h0,arr,ha,hl,h1,fun k x u hx hu=>(hr k x u hx hu).keep hk,hq⟩
 · exact hi.heap.kept.next U U U nR (fun _ _ _=>rfl)
end
section
variable {P:Program}{c:Ctx}{st:St}{ops:Array Oper}{Q:Exit→Act→World→Prop}{rest:List Oper}{o:Oper}
def Makes(P:Program)(c:Ctx)(st:St)(o:Oper)(v:AV)(bx:List (Nat×Box))(tk:List (Nat×Tok)):Prop:=
 ∀(E:Env) (a:Act) (w:World),Inv c E st a w→ ∃(u:Value) (E':Env) (w':World),(execOp a.eval o).run P w= .ok (.value u) w'∧Inv c E' ⟨st.fr,bx,tk⟩ a w'∧RepA E' w' v u
def L.make{d:Nat}{v:AV}{bx:List (Nat×Box)}{tk:List (Nat×Tok)}(hg:o.guard=none)(hd:o.dst=some d)(hlt:Nat.ble (d+1) c.nt=true)(hy:Makes P c st o v bx tk)
 (h:L c ⟨(d,v)::st.fr,bx,tk⟩ (wpList P ops Q rest)):L c st (wpList P ops Q (o::rest)):=by
 rintro a w ⟨E,hi⟩;obtain⟨u,E',w',hr,hi',hv⟩:=hy E a w hi;refine wpList_plain hg (fun K hK=>en hr (hK _ _ ?_));rw[hd];exact h _ _ ⟨E',hi'.put (bT hlt) hv⟩
def Makes.box{t:TypeId}{x:Operand}{id:Nat}{v:AV}(ho:o.op= .box t x)(hx:st.ev x=v)(hv:v.lays=true)(hf:st.fresh id=true)(hm:AV.ments id v.cells=false):
 Makes P c st o (.ptr id 0) ((id,⟨t,v.cells⟩)::st.bx) st.tk:=fun E a w hi=>by
 have h:=hi.ev x;rw[hx] at h;obtain⟨hr,h1⟩:=h.lay hv;refine⟨_,_,_,?_,hi.newBox hf (ty:=t) hr h1 hm,.ptr U⟩;simp[execOp,ho,Instr.box,newVar,newRow,Env.upd]
def Makes.alloc{t:TypeId}{id:Nat}{z:Value}{i:TypeInfo}(ho:o.op= .alloc t)(hz:(P.info? t).bind (·.zero)=some z)(h1:z.cells.toList.all (·.oneCell')=true)(hf:st.fresh id=true)
 (hm:AV.ments id (z.cells.toList.map cz)=false):
 Makes P c st o (.ptr id 0) ((id,⟨t,z.cells.toList.map cz⟩)::st.bx) st.tk:=fun E a w hi=>by
 refine⟨_,_,_,?_,hi.newBox hf (ty:=t) (tM E w _ h1) (aT h1) hm,.ptr U⟩;cases hq:P.info? t with
 |none=>simp[hq] at hz
 |some i=>
  simp only[hq,Option.bind_some] at hz;simp[execOp,ho,Instr.alloc,zeroValue,typeInfo,hq,hz,newVar,newRow,Env.upd]
end
def mb(cs:List AV)(off:Nat)(vs:List AV):List AV:=cs.take off++(vs++cs.drop (off+vs.length))
def lS(place:Nat→Option (Nat×Nat)):List AV→List (Nat×AV)→Option (List AV)
 |cs,[] =>some cs
 |cs,(i,v)::r=>
  match place i with
  |none=>none
  |some (off,size)=>if v.lays && v.cells.length==size && off+size≤cs.length then lS place (mb cs off v.cells) r else none
def yq(off:Nat): ∀(vs:List Value) (k:Nat) (arr:Array Value),off+k+vs.length≤arr.size→
 ((vs.zipIdx k).foldl (fun cs (p:Value×Nat)=>cs.setIfInBounds (off+p.2) p.1) arr).toList=arr.toList.take (off+k)++(vs++arr.toList.drop (off+k+vs.length))
 | [],k,arr,h=>by simp
 |v::vs,k,arr,h=>by
  simp only[lC] at h;simp only[List.zipIdx_cons,List.foldl_cons];rw[yq off vs (k+1) _ (by simp;omega)];apply List.ext_getElem?;intro i;simp only[Array.toList_setIfInBounds,lC,List.getElem?_append,lT,List.length_set,Array.length_toList,List.getElem?_take,List.getElem?_set,List.getElem?_drop];by_cases h1:i<off+k
  · have e1:i<min (off+(k+1)) arr.size:=C;have e2:i<min (off+k) arr.size:=C;simp only[e1,e2,if_true];rw[if_pos C,if_neg C,if_pos h1]
  · by_cases h2:i=off+k
    · subst h2;have e1:off+k<min (off+(k+1)) arr.size:=C;have e2: ¬off+k<min (off+k) arr.size:=C;simp only[e1,e2,if_true,if_false];rw[if_pos C];have e3:off+k - min (off+k) arr.size=0:=C;have e4:off+k<arr.size:=C;simp[e3,e4]
    · have e1: ¬i<min (off+(k+1)) arr.size:=C;have e2: ¬i<min (off+k) arr.size:=C;simp only[e1,e2,if_false];have e3:i - min (off+k) arr.size=(i - min (off+(k+1)) arr.size)+1:=C;rw[e3];simp only[List.getElem?_cons_succ,Nat.add_lt_add_iff_right];split
      · rfl
      · rw[if_neg C];congr 1
        omega
def ro{E:Env}{w:World}{place:Nat→Option (Nat×Nat)}: ∀(parts:List (Nat×AV)) (pv:List (Nat×Value)) (cs cs':List AV) (arr:Array Value),
 RelL E w cs arr.toList→(∀u∈arr.toList,u.oneCell'=true)→pv.length=parts.length→(∀(n:Nat) (p:Nat×AV) (q:Nat×Value),parts[n]?=some p→pv[n]?=some q→q.1=p.1∧RepA E w p.2 q.2)→
 lS place cs parts=some cs'→ ∃arr':Array Value,Instr.fill place arr pv=some arr'∧RelL E w cs' arr'.toList∧ ∀u∈arr'.toList,u.oneCell'=true
 | [],pv,cs,cs',arr,hr,h1,hl,hp,hf=>by
   simp[lS] at hf;subst hf;have:pv= []:=nZ (by simpa using hl);subst this;exact⟨arr,rfl,hr,h1⟩
 |(i,v)::parts,pv,cs,cs',arr,hr,h1,hl,hp,hf=>by
  match pv,hl with
  |(i',u)::pv,hl=>
   obtain⟨he,hv⟩:=hp 0 (i,v) (i',u) U U;simp only at he hv;subst he;simp only[lS] at hf;cases hpl:place i' with
   |none=>rw[hpl] at hf;simp at hf
   |some q=>
    obtain⟨off,size⟩:=q;rw[hpl] at hf;simp only at hf;split at hf
    · rename_i hc;simp only[aE,beq_iff_eq,decide_eq_true_eq] at hc;obtain⟨⟨hlay,hsz⟩,hle⟩:=hc;obtain⟨hrv,h1v⟩:=hv.lay hlay;have hul:u.cells.toList.length=size:=by rw[hrv.1,hsz]
      have hal:arr.size=cs.length:=by rw[←hr.1];simp
      have hus:u.cells.size=size:=by simpa using hul
      have hfold:(u.cells.zipIdx.foldl (fun cs (x:Value×Nat)=>cs.setIfInBounds (off+x.2) x.1) arr).toList=arr.toList.take off++(u.cells.toList++arr.toList.drop (off+u.cells.toList.length)):=by
       rw[←Array.foldl_toList];have:=yq off u.cells.toList 0 arr (by rw[hul];omega);simpa using this
      have hnew:RelL E w (mb cs off v.cells) (u.cells.zipIdx.foldl (fun cs (x:Value×Nat)=>cs.setIfInBounds (off+x.2) x.1) arr).toList:=by
       rw[hfold];unfold mb;have:=(hr.take off).append (hrv.append (hr.drop (off+v.cells.length)));rw[hsz] at this⊢;rw[hul];exact this
      have hnew1: ∀x∈(u.cells.zipIdx.foldl (fun cs (x:Value×Nat)=>cs.setIfInBounds (off+x.2) x.1) arr).toList,x.oneCell'=true:=by
       rw[hfold];intro x hx;rcases mA hx with hx|hx
       · exact h1 x (mT hx)
       · rcases mA hx with hx|hx
         · exact h1v x hx
         · exact h1 x (mD hx)
      obtain⟨arr',ha,hb,hc⟩:=ro parts pv _ cs' _ hnew hnew1 (by simpa using hl) (fun n p q h2 h3=>hp (n+1) p q (by simpa using h2) (by simpa using h3)) hf;refine⟨arr',?_,hb,hc⟩;simp only[Instr.fill,hpl];rw[if_neg (by simp[hus];omega)];exact ha
    · cases hf
def vf(P:Program)(t:TypeId):Option (List (Nat×Nat)):=
 match P.underlying t with
 |some (.struct fs)=>fs.toList.mapM (fun f=>(P.info? f.type).map fun i=>(f.offset,i.size))
 |_=>none
def dy(P:Program)(t:TypeId):Option (List Value):=((P.info? t).bind (·.zero)).map (·.cells.toList)
section
variable {P:Program}{c:Ctx}{st:St}{ops:Array Oper}{Q:Exit→Act→World→Prop}{rest:List Oper}{o:Oper}
def sd{E:Env}{a:Act}{w:World}(hi:Inv c E st a w)(parts:Array (Nat×Operand))(n:Nat)(p:Nat×AV)(q:Nat×Value)
 (h1:(parts.toList.map fun x=>(x.1,st.ev x.2))[n]?=some p) (h2:(parts.map fun(i,x)=>(i,a.eval x)).toList[n]?=some q):q.1=p.1∧RepA E w p.2 q.2:=by
 simp only[gP,Array.toList_map] at h1 h2;cases hx:parts.toList[n]? with
 |none=>rw[hx] at h1;simp at h1
 |some x=>
  rw[hx] at h1 h2;simp at h1 h2;subst h1;subst h2;exact⟨rfl,hi.ev x.2⟩
def Yields.build{t:TypeId}{parts:Array (Nat×Operand)}{zs:List Value}{pl:List (Nat×Nat)}{cs:List AV}(ho:o.op= .build t parts)(hz:dy P t=some zs)(h1:zs.all (·.oneCell')=true)
 (hp:vf P t=some pl) (hf:lS (pl[·]?) (zs.map cz) (parts.toList.map fun x=>(x.1,st.ev x.2))=some cs):Yields P c st o (.agg cs):=fun E a w hi=>by
 obtain⟨arr,ha,hr,h1'⟩:=ro (E:=E) (w:=w) _ (parts.map fun(i,x)=>(i,a.eval x)).toList _ _ zs.toArray (by simpa using tM E w zs h1) (by simpa using aT h1)
  sP (fun n p q=>sd hi parts n p q) hf
 have hb:P.built t (parts.map fun(i,x)=>(i,a.eval x)).toList=some arr:=by
  unfold vf at hp;unfold dy at hz;split at hp
  · rename_i fs hu;unfold Program.built;cases hi':P.info? t with
    |none=>simp[hi'] at hz
    |some i=>
     simp only[hi',Option.bind_some,Option.map_eq_some_iff] at hz;obtain⟨z,hz1,hz2⟩:=hz;simp only[hu,hz1,hp];have e1:z.cells=zs.toArray:=by rw[←hz2]
     rw[e1,←ha];congr 1
     funext i
     simp
  · cases hp
 refine⟨.agg arr,by simp only[execOp,ho,run_build w t _ _ hb,Sem.run_bind,Result.andThen_ok,Sem.run_pure],?_⟩;have:=hr.agg h1';simpa using this
def AV.toI:AV→Option IV
 | .iv x=>some x
 | .nils=>some (.sl [])
 | .emp=>some (.sl [])
 | .row _ es=>some (.sl es)
 |_=>none
def RepA.toI{E:Env}{w:World}{v:AV}{x:IV}{u:Value}(h:RepA E w v u)(hx:v.toI=some x):RepI E.φ w x u:=by
 cases v<;>simp only[AV.toI] at hx<;>try (cases hx;done)
 · cases hx;exact h.iv_inv
 · cases hx;cases h;exact .nil
 · cases hx;cases h with|emp hu=>subst hu;exact .emp (fun _=>rfl) (Nat.zero_le _)
 · cases hx;cases h with|row hu h=>exact h
def tO:List AV→Option (List IV)
 | [] =>some []
 |v::vs=>match v.toI,tO vs with
  |some x,some xs=>some (x::xs)
  |_,_=>none
def uA: ∀{vs:List AV} {xs:List IV},tO vs=some xs→xs.length=vs.length∧ ∀(i:Nat) (v:AV) (x:IV),vs[i]?=some v→xs[i]?=some x→v.toI=some x
 | [],xs,h=>by simp[tO] at h;subst h;exact⟨rfl,fun i v x h=>by simp at h⟩
 |v::vs,xs,h=>by
  simp only[tO] at h;split at h
  · rename_i x xs' hx hxs;cases h;obtain⟨hl,hg⟩:=uA hxs;refine⟨by simp[hl],fun i v' x' hv hx'=> ?_⟩;cases i with
    |zero=>simp at hv hx';subst hv;subst hx';exact hx
    |succ i=>exact hg i v' x' (by simpa using hv) (by simpa using hx')
  · cases h
def cY(k:Nat):Nat→List IV→List (List IV)
 |0,_=> []
 |n+1,xs=>xs.take k::cY k n (xs.drop k)
def lj(k:Nat): ∀(n:Nat) (xs:List IV) (i:Nat) (e:List IV),(cY k n xs)[i]?=some e→e=(xs.drop (i*k)).take k
 |0,xs,i,e,h=>by simp[cY] at h
 |n+1,xs,0,e,h=>by simp[cY] at h;simp[h]
 |n+1,xs,i+1,e,h=>by
  have:=lj k n (xs.drop k) i e (by simpa[cY] using h);rw[this,List.drop_drop,Nat.add_mul,Nat.one_mul,Nat.add_comm k]
def ah(k:Nat): ∀(n:Nat) (xs:List IV),(cY k n xs).length=n
 |0,_=>rfl
 |n+1,xs=>by simp[cY,ah]
def Makes.buildSlice{t e:TypeId}{n k id:Nat}{parts:Array (Nat×Operand)}{zs:List Value}{cs:List AV}{xs:List IV}(ho:o.op= .buildSlice t n parts)(hs:bI P t e k=true)
 (hz:dy P e=some zs) (h1:zs.all (·.oneCell')=true) (hzl:zs.length=k) (hn:n*k≤16777216) (hnk:0<k)
 (hf:lS (fun i=>some (i*k,k)) ((List.range (n*k)).map fun i=>cz (zs.getD (i % k) undef)) (parts.toList.map fun x=>(x.1,st.ev x.2))=some cs)
 (hx:tO cs=some xs) (hcl:cs.length=n*k) (hfr:st.fresh id=true):Makes P c st o (.row id (cY k n xs)) st.bx ((id,⟨e,k⟩)::st.tk):=fun E a w hi=>by
 obtain⟨hu,inf,hinf,hsz⟩:=aH hs;have hz0: ∃z,inf.zero=some z∧z.cells=zs.toArray:=by
  unfold dy at hz;simp only[hinf,Option.bind_some,Option.map_eq_some_iff] at hz;obtain⟨z,hz1,hz2⟩:=hz;exact⟨z,hz1,by rw[←hz2]⟩
 obtain⟨z,hz1,hz2⟩:=hz0;have hget: ∀i,i<n*k→zs.toArray[i % zs.toArray.size]! =zs.getD (i % k) undef:=fun i hi=>by
  have:i % k<zs.length:=by rw[hzl];exact Nat.mod_lt _ hnk
  simp[hzl];rw[gG this];rfl
 have hinit:((Array.range (n*k)).map (zs.toArray[· % zs.toArray.size]!))=((List.range (n*k)).map fun i=>zs.getD (i % k) undef).toArray:=by
  apply Array.ext';simp only[Array.toList_map,Array.toList_range];exact List.map_congr_left (fun i hi=>hget i (List.mem_range.1 hi))
 have hone: ∀i,i<n*k→(zs.getD (i % k) undef).oneCell'=true:=fun i hi=>by
  have hlt:i % k<zs.length:=by rw[hzl];exact Nat.mod_lt _ hnk
  have:zs.getD (i % k) undef=zs[i % k]:=by simp[hlt]
  rw[this];exact aT h1 _ (List.getElem_mem hlt)
 have hrel:RelL E w ((List.range (n*k)).map fun i=>cz (zs.getD (i % k) undef)) ((List.range (n*k)).map fun i=>zs.getD (i % k) undef):=by
  refine⟨by simp,fun i c u hc hu=> ?_⟩;simp only[gP] at hc hu;cases hr:(List.range (n*k))[i]? with
  |none=>rw[hr] at hc;simp at hc
  |some j=>
   rw[hr] at hc hu;simp only[Option.map_some,Option.some.injEq] at hc hu;subst hc;subst hu;exact jq E w _ (hone j (List.mem_range.1 (gE hr)))
 obtain⟨arr,ha,hr,h1'⟩:=ro (E:=E) (w:=w) _ (parts.map fun(i,x)=>(i,a.eval x)).toList _ _ ((List.range (n*k)).map fun i=>zs.getD (i % k) undef).toArray (by simpa using hrel)
  (fun u hu=>by
    simp only[List.mem_map,List.mem_range] at hu;obtain⟨i,hi',rfl⟩:=hu;exact hone i hi')
  sP (fun n p q=>sd hi parts n p q) hf
 obtain⟨hxl,hxg⟩:=uA hx;have hlen: ∀(i:Nat) (e':List IV),(cY k n xs)[i]?=some e'→e'.length=k:=fun i e' he=>by
  have hlt:=(gS he).1;rw[ah] at hlt;rw[lj k n xs i e' he];simp only[lT,lD,hxl,hcl];have:(i+1)*k≤n*k:=mR k hlt;rw[Nat.add_mul,Nat.one_mul] at this;omega
 obtain⟨E',hi',hv⟩:=hi.newRow hfr (ty:=e) (k:=k) (cap:=n) (es:=cY k n xs) (us:=arr.toList) hlen (by rw[hr.1,hcl]) (by rw[ah];exact Nat.le_refl _) (by have:n≤n*k:=Nat.le_mul_of_pos_right n hnk;simp only[maxLen];omega)
  (fun i e' j x u he hj hu=>by
    rw[lj k n xs i e' he] at hj;rw[List.getElem?_take] at hj;split at hj
    · rw[List.getElem?_drop] at hj;have hlt:i*k+j<cs.length:=by rw[←hxl];exact(gS hj).1
      exact(hr.2 _ _ u (gG hlt) hu).toI (hxg _ _ x (gG hlt) hj)
    · cases hj)
 rw[ah] at hv;refine⟨_,E',_,?_,hi',hv⟩;have hbig: ¬(n*k>2 ^ 24):=C;have hfill:Instr.fill (fun i=>some (i*k,k)) ((Array.range (n*k)).map (zs.toArray[· % zs.toArray.size]!)) (parts.map fun(i,x)=>(i,a.eval x)).toList=some arr:=by rw[hinit];exact ha
 have hat:arr.toList.toArray=arr:=by simp
 rw[hat];by_cases h0:n*k=0
 · have:n=0:=by
    rcases Nat.mul_eq_zero.1 h0 with h|h
    · exact h
    · omega
   subst this;have e0:Array.range 0= #[]:=rfl;have hfill':Instr.fill (fun i=>some (i*k,k)) #[] (parts.map fun(i,x)=>(i,a.eval x)).toList=some arr:=by simpa[e0] using hfill
   simp only[Array.toList_map] at hfill';simp[execOp,ho,Instr.buildSlice,run_underlying hu,sizeOf,typeInfo,hinf,hsz,newRow,e0,hfill']
 · simp only[execOp,ho,Instr.buildSlice,Sem.run_bind,run_underlying hu,sizeOf,typeInfo,zeroValue,run_program,hinf,hsz,hz1,hz2,Result.andThen_ok,Sem.run_pure,hbig,h0,if_false,hfill,newRow,run_newObj,Sem.run_ite];rfl
end
def jf{β:Type}{p:Nat→Bool}: ∀{l:List (Nat×β)} {s:Nat} {v:β},(l.filter (fun q=>p q.1)).lookup s=some v→p s=true
 | [],s,v,h=>by simp at h
 |(t,u)::l,s,v,h=>by
  by_cases hp:p t=true
  · by_cases e:s=t
    · rw[e];exact hp
    · have e':(s==t)=false:=by simpa using e
      exact jf (l:=l) (by simpa[List.filter_cons,hp,List.lookup,e'] using h)
  · simp only[Bool.not_eq_true] at hp;exact jf (l:=l) (by simpa[List.filter_cons,hp] using h)
def delTok(id:Nat)(tk:List (Nat×Tok)):List (Nat×Tok):=tk.filter (fun p=>(fun n=>n !=id) p.1)
def gF{id j:Nat}{tk:List (Nat×Tok)}{t:Tok}(h:(delTok id tk).lookup j=some t):j≠id∧tk.lookup j=some t:=
 ⟨by simpa using jf (p:=fun n=>n !=id) h,ix (fun n=>n !=id) tk j t h⟩
def oU(w:World)(g:Nat)(cs:Array Value)(b o:Nat)(h:b≠g):(w.setRow g cs).cell? ⟨b,o,none⟩=w.cell? ⟨b,o,none⟩:=cell_setRow_other w g cs ⟨b,o,none⟩ h
section
variable {c:Ctx}{E:Env}{st:St}{a:Act}{w:World}
def HInv.recell{bx:List (Nat×Box)}{tk:List (Nat×Tok)}(h:HInv c E bx tk w){id:Nat}{b b':Box}(hb:bx.lookup id=some b)(ht:b.ty=b'.ty)(hc:Subs b.cs b'.cs):HInv c E ((id,b')::bx) tk w:=by
 refine HInv.wk (st:=⟨[],bx,tk⟩) (st':=⟨[],(id,b')::bx,tk⟩) h ⟨fun i hin=> ?_,fun s v hv=>by simp at hv,fun i b1 hi=> ?_,fun i t h=>h⟩
 · by_cases e:i=id
   · subst e;show(List.lookup i ((i,b')::bx)).isSome=true;rw[aj];rfl
   · show(List.lookup i ((id,b')::bx)).isSome=true;rw[aa e];exact(h.ins i hin).2.2
 · have hi:List.lookup i ((id,b')::bx)=some b1:=hi;by_cases e:i=id
   · subst e;rw[aj] at hi;cases hi;exact⟨b,hb,ht,hc⟩
   · rw[aa e] at hi;exact⟨b1,hi,rfl,Subs.refl _⟩
def Inv.setBox(hi:Inv c E st a w){id:Nat}{b:Box}(hb:st.bx.lookup id=some b)(hbn:b.cs≠ []){arr rest:List Value}(ha:w.heap[E.ρ id]?=some (.cells (arr++rest).toArray b.ty (0,0)))
 (h1r: ∀u∈rest,u.oneCell'=true) {cs:List AV} {us:List Value} (hl:us.length=arr.length) (hr:RelL E w cs us) (h1: ∀u∈us,u.oneCell'=true):
 Inv c E ⟨st.fr,(id,⟨b.ty,cs⟩)::st.bx,st.tk⟩ a (w.setRow (E.ρ id) (us++rest).toArray):=by
 obtain⟨h0,arr0,ha0,hla,h1a,hra,hq⟩:=hi.heap.box id b hb hbn;have hk:Keeps E.φ w (w.setRow (E.ρ id) (us++rest).toArray):=fun b' o ho=>by
  have:b'≠E.ρ id:=fun e=>by rw[e,h0] at ho;cases ho
  exact oU w _ _ _ _ this
 have hlt:E.ρ id<w.heap.size:=(Array.getElem?_eq_some_iff.1 ha).1;have hsz:arr0.length=(us++rest).length:=by
  rw[ha] at ha0;simp only[Option.some.injEq,Obj.cells.injEq] at ha0;have h9:arr++rest=arr0:=congrArg Array.toList ha0.1;rw[←h9,gV,gV,hl]
 refine⟨hi.defers,hi.size,fun s v hv=>(hi.slot s v hv).keep hk,⟨fun i b' hb' hn=> ?_,fun i t ht=> ?_,fun i j b1 b2 hi' hj hn hn' he=> ?_,hi.heap.tt,fun i j b1 t hi' hn hj=> ?_,fun i b1 hi' hn=> ?_,hi.heap.ownt,fun b' hb'=> ?_,hi.heap.old,fun i hin=> ?_,?_⟩⟩
 · by_cases e:i=id
   · subst e;rw[aj] at hb';cases hb';refine⟨h0,us++rest,?_,?_,?_,fun i x u hx hu=> ?_,fun k cap he=>by rw[←hsz];exact hq k cap he⟩
     · exact setRow_heap w _ _ _ _ _ ha
     · rw[gV,hr.1];exact Nat.le_add_right _ _
     · intro u hu;rcases mA hu with hu|hu
       · exact h1 u hu
       · exact h1r u hu
     · have hlt':=(gS hx).1;rw[gL (by rw[hr.1];exact hlt')] at hu;exact(hr.2 i x u hx hu).keep hk
   · rw[aa e] at hb';obtain⟨h0',arr',ha',hla',h1a',hra',hq'⟩:=hi.heap.box i b' hb' hn;refine⟨h0',arr',?_,hla',h1a',fun i x u hx hu=>(hra' i x u hx hu).keep hk,hq'⟩;rw[setRow_other w _ _ _ (fun e'=>e (hi.heap.bb i id b' b hb' hb hn hbn e'))];exact ha'
 · rcases hi.heap.tok i t ht with hn|⟨g,n,cap,cur,hv,hg,rest⟩
   · exact .inl hn
   · refine .inr ⟨g,n,cap,cur,hv,?_,rest⟩;rw[setRow_other w _ _ _ (fun e'=>hi.heap.bt id i b t hb hbn ht (by rw[hv];simp[Value.ownBlock,e']))];exact hg
 · have f: ∀(i:Nat) (b1:Box),List.lookup i ((id,⟨b.ty,cs⟩)::st.bx)=some b1→b1.cs≠ [] → ∃b2,st.bx.lookup i=some b2∧b2.cs≠ []:=fun i b1 h hn=>by
    by_cases e:i=id
    · subst e;exact⟨b,hb,hbn⟩
    · rw[aa e] at h;exact⟨b1,h,hn⟩
   obtain⟨b3,h3,n3⟩:=f i b1 hi' hn;obtain⟨b4,h4,n4⟩:=f j b2 hj hn';exact hi.heap.bb i j b3 b4 h3 h4 n3 n4 he
 · by_cases e:i=id
   · subst e;exact hi.heap.bt i j b t hb hbn hj
   · rw[aa e] at hi';exact hi.heap.bt i j b1 t hi' hn hj
 · by_cases e:i=id
   · subst e;exact hi.heap.own i b hb hbn
   · rw[aa e] at hi';exact hi.heap.own i b1 hi' hn
 · exact hi.heap.new b' (by simpa using hb')
 · obtain⟨e1,e2,e3⟩:=hi.heap.ins i hin;refine⟨e1,e2,?_⟩;by_cases e:i=id
   · subst e;rw[aj];rfl
   · rw[aa e];exact e3
 · refine hi.heap.kept.next U U U sP (fun k hk' hm=> ?_);have:k≠E.ρ id:=fun e=>by
    rcases hi.heap.own id b hb hbn with h|h
    · omega
    · rw[←e] at h;exact hm h
   exact setRow_other w _ _ _ this
def Inv.growRow(hi:Inv c E st a w){id id':Nat}(hf:st.fresh id'=true){t:Tok}(ht:st.tk.lookup id=some t){g n n' cap:Nat}{cur cur':Array Value}(hv:E.η id= .slice (some ⟨g,0,none⟩) n cap)
 (hg:w.heap[g]?=some (.cells cur t.ty (0,0))) (hφ:E.φ g≤n*t.k) (hs:cap*t.k≤cur'.size) (hsame: ∀o,o<n*t.k→cur'[o]?=cur[o]?) (hn:n≤n') (hc:n'≤cap) (hm:cap≤maxLen):
 Inv c ⟨fun b=>if b=g then n'*t.k else E.φ b,E.ρ,fun i=>if i=id' then .slice (some ⟨g,0,none⟩) n' cap else E.η i⟩ ⟨st.fr,st.bx,(id',t)::delTok id st.tk⟩ a (w.setRow g cur')∧
  Keeps E.φ w (w.setRow g cur')∧ ∀b,E.φ b≤(if b=g then n'*t.k else E.φ b):=by
 have hk:Keeps E.φ w (w.setRow g cur'):=fun b o ho=>by
  by_cases e:b=g
  · subst e;rw[cell_of_row _ _ _ _ _ _ (setRow_heap w b cur cur' _ _ hg),cell_of_row w _ _ _ _ _ hg];exact hsame o C
  · exact oU w _ _ _ _ e
 have hle: ∀b,E.φ b≤(if b=g then n'*t.k else E.φ b):=fun b=>by
  split
  · rename_i e;subst e;exact Nat.le_trans hφ (mR _ hn)
  · exact Nat.le_refl _
 have hlt:g<w.heap.size:=(Array.getElem?_eq_some_iff.1 hg).1;have hown:(E.η id).ownBlock=some g:=by rw[hv];rfl
 have hidne:id≠id':=St.fresh_tk hf ht;have mono: ∀(x:AV) (u:Value),AV.ment id' x=false→RepA E w x u→RepA ⟨fun b=>if b=g then n'*t.k else E.φ b,E.ρ,fun i=>if i=id' then .slice (some ⟨g,0,none⟩) n' cap else E.η i⟩ (w.setRow g cur') x u:=fun x u hm hr=>
  hr.mono hk hle (fun i hi'=>by
    have:i≠id':=fun e=>by subst e;rw[hm] at hi';cases hi'
    exact⟨rfl,by simp[this]⟩)
 refine⟨⟨hi.defers,hi.size,fun s v hv=>mono v _ (St.fresh_fr hf hv) (hi.slot s v hv),?_⟩,hk,hle⟩;have base:HInv c ⟨fun b=>if b=g then n'*t.k else E.φ b,E.ρ,fun i=>if i=id' then .slice (some ⟨g,0,none⟩) n' cap else E.η i⟩ st.bx (delTok id st.tk) (w.setRow g cur'):=by
  have hη: ∀i,i≠id'→(if i=id' then Value.slice (some ⟨g,0,none⟩) n' cap else E.η i)=E.η i:=fun i h=>by simp[h]
  refine⟨fun i b hb hn=> ?_,fun i t' ht'=> ?_,hi.heap.bb,fun i j t1 t2 g' hi' hj h1 h2=> ?_,fun i j b t1 hb hn hj=> ?_,hi.heap.own,fun j t1 g' hj hg'=> ?_,fun b hb=> ?_,fun b hb=> ?_,fun i hin=> ?_,?_⟩
  · obtain⟨h0,arr,ha,hl,h1,hr,hq⟩:=hi.heap.box i b hb hn;have hne:E.ρ i≠g:=fun e=>hi.heap.bt i id b t hb hn ht (by rw[hown,e])
    refine⟨by simp only;rw[if_neg hne];exact h0,arr,by rw[setRow_other w _ _ _ hne];exact ha,hl,h1,fun k x u hx hu=>mono x u (bB (St.fresh_bx hf hb).2 k x hx) (hr k x u hx hu),fun k cap he=>hq k cap (by simpa only[hη i (St.fresh_bx hf hb).1] using he)⟩
  · obtain⟨hne,hl⟩:=gF ht';have hne':=St.fresh_tk hf hl;rcases hi.heap.tok i t' hl with hn'|⟨g',m,cap',cur1,hv',hg',r1,r2,r3,r4⟩
    · exact .inl (by simp only;rw[hη i hne'];exact hn')
    · have hgg:g'≠g:=fun e=>hne (hi.heap.tt i id t' t g hl ht (by rw[hv',e];rfl) hown)
      exact .inr ⟨g',m,cap',cur1,by simp only;rw[hη i hne'];exact hv',by rw[setRow_other w _ _ _ hgg];exact hg',r1,r2,r3,by simp only;rw[if_neg hgg];exact r4⟩
  · obtain⟨n1,l1⟩:=gF hi';obtain⟨n2,l2⟩:=gF hj;simp only at h1 h2;rw[hη i (St.fresh_tk hf l1)] at h1;rw[hη j (St.fresh_tk hf l2)] at h2;exact hi.heap.tt i j t1 t2 g' l1 l2 h1 h2
  · obtain⟨n2,l2⟩:=gF hj;simp only;rw[hη j (St.fresh_tk hf l2)];exact hi.heap.bt i j b t1 hb hn l2
  · obtain⟨n2,l2⟩:=gF hj;simp only at hg';rw[hη j (St.fresh_tk hf l2)] at hg';exact hi.heap.ownt j t1 g' l2 hg'
  · simp only;have hb':w.heap.size≤b:=by simpa using hb
    rw[if_neg C];exact hi.heap.new b hb'
  · simp only;have:c.w0.heap.size≤g:=hi.heap.ownt id t g ht hown;rw[if_neg C];exact hi.heap.old b hb
  · obtain⟨e1,e2,e3⟩:=hi.heap.ins i hin;obtain⟨b,hb⟩:=Option.isSome_iff_exists.1 e3;exact⟨e1,(hη i (St.fresh_bx hf hb).1).trans e2,e3⟩
  · refine hi.heap.kept.next U U U sP (fun k hk' hm=> ?_);have:c.w0.heap.size≤g:=hi.heap.ownt id t g ht hown;exact setRow_other w _ _ _ C
 have hid:(if id'=id' then Value.slice (some ⟨g,0,none⟩) n' cap else E.η id')= .slice (some ⟨g,0,none⟩) n' cap:=by simp
 refine base.addTok ?_ ?_ ?_ ?_
 · exact .inr ⟨g,n',cap,cur',hid,setRow_heap w g cur cur' _ _ hg,hc,hm,hs,by simp⟩
 · intro j t' g' hne hj hg';show(if id'=id' then Value.slice (some ⟨g,0,none⟩) n' cap else E.η id').ownBlock≠some g';rw[hid];obtain⟨n2,l2⟩:=gF hj;simp only[hne,if_false] at hg';intro e;simp only[Value.ownBlock,Option.some.injEq] at e;subst e;exact n2 (hi.heap.tt j id t' t g l2 ht hg' hown)
 · intro i b hb hn;show(if id'=id' then Value.slice (some ⟨g,0,none⟩) n' cap else E.η id').ownBlock≠some (E.ρ i);rw[hid];intro e;simp only[Value.ownBlock,Option.some.injEq] at e;exact hi.heap.bt i id b t hb hn ht (by rw[hown,e])
 · intro g' hg';have hg2:(if id'=id' then Value.slice (some ⟨g,0,none⟩) n' cap else E.η id').ownBlock=some g':=hg';rw[hid] at hg2;simp only[Value.ownBlock,Option.some.injEq] at hg2;subst hg2;exact hi.heap.ownt id t g ht hown
end
section
variable {P:Program}{c:Ctx}{st:St}{ops:Array Oper}{Q:Exit→Act→World→Prop}{rest:List Oper}{o:Oper}
def Does(P:Program)(c:Ctx)(st:St)(o:Oper)(bx:List (Nat×Box))(tk:List (Nat×Tok)):Prop:=
 ∀(E:Env) (a:Act) (w:World),Inv c E st a w→ ∃(E':Env) (w':World),(execOp a.eval o).run P w= .ok .skip w'∧Inv c E' ⟨st.fr,bx,tk⟩ a w'
def L.does{bx:List (Nat×Box)}{tk:List (Nat×Tok)}(hg:o.guard=none)(hd:o.dst=none)(hy:Does P c st o bx tk)
 (h:L c ⟨st.fr,bx,tk⟩ (wpList P ops Q rest)):L c st (wpList P ops Q (o::rest)):=by
 rintro a w ⟨E,hi⟩;obtain⟨E',w',hr,hi'⟩:=hy E a w hi;refine wpList_plain hg (fun K hK=> ?_);unfold Oper.wp;rw[hr];simp only[Oper.upon_skip,hd,Act.put];exact hK _ _ (h _ _ ⟨E',hi'⟩)
def Does.store{t:TypeId}{x y:Operand}{id off k:Nat}{b:Box}{v:AV}{agg:Bool}(ho:o.op= .store t x y)(ht:nI P t agg k=true)(hx:st.ev x= .ptr id off)(hb:st.bx.lookup id=some b)
 (hy:st.ev y=v) (hv:v.lays=true) (hk:v.cells.length=k) (hle:off+k≤b.cs.length):Does P c st o ((id,⟨b.ty,mb b.cs off v.cells⟩)::st.bx) st.tk:=fun E a w hi=>by
 obtain⟨arr,rest,ha,hr,h1,h1r,hc⟩:=hi.boxCell hb;have hyv:=hi.ev y;rw[hy] at hyv;obtain⟨hrv,h1v⟩:=hyv.lay hv;have hul:(a.eval y).cells.toList.length=k:=by rw[hrv.1,hk]
 have hnew:RelL E w (mb b.cs off v.cells) (arr.take off++((a.eval y).cells.toList++arr.drop (off+k))):=by
  unfold mb;rw[hk];exact(hr.take off).append (hrv.append (hr.drop (off+k)))
 by_cases hbn:b.cs= []
 ·
  have hk0:k=0:=by rw[hbn] at hle;simp at hle;omega
  have ho0:off=0:=by rw[hbn] at hle;simp at hle;omega
  have he:(a.eval y).cells= #[]:=by
   apply Array.ext';exact nZ (by rw[hul,hk0])
  have hv0:v.cells= []:=nZ (by rw[hk,hk0]);refine⟨E,w,?_,?_⟩
  · simp[execOp,ho,hi.ptr hx,Instr.storeAt,Instr.sureAddr,storeVar,(fJ ht w).2,he,hk0,storeCells]
  · have hb':mb b.cs off v.cells=b.cs:=by rw[hbn,hv0,ho0];rfl
    exact⟨hi.defers,hi.size,hi.slot,hi.heap.recell hb U (by rw[Box.cs_l,hb'];exact Subs.refl _)⟩
 have hrun:=run_storeCells_at P (E.ρ id) off b.ty (a.eval y).cells.toList 0 (arr++rest).toArray w (ha hbn) (by rw[hul];simp[hr.1];omega) h1v;refine⟨E,_,?_,hi.setBox hb hbn (ha hbn) h1r (us:=arr.take off++((a.eval y).cells.toList++arr.drop (off+k))) ?_ hnew ?_⟩
 · have hsz:(a.eval y).cells.size=k:=by simpa using hul
   have hrun':(storeCells ⟨E.ρ id,off,none⟩ (a.eval y).cells.toList).run P w= .ok () (w.setRow (E.ρ id) ((arr.take off++((a.eval y).cells.toList++arr.drop (off+k)))++rest).toArray):=by
    have h1:off+k≤arr.length:=by rw[hr.1];exact hle
    rw[hrun];simp only[Nat.add_zero,hul,List.append_assoc];rw[tA C,List.drop_append_of_le_length h1]
   simp[execOp,ho,hi.ptr hx,Instr.storeAt,Instr.sureAddr,storeVar,(fJ ht w).2,hsz,hrun']
 · have h1:off+k≤arr.length:=by rw[hr.1];exact hle
   simp only[gV,lT,lD,hul];omega
 · intro u hu;rcases mA hu with hu|hu
   · exact h1 u (mT hu)
   · rcases mA hu with hu|hu
     · exact h1v u hu
     · exact h1 u (mD hu)
end
def Src(P:Program)(w:World)(x:Value)(k m:Nat)(news:List Value):Prop:=
 (Builtin.lenOf x).run P w= .ok m w∧(Builtin.firstCells k m x).run P w= .ok news.toArray w∧(Builtin.firstCells k m x).run P w.drew= .ok news.toArray w.drew
def Src.nil(P:Program)(w:World)(k:Nat):Src P w (.slice none 0 0) k 0 []:=⟨rfl,by simp[Builtin.firstCells],by simp[Builtin.firstCells]⟩
def Src.some{P:Program}{w:World}{k m cap:Nat}{b:Addr}{news:List Value}(hl:news.length=m*k)(h: ∀j v,news[j]?=some v→w.cell? (b.add j)=some v):Src P w (.slice (some b) m cap) k m news:=
 ⟨rfl,run_firstCells_some w k m b m cap news hl h,run_firstCells_some w.drew k m b m cap news hl (by simpa using h)⟩
def gB(d:TypeDesc):Prop:=(∃e,d= .slice e)∨d= .string
section
variable {P:Program}{w:World}{t t' ty e:TypeId}{d:TypeDesc}{i:TypeInfo}{x:Value}{m:Nat}{news:List Value}
def Jv(ht:P.underlying t=some (.slice e))(hd:P.underlying t'=some d)(hn:gB d)(hi:P.info? e=some i)(hs:Src P w x i.size m news)(hl:news.length=m*i.size)
 {g n cap:Nat} {cur:Array Value} (hg:w.heap[g]?=some (.cells cur e (0,0))) (h1: ∀u∈news,u.oneCell'=true) (hroom:n+m≤cap) (hfit:n*i.size+news.length≤cur.size):
 (Builtin.append_ #[t,t'] ty #[.slice (some ⟨g,0,none⟩) n cap,x]).run P w=
   .ok (.slice (some ⟨g,0,none⟩) (n+m) cap) (w.setRow g (cur.toList.take (n*i.size)++news++cur.toList.drop (n*i.size+news.length)).toArray):=by
 have hst:=run_storeCells_at P g (n*i.size) e news 0 cur w hg (by simpa using hfit) h1;simp only[Nat.add_zero] at hst;obtain⟨hs1,hs2,_⟩:=hs;rcases hn with⟨e',rfl⟩|rfl<;>simp[Builtin.append_,run_underlying ht,run_underlying hd,sizeOf,typeInfo,hi,hs1,hroom,hs2,aK,hst]
def Cu(ht:P.underlying t=some (.slice e))(hd:P.underlying t'=some d)(hn:gB d)(hi:P.info? e=some i)(hs:Src P w x i.size 0 []):
 (Builtin.append_ #[t,t'] ty #[.slice none 0 0,x]).run P w= .ok (.slice none 0 0) w:=by
 obtain⟨hs1,hs2,_⟩:=hs;rcases hn with⟨e',rfl⟩|rfl<;>simp[Builtin.append_,run_underlying ht,run_underlying hd,sizeOf,typeInfo,hi,hs1,hs2]
def wI(ht:P.underlying t=some (.slice e))(hd:P.underlying t'=some d)(hn:gB d)(hi:P.info? e=some i){z:Value}(hz:i.zero=some z)(hs:Src P w x i.size m news)
 {base:Option Addr} {n cap:Nat} {olds:List Value} (ho:(Builtin.firstCells i.size n (.slice base n cap)).run P w.drew= .ok olds.toArray w.drew)
 (hg:cap<n+m) (h63:((n+m:Nat):Int)≤9223372036854775807) (hfit:Builtin.nextslicecap (n+m) cap*i.bytes≤281474976710656):
 (Builtin.append_ #[t,t'] ty #[.slice base n cap,x]).run P w=
   .ok (.slice (some ⟨w.heap.size,0,none⟩) (n+m) (grownCap w (n+m) cap e))
     (w.drew.alloc (.cells (olds++(news++(Builtin.zeroCells z.cells (grownCap w (n+m) cap e - (n+m))).toList)).toArray e)):=by
 have hn': ¬(n+m≤cap):=C;have h63': ¬(9223372036854775807<((n:Int)+(m:Int))):=C;have h48': ¬(281474976710656<Builtin.nextslicecap (n+m) cap*i.bytes):=C;obtain⟨hs1,_,hs3⟩:=hs;rcases hn with⟨e',rfl⟩|rfl
 all_goals
  simp[Builtin.append_,run_underlying ht,run_underlying hd,sizeOf,typeInfo,zeroValue,hi,hz,hs1,hn',h63',h48',Question.forced,ho,hs3,newRow,grownCap];try (congr 2;apply Array.ext';simp)
end
def EZ{k i j:Nat}(hj:j<k):(i*k+j) / k=i∧(i*k+j) % k=j:=by
 have hk:0<k:=Nat.lt_of_le_of_lt (Nat.zero_le _) hj;constructor
 · rw[Nat.mul_comm,Nat.mul_add_div hk,Nat.div_eq_of_lt hj];rfl
 · rw[Nat.mul_comm,Nat.mul_add_mod,Nat.mod_eq_of_lt hj]
def RepI.cellsOf{φ:Nat→Nat}{w:World}{es:List (List IV)}{u:Value}{k:Nat}(h:RepI φ w (.sl es) u)(hk: ∀e∈es,e.length=k)(hk0:0<k):
 ∃us:List Value,us.length=es.length*k∧(∀x∈us,x.oneCell'=true)∧(∀(i:Nat) (e:List IV) (j:Nat) (x:IV) (v:Value),es[i]?=some e→e[j]?=some x→us[i*k+j]?=some v→RepI φ w x v)∧
  ((u= .slice none 0 0∧es= [])∨(∃(ad:Addr) (cap:Nat),u= .slice (some ad) 0 cap∧ad.spot≠none∧es= [])∨ ∃b o cap,u= .slice (some ⟨b,o,none⟩) es.length cap∧es.length≤cap∧cap≤maxLen∧ ∀j,j<es.length*k→w.cell? ⟨b,o+j,none⟩=us[j]?∧o+j<φ b):=by
 rcases h.sl_inv with⟨rfl,rfl⟩|⟨ad,cap,rfl,hs,hm,rfl⟩|⟨b,o,cap,k',f,rfl,hc,hm,hk',hcell⟩
 · exact⟨[],by simp,by simp,fun i e j x v h1=>by simp at h1,.inl ⟨rfl,rfl⟩⟩
 · exact⟨[],by simp,by simp,fun i e j x v h1=>by simp at h1,.inr (.inl ⟨ad,cap,rfl,hs,rfl⟩)⟩
 · have hkk:es≠ [] →k'=k:=fun hne=>by
    obtain⟨e0,r,rfl⟩:=List.exists_cons_of_ne_nil hne;rw[←hk' 0 e0 U,hk e0 List.mem_cons_self]
   have key: ∀j,j<es.length*k→ ∃(e:List IV) (x:IV),es[j / k]?=some e∧e[j % k]?=some x∧o+j<φ b∧w.cell? ⟨b,o+j,none⟩=some (f (j / k) (j % k))∧RepI φ w x (f (j / k) (j % k)):=fun j hj=>by
    have hi:j / k<es.length:=(Nat.div_lt_iff_lt_mul hk0).2 hj;have he:es[j / k]?=some es[j / k]:=gG hi;have hjk:j % k<es[j / k].length:=by rw[hk _ (List.getElem_mem hi)];exact Nat.mod_lt _ hk0
    have hne:es≠ []:=fun e=>by subst e;simp at hi
    have:=hcell (j / k) _ (j % k) _ he (gG hjk);rw[hkk hne,show o+j / k*k+j % k=o+j by rw[Nat.add_assoc,Nat.mul_comm,Nat.div_add_mod]] at this;exact⟨_,_,he,gG hjk,this⟩
   have hget: ∀j,j<es.length*k→((List.range (es.length*k)).map fun j=>f (j / k) (j % k))[j]?=some (f (j / k) (j % k)):=fun j hj=>by
    rw[gP,List.getElem?_range hj];rfl
   refine⟨(List.range (es.length*k)).map fun j=>f (j / k) (j % k),by simp,fun x hx=> ?_,fun i e j x v h1 h2 h3=> ?_,.inr (.inr ⟨b,o,cap,rfl,hc,hm,fun j hj=> ?_⟩)⟩
   · simp only[List.mem_map,List.mem_range] at hx;obtain⟨j,hj,rfl⟩:=hx;obtain⟨_,_,_,_,_,_,hr⟩:=key j hj;exact hr.oneCell
   · have hj:j<k:=by rw[←hk e (gE h1)];exact(gS h2).1
     have hi:=(gS h1).1;have hlt:i*k+j<es.length*k:=by
      calc i*k+j<i*k+k:=C
       _=(i+1)*k:=by rw[Nat.add_mul,Nat.one_mul]
       _≤es.length*k:=mR k hi
     rw[hget _ hlt,(EZ hj).1,(EZ hj).2] at h3;cases h3;exact(hcell i e j x h1 h2).2.2
   · obtain⟨_,_,_,_,h1,h2,_⟩:=key j hj;rw[hget j hj];exact⟨h2,h1⟩
def Inv.nilTok{c:Ctx}{E:Env}{st:St}{a:Act}{w:World}(hi:Inv c E st a w){id:Nat}(hf:st.fresh id=true)(t:Tok):
 Inv c ⟨E.φ,E.ρ,fun i=>if i=id then .slice none 0 0 else E.η i⟩ ⟨st.fr,st.bx,(id,t)::st.tk⟩ a w∧
  (∀(x:AV) (u:Value),AV.ment id x=false→RepA E w x u→RepA ⟨E.φ,E.ρ,fun i=>if i=id then .slice none 0 0 else E.η i⟩ w x u):=by
 have mono: ∀(x:AV) (u:Value),AV.ment id x=false→RepA E w x u→RepA ⟨E.φ,E.ρ,fun i=>if i=id then .slice none 0 0 else E.η i⟩ w x u:=fun x u hm hr=>
  RepA.mono (E:=E) (w:=w) (w':=w) (h:=hr) (E':=⟨E.φ,E.ρ,fun i=>if i=id then .slice none 0 0 else E.η i⟩) (fun _ _ _=>rfl) (fun _=>Nat.le_refl _) (fun i hi'=>by
   have:i≠id:=fun e=>by subst e;rw[hm] at hi';cases hi'
   exact⟨rfl,by simp[this]⟩)
 have hη: ∀i,i≠id→(if i=id then Value.slice none 0 0 else E.η i)=E.η i:=fun i h=>by simp[h]
 refine⟨⟨hi.defers,hi.size,fun s v hv=>mono v _ (St.fresh_fr hf hv) (hi.slot s v hv),?_⟩,mono⟩;have base:HInv c ⟨E.φ,E.ρ,fun i=>if i=id then .slice none 0 0 else E.η i⟩ st.bx st.tk w:=by
  refine⟨fun i b hb hn=> ?_,fun i t' ht'=> ?_,hi.heap.bb,fun i j t1 t2 g' hi' hj h1 h2=> ?_,fun i j b t1 hb hn hj=> ?_,hi.heap.own,fun j t1 g' hj hg'=> ?_,hi.heap.new,hi.heap.old,fun i hin=> ?_,hi.heap.kept⟩
  · obtain⟨h0,arr,ha,hl,h1,hr,hq⟩:=hi.heap.box i b hb hn;exact⟨h0,arr,ha,hl,h1,fun k x u hx hu=>mono x u (bB (St.fresh_bx hf hb).2 k x hx) (hr k x u hx hu),fun k cap he=>hq k cap (by simpa only[hη i (St.fresh_bx hf hb).1] using he)⟩
  · rcases hi.heap.tok i t' ht' with hn|⟨g,n,cap,cur,hv,rest⟩
    · exact .inl (by simp only;rw[hη i (St.fresh_tk hf ht')];exact hn)
    · exact .inr ⟨g,n,cap,cur,by simp only;rw[hη i (St.fresh_tk hf ht')];exact hv,rest⟩
  · simp only at h1 h2;rw[hη i (St.fresh_tk hf hi')] at h1;rw[hη j (St.fresh_tk hf hj)] at h2;exact hi.heap.tt i j t1 t2 g' hi' hj h1 h2
  · simp only;rw[hη j (St.fresh_tk hf hj)];exact hi.heap.bt i j b t1 hb hn hj
  · simp only at hg';rw[hη j (St.fresh_tk hf hj)] at hg';exact hi.heap.ownt j t1 g' hj hg'
  · obtain⟨e1,e2,e3⟩:=hi.heap.ins i hin;obtain⟨b,hb⟩:=Option.isSome_iff_exists.1 e3;exact⟨e1,(hη i (St.fresh_bx hf hb).1).trans e2,e3⟩
 have hid:(if id=id then Value.slice none 0 0 else E.η id)= .slice none 0 0:=by simp
 refine base.addTok (.inl hid) (fun j t' g _ _ _=> ?_) (fun i b _ _=> ?_) (fun g hg=> ?_)
 · show(if id=id then Value.slice none 0 0 else E.η id).ownBlock≠some g;rw[hid];simp[Value.ownBlock]
 · show(if id=id then Value.slice none 0 0 else E.η id).ownBlock≠some (E.ρ i);rw[hid];simp[Value.ownBlock]
 · have hg':(if id=id then Value.slice none 0 0 else E.η id).ownBlock=some g:=hg;rw[hid] at hg';simp[Value.ownBlock] at hg'
def Inv.delTok{c:Ctx}{E:Env}{st:St}{a:Act}{w:World}(hi:Inv c E st a w)(id:Nat):Inv c E ⟨st.fr,st.bx,Abs.delTok id st.tk⟩ a w:=
 ⟨hi.defers,hi.size,hi.slot,hi.heap.wk (st:=st) (st':=⟨st.fr,st.bx,Abs.delTok id st.tk⟩)
   ⟨fun i hin=>(hi.heap.ins i hin).2.2,fun s v h=>⟨v,h,Sub.refl _⟩,fun i b h=>⟨b,h,rfl,Subs.refl _⟩,fun i t h=>(gF h).2⟩⟩
def nz{id id':Nat}{st:St}(hf:st.fresh id'=true):St.fresh id' ⟨st.fr,st.bx,Abs.delTok id st.tk⟩=true:=by
 simp only[St.fresh,aE,List.all_eq_true] at hf⊢;exact⟨hf.1,fun p hp=>hf.2 p (List.mem_filter.1 hp).1⟩
section
variable {P:Program}{c:Ctx}{st:St}{ops:Array Oper}{Q:Exit→Act→World→Prop}{rest:List Oper}{o:Oper}
def Adds(P:Program)(c:Ctx)(st:St)(y:Operand)(k:Nat)(news:List (List IV)):Prop:=
 ∀(E:Env) (a:Act) (w:World),Inv c E st a w→ ∃us:List Value,Src P w (a.eval y) k news.length us∧us.length=news.length*k∧(∀x∈us,x.oneCell'=true)∧
  ∀(i:Nat) (e:List IV) (j:Nat) (x:IV) (v:Value),news[i]?=some e→e[j]?=some x→us[i*k+j]?=some v→RepI E.φ w x v
def Adds.slice{y:Operand}{k:Nat}{news:List (List IV)}(hy:(st.ev y).sl?=some news)(hk: ∀e∈news,e.length=k)(hk0:0<k):Adds P c st y k news:=fun E a w hi=>by
 obtain⟨us,hl,h1,hr,hc⟩:=((hi.ev y).sl hy).cellsOf hk hk0;refine⟨us,?_,hl,h1,hr⟩;rcases hc with⟨hq,rfl⟩|⟨ad,cap,hq,_,rfl⟩|⟨b,o,cap,hq,_,_,hcell⟩
 · rw[hq];have:us= []:=nZ (by simpa using hl);subst this;exact Src.nil P w k
 · rw[hq];have:us= []:=nZ (by simpa using hl);subst this;exact Src.some sP (fun j v hv=>by simp at hv)
 · rw[hq];exact Src.some hl (fun j v hv=>by
    have hj:j<news.length*k:=by rw[←hl];exact(gS hv).1
    rw[aK,(hcell j hj).1];exact hv)
def Adds.string{y:Operand}{s:List UInt8}(hy:st.ev y=aS s):Adds P c st y 1 (s.map fun b=> [IV.im (.int .u8 b.toNat)]):=fun E a w hi=>by
 refine⟨s.map fun b=> .int .u8 b.toNat,?_,by simp,fun x hx=> ?_,fun i e j x v h1 h2 h3=> ?_⟩
 · rw[hi.im hy];have he:((ByteArray.mk s.toArray).extract 0 s.length)=ByteArray.mk s.toArray:=by
    apply ByteArray.ext;simp[ByteArray.data_extract]
   refine⟨by simp[Builtin.lenOf,ByteArray.size],?_,?_⟩
   · simp only[lM,Builtin.firstCells,Sem.run_pure,he];simp
   · simp only[lM,Builtin.firstCells,Sem.run_pure,he];simp
 · simp only[List.mem_map] at hx;obtain⟨b,_,rfl⟩:=hx;rfl
 · simp only[gP,Option.map_eq_some_iff] at h1;obtain⟨b,hb,rfl⟩:=h1;cases j with
   |zero=>
    simp at h2;subst h2;simp only[Nat.mul_one,Nat.add_zero,gP,hb,Option.map_some,Option.some.injEq] at h3;subst h3;exact .im U
   |succ j=>simp at h2
def Makes.append{t t' e:TypeId}{d:TypeDesc}{x y:Operand}{id id' k bytes:Nat}{i:TypeInfo}{z:Value}{es news:List (List IV)}
 (ho:o.op= .call {callee:= .builtin .append,args:= #[x,y],argTypes:= #[t,t']}) (ht:P.underlying t=some (.slice e)) (hi0:P.info? e=some i) (hik:i.size=k) (hib:i.bytes=bytes) (hiz:i.zero=some z) (hzk:z.cells.size=k)
 (hd:P.underlying t'=some d) (hn:gB d) (hk0:0<k)
 (hx:(st.ev x= .row id es∧st.tk.lookup id=some ⟨e,k⟩)∨(st.ev x= .nils∧es= [])∨(st.ev x= .emp∧es= [] ∧news≠ [])) (hes: ∀e∈es,e.length=k) (hnk: ∀e∈news,e.length=k) (hy:Adds P c st y k news)
 (hm:es.length+news.length≤maxLen) (hby:(es.length+news.length)*bytes≤225000000000000) (hbs:bytes≤100000) (hf:st.fresh id'=true):
 Makes P c st o (.row id' (es++news)) st.bx ((id',⟨e,k⟩)::delTok id st.tk):=fun E a w hi=>by
 subst hik;subst hib;obtain⟨us,hsrc,hul,hu1,hur⟩:=hy E a w hi;have hsmall:es.length+news.length≤9223372036854775807:=by simp only[maxLen] at hm;omega
 have hexec:(execOp a.eval o).run P w=((Builtin.append_ #[t,t'] o.type #[a.eval x,a.eval y]).run P w).andThen fun v w'=> .ok (.value v) w':=by
  simp[execOp,ho,resolve,invoke,builtin]
 have hcat: ∀e∈es++news,e.length=i.size:=fun e he=>by
  rcases mA he with h|h
  · exact hes e h
  · exact hnk e h
 have hcells: ∀(E':Env) (w':World) (olds tail:List Value),olds.length=es.length*i.size→Keeps E.φ w w'→(∀b,E.φ b≤E'.φ b)→
  (∀(j:Nat) (e:List IV) (n:Nat) (x:IV) (v:Value),es[j]?=some e→e[n]?=some x→olds[j*i.size+n]?=some v→RepI E.φ w x v)→
  ∀(j:Nat) (e:List IV) (n:Nat) (x:IV) (v:Value),(es++news)[j]?=some e→e[n]?=some x→(olds++(us++tail))[j*i.size+n]?=some v→RepI E'.φ w' x v:=by
  intro E' w' olds tail hol hkp hle hor j e n x v h1 h2 h3;have hn':n<i.size:=by rw[←hcat e (gE h1)];exact(gS h2).1
  by_cases hj:j<es.length
  · have hlt:j*i.size+n<olds.length:=by
     rw[hol];calc j*i.size+n<j*i.size+i.size:=C
      _=(j+1)*i.size:=by rw[Nat.add_mul,Nat.one_mul]
      _≤es.length*i.size:=mR _ hj
    rw[gL hj] at h1;rw[gL hlt] at h3;exact(hor j e n x v h1 h2 h3).mono hkp hle
  · have hge:olds.length≤j*i.size+n:=by
     rw[hol];exact Nat.le_trans (mR _ (Nat.le_of_not_lt hj)) (Nat.le_add_right _ _)
    rw[List.getElem?_append_right (Nat.le_of_not_lt hj)] at h1;rw[List.getElem?_append_right hge] at h3;have he:j*i.size+n - olds.length=(j - es.length)*i.size+n:=by
     rw[hol,Nat.sub_mul];have:es.length*i.size≤j*i.size:=mR _ (Nat.le_of_not_lt hj);omega
    rw[he] at h3;have hlt:(j - es.length)*i.size+n<us.length:=by
     have hjn:=(gS h1).1;rw[hul];calc(j - es.length)*i.size+n<(j - es.length)*i.size+i.size:=C
      _=(j - es.length+1)*i.size:=by rw[Nat.add_mul,Nat.one_mul]
      _≤news.length*i.size:=mR _ hjn
    rw[gL hlt] at h3;exact(hur _ e n x v h1 h2 h3).mono hkp hle
 have grown: ∀(base:Option Addr) (cap:Nat) (olds:List Value),a.eval x= .slice base es.length cap→olds.length=es.length*i.size→
  (∀(j:Nat) (e:List IV) (n:Nat) (x:IV) (v:Value),es[j]?=some e→e[n]?=some x→olds[j*i.size+n]?=some v→RepI E.φ w x v)→
  (Builtin.firstCells i.size es.length (.slice base es.length cap)).run P w.drew= .ok olds.toArray w.drew→cap<es.length+news.length→
  ∃(u:Value) (E':Env) (w':World),(execOp a.eval o).run P w= .ok (.value u) w'∧Inv c E' ⟨st.fr,st.bx,(id',⟨e,i.size⟩)::delTok id st.tk⟩ a w'∧RepA E' w' (.row id' (es++news)) u:=by
  intro base cap olds hq hol hor hfc hlt;have hrun:=wI (ty:=o.type) ht hd hn hi0 hiz hsrc (base:=base) (n:=es.length) (cap:=cap) (olds:=olds) hfc hlt C (growslice_fits_wide hlt (by
   have:(es.length+news.length) / 4*i.bytes≤(es.length+news.length)*i.bytes / 4:=by
    rw[Nat.le_div_iff_mul_le dD,Nat.mul_assoc,Nat.mul_comm i.bytes 4,←Nat.mul_assoc];exact mR _ (Nat.div_mul_le_self _ 4)
   rw[Nat.add_mul,Nat.add_mul];omega))
  have hge:es.length+news.length≤grownCap w (es.length+news.length) cap e:=grownCap_ge _ _ _ _;have hcm:=grownCap_le_maxLen w (es.length+news.length) cap e hm;have hk1:Keeps E.φ w w.drew:=fun _ _ _=>rfl
  obtain⟨E',hi',hv⟩:=((hi.delTok id).drew).newRow (nz hf) (ty:=e) (k:=i.size) (cap:=grownCap w (es.length+news.length) cap e) (es:=es++news)
   (us:=olds++(us++(Builtin.zeroCells z.cells (grownCap w (es.length+news.length) cap e - (es.length+news.length))).toList))
   (fun j e' he=>hcat e' (gE he))
   (by
     simp only[gV,hol,hul,Array.length_toList,size_zeroCells,hzk];rw[←Nat.add_assoc,←Nat.add_mul,←Nat.add_mul];congr 1;omega)
   (by rw[gV];exact hge) hcm
   (hcells E w.drew olds _ hol hk1 (fun _=>Nat.le_refl _) hor)
  refine⟨_,E',_,?_,hi',hv⟩;rw[hexec,hq,hrun];simp
 rcases hx with⟨hx,htk⟩|⟨hx,rfl⟩|⟨hx,rfl,hm0⟩
 · have hxv:=hi.ev x;rw[hx] at hxv;cases hxv with
   |row hu hrep=>
    obtain⟨olds,hol,ho1,hor,hoc⟩:=hrep.cellsOf hes hk0;have htok:=hi.heap.tok id _ htk;rcases hoc with⟨hq,hes0⟩|⟨ad,cap,hq,hsp,_⟩|⟨b,off,cap,hq,hc1,hc2,hcell⟩
    ·
     subst hes0;have hol':olds= []:=nZ (by simpa using hol);subst hol';by_cases hm0:news= []
     · subst hm0;have hus:us= []:=nZ (by simpa using hul);subst hus;have hrun:=Cu (ty:=o.type) ht hd hn hi0 hsrc;obtain⟨hi',mono⟩:=(hi.delTok id).nilTok (nz hf) ⟨e,i.size⟩;refine⟨_,_,_,?_,hi',.row sP .nil⟩;rw[hexec,hq,hrun];rfl
     · have h1:0<news.length:=gU hm0;exact grown none 0 [] (by rw[hq];rfl) sP hor (by simp[Builtin.firstCells]) (by simpa using h1)
    · exfalso;rcases htok with hnil|⟨g,n,cap',cur,hv,hg,hnc,hcm,hcs,hφ⟩
      · rw[←hu,hq] at hnil;cases hnil
      · rw[hu,hv] at hq;simp only[Value.slice.injEq,Option.some.injEq] at hq;obtain⟨rfl,_,_⟩:=hq;exact hsp U
    · by_cases hroom:es.length+news.length≤cap
      ·
       rcases htok with hnil|⟨g,n,cap',cur,hv,hg,hnc,hcm,hcs,hφ⟩
       · rw[←hu,hq] at hnil;cases hnil
       · have hq':=hq;rw[hu,hv] at hq';simp only[Value.slice.injEq,Option.some.injEq,Addr.mk.injEq] at hq';obtain⟨⟨rfl,rfl,_⟩,rfl,rfl⟩:=hq';simp only at hcs hφ hg;have hfit:es.length*i.size+us.length≤cur.size:=by rw[hul,←Nat.add_mul];exact Nat.le_trans (mR _ hroom) hcs
         have hrun:=Jv (ty:=o.type) ht hd hn hi0 hsrc hul hg hu1 hroom hfit;have hes_le:es.length*i.size≤cur.size:=C;have holds:cur.toList.take (es.length*i.size)=olds:=by
          apply List.ext_getElem?;intro j;rw[List.getElem?_take];split
          · rename_i hj;have:=(hcell j hj).1;rw[Nat.zero_add,cell_of_row w g j cur _ _ hg] at this;simpa using this
          · rw[List.getElem?_eq_none (by rw[hol];omega)]
         obtain⟨hi',hkp,hle⟩:=hi.growRow hf htk hv hg hφ (n':=es.length+news.length)
          (cur':=(cur.toList.take (es.length*i.size)++us++cur.toList.drop (es.length*i.size+us.length)).toArray)
          (by simp only[List.size_toArray,gV,lT,lD,Array.length_toList];omega)
          (fun o' ho'=>by
            simp only at ho';rw[List.append_assoc,List.getElem?_toArray,gL (by simp;omega),List.getElem?_take,if_pos ho'];simp)
          C hroom hcm
         refine⟨.slice (some ⟨g,0,none⟩) (es.length+news.length) cap',_,_,?_,hi',?_⟩
         · rw[hexec,hq,hrun];rfl
         · refine .row sP ?_;have hll:(es++news).length=es.length+news.length:=gV;refine Eq.mp (congrArg (fun n=>RepI _ _ (IV.sl (es++news)) (Value.slice (some ⟨g,0,none⟩) n cap')) hll) ?_;refine .sl (k:=i.size) (fun j n=>(olds++(us++cur.toList.drop (es.length*i.size+us.length))).getD (j*i.size+n) undef) (by rw[hll];exact hroom) hcm (fun j e' he=>hcat e' (gE he)) (fun j e' n x' h1 h2=> ?_) (fun j e' n x' h1 h2=> ?_) (fun j e' n x' h1 h2=> ?_);all_goals
            have hj:=(gS h1).1;rw[hll] at hj;have hn':n<i.size:=by rw[←hcat e' (gE h1)];exact(gS h2).1
            have hlt:j*i.size+n<(es.length+news.length)*i.size:=by
             calc j*i.size+n<j*i.size+i.size:=C
              _=(j+1)*i.size:=by rw[Nat.add_mul,Nat.one_mul]
              _≤(es.length+news.length)*i.size:=mR _ hj
            have hlt2:j*i.size+n<(olds++(us++cur.toList.drop (es.length*i.size+us.length))).length:=by
             simp only[gV,hol,hul];rw[Nat.add_mul] at hlt;omega
            have hget:(olds++(us++cur.toList.drop (es.length*i.size+us.length)))[j*i.size+n]?=some ((olds++(us++cur.toList.drop (es.length*i.size+us.length))).getD (j*i.size+n) undef):=by
             rw[gG hlt2];simp[List.getD,gG hlt2]
           · simp only[if_true];omega
           · rw[Nat.zero_add,cell_of_row _ _ _ _ _ _ (setRow_heap w g cur _ _ _ hg),holds,List.append_assoc,List.getElem?_toArray];exact hget
           · exact hcells _ _ olds _ hol hkp hle hor j e' n x' _ h1 h2 hget
      · refine grown (some ⟨b,off,none⟩) cap olds hq hol hor (run_firstCells_some w.drew i.size es.length _ _ cap olds hol (fun j v hv=> ?_)) C;have hj:j<es.length*i.size:=by rw[←hol];exact(gS hv).1
        rw[aK,World.cell?_drew,(hcell j hj).1];exact hv
 · have hxv:=hi.ev x;rw[hx] at hxv;generalize hq:a.eval x=q at hxv;cases hxv;by_cases hm0:news= []
   · subst hm0;have hus:us= []:=nZ (by simpa using hul);subst hus;have hrun:=Cu (ty:=o.type) ht hd hn hi0 hsrc;obtain⟨hi',mono⟩:=(hi.delTok id).nilTok (nz hf) ⟨e,i.size⟩;refine⟨_,_,_,?_,hi',.row sP .nil⟩;rw[hexec,hq,hrun];rfl
   · have h1:0<news.length:=gU hm0;exact grown none 0 [] hq sP (fun j e n x v h1=>by simp at h1) (by simp[Builtin.firstCells]) (by simpa using h1)
 · have hxv:=hi.ev x;rw[hx] at hxv;generalize hq:a.eval x=q at hxv;cases hxv with
   | @emp base _ hu=>
     subst hu;have h1:0<news.length:=gU hm0;exact grown base 0 [] hq sP (fun j e n x v h1=>by simp at h1) (by cases base with
      |none=>simp[Builtin.firstCells]
      |some ad=>exact run_firstCells_some w.drew i.size 0 _ _ 0 [] sP (fun j v hv=>by simp at hv)) (by simpa using h1)
end
mutual
def AV.mentIn(l:List Nat):AV→Bool
 | .any| .iv _| .nils| .emp| .el _=>true
 | .row i _=>l.contains i
 | .ptr i _=>l.contains i
 | .bsl i _ _ _=>l.contains i
 | .bsh i _ _ _=>l.contains i
 | .agg cs=>AV.mentsIn l cs
 | .tup cs=>AV.mentsIn l cs
 | .fn _ cs=>AV.mentsIn l cs
 | .opt _ v=>AV.mentIn l v
def AV.mentsIn(l:List Nat):List AV→Bool
 | [] =>true
 |c::cs=>AV.mentIn l c && AV.mentsIn l cs
end
mutual
def AV.mentIn_mem{l:List Nat}{id:Nat}: ∀(v:AV),AV.mentIn l v=true→AV.ment id v=true→id∈l
 | .any,_,h=>by simp[AV.ment] at h
 | .iv _,_,h=>by simp[AV.ment] at h
 | .nils,_,h=>by simp[AV.ment] at h
 | .emp,_,h=>by simp[AV.ment] at h
 | .el _,_,h=>by simp[AV.ment] at h
 | .row i _,h1,h=>by simp[AV.ment] at h;subst h;simpa[AV.mentIn] using h1
 | .ptr i _,h1,h=>by simp[AV.ment] at h;subst h;simpa[AV.mentIn] using h1
 | .bsl i _ _ _,h1,h=>by simp[AV.ment] at h;subst h;simpa[AV.mentIn] using h1
 | .bsh i _ _ _,h1,h=>by simp[AV.ment] at h;subst h;simpa[AV.mentIn] using h1
 | .agg cs,h1,h=>AV.mentsIn_mem cs (by simpa[AV.mentIn] using h1) (by simpa[AV.ment] using h)
 | .tup cs,h1,h=>AV.mentsIn_mem cs (by simpa[AV.mentIn] using h1) (by simpa[AV.ment] using h)
 | .fn _ cs,h1,h=>AV.mentsIn_mem cs (by simpa[AV.mentIn] using h1) (by simpa[AV.ment] using h)
 | .opt _ v,h1,h=>AV.mentIn_mem v (by simpa[AV.mentIn] using h1) (by simpa[AV.ment] using h)
def AV.mentsIn_mem{l:List Nat}{id:Nat}: ∀(cs:List AV),AV.mentsIn l cs=true→AV.ments id cs=true→id∈l
 | [],_,h=>by simp[AV.ments] at h
 |c::cs,h1,h=>by
  simp only[AV.mentsIn,aE] at h1;simp only[AV.ments,Bool.or_eq_true] at h;rcases h with h|h
  · exact AV.mentIn_mem c h1.1 h
  · exact AV.mentsIn_mem cs h1.2 h
end
def keys{β:Type}(l:List (Nat×β)):List Nat:=l.map (·.1)
def it{β:Type}: ∀{l:List (Nat×β)} {id:Nat},id∈keys l→ ∃b,l.lookup id=some b
 | [],id,h=>by simp[keys] at h
 |(t,u)::l,id,h=>by
  by_cases e:id=t
  · exact⟨u,by rw[e];exact aj⟩
  · rw[aa e];exact it (by simp only[keys,List.map_cons,List.mem_cons] at h⊢;exact h.resolve_left e)
def mQ{β:Type}{l:List (Nat×β)}{id:Nat}{b:β}(h:l.lookup id=some b):id∈keys l:=List.mem_map.2 ⟨_,dZ h,rfl⟩
def CallA(P:Program)(f:FuncId)(args:List AV)(bx bx':List (Nat×Box))(tk':List (Nat×Tok))(res:AV):Prop:=
 ∀(E:Env) (w:World) (us:List Value),RelL E w args us→HInv ⟨0,w,E,keys bx⟩ E bx [] w→
  Calls P f us.toArray w fun e w'=> ∃(u:Value) (E':Env),e= .returned u∧RepA E' w' res u∧HInv ⟨0,w,E,keys bx⟩ E' bx' tk' w'
def lp(c:Ctx)(bx':List (Nat×Box))(tk':List (Nat×Tok))(res:AV)(e:Ending)(w':World):Prop:=
 ∃(u:Value) (E':Env),e= .returned u∧RepA E' w' res u∧HInv c E' bx' tk' w'
def HInv.join{c:Ctx}{E E':Env}{st:St}{w w':World}{bxi bxo:List (Nat×Box)}{tko:List (Nat×Tok)}(h:HInv c E st.bx st.tk w)(h':HInv ⟨0,w,E,keys bxi⟩ E' bxo tko w')
 {N:List Nat} (hN: ∀id∈N,st.fresh id=true) (hbi: ∀id∈keys bxi,∃b,st.bx.lookup id=some b∧b.cs≠ []) (hbo: ∀id∈keys bxo,id∈N∨id∈keys bxi) (hto: ∀id∈keys tko,id∈N)
 (hm: ∀(id:Nat) (b:Box),bxo.lookup id=some b→AV.mentsIn (N++keys bxi) b.cs=true):
 HInv c ⟨E'.φ,fun i=>if i∈N then E'.ρ i else E.ρ i,fun i=>if i∈N then E'.η i else E.η i⟩ (bxo++st.bx) (tko++st.tk) w'∧
  (∀(x:AV) (u:Value),AV.mentIn (N++keys bxi) x=true→RepA E' w' x u→RepA ⟨E'.φ,fun i=>if i∈N then E'.ρ i else E.ρ i,fun i=>if i∈N then E'.η i else E.η i⟩ w' x u)∧
  (∀(x:AV) (u:Value),(∀id∈N,AV.ment id x=false)→RepA E w x u→RepA ⟨E'.φ,fun i=>if i∈N then E'.ρ i else E.ρ i,fun i=>if i∈N then E'.η i else E.η i⟩ w' x u):=by
 have hbN: ∀(i:Nat) (b:Box),st.bx.lookup i=some b→i∉N:=fun i b hb hi=>(St.fresh_bx (hN i hi) hb).1 U
 have htN: ∀(i:Nat) (t:Tok),st.tk.lookup i=some t→i∉N:=fun i t ht hi=>St.fresh_tk (hN i hi) ht U
 have hMi: ∀g,Ctx.M ⟨0,w,E,keys bxi⟩ g→ ∃(id:Nat) (b:Box),id∈keys bxi∧st.bx.lookup id=some b∧b.cs≠ [] ∧E.ρ id=g:=fun g ⟨id,hid,e,_⟩=>by
  obtain⟨b,hb,hn⟩:=hbi id hid;exact⟨id,b,hid,hb,hn,e⟩
 have hφM: ∀g,Ctx.M ⟨0,w,E,keys bxi⟩ g→E.φ g=0:=fun g hg=>by
  obtain⟨id,b,_,hb,hn,rfl⟩:=hMi g hg;exact(h.box id b hb hn).1
 have hkp:Keeps E.φ w w':=fun b o ho=>by
  have hlt:b<w.heap.size:=by
   rcases Nat.lt_or_ge b w.heap.size with h1|h1
   · exact h1
   · rw[h.new b h1] at ho;cases ho
  have hnM: ¬Ctx.M ⟨0,w,E,keys bxi⟩ b:=fun hM=>by rw[hφM b hM] at ho;cases ho
  exact World.cell?_of_block (h'.kept.block b hlt hnM)
 have hle: ∀b,E.φ b≤E'.φ b:=fun b=>by
  rcases Nat.lt_or_ge b w.heap.size with h1|h1
  · rw[h'.old b h1];exact Nat.le_refl _
  · rw[h.new b h1];exact Nat.zero_le _
 have monoC: ∀(x:AV) (u:Value),(∀id∈N,AV.ment id x=false)→RepA E w x u→RepA ⟨E'.φ,fun i=>if i∈N then E'.ρ i else E.ρ i,fun i=>if i∈N then E'.η i else E.η i⟩ w' x u:=fun x u hx hr=>
  RepA.mono (h:=hr) (E':=⟨E'.φ,fun i=>if i∈N then E'.ρ i else E.ρ i,fun i=>if i∈N then E'.η i else E.η i⟩) hkp hle (fun id hid=>by
   have:id∉N:=fun hin=>by rw[hx id hin] at hid;cases hid
   simp[this])
 have monoN: ∀(x:AV) (u:Value),AV.mentIn (N++keys bxi) x=true→RepA E' w' x u→RepA ⟨E'.φ,fun i=>if i∈N then E'.ρ i else E.ρ i,fun i=>if i∈N then E'.η i else E.η i⟩ w' x u:=fun x u hx hr=>
  RepA.mono (E:=E') (w:=w') (h:=hr) (E':=⟨E'.φ,fun i=>if i∈N then E'.ρ i else E.ρ i,fun i=>if i∈N then E'.η i else E.η i⟩) (fun _ _ _=>rfl) (fun _=>Nat.le_refl _) (fun id hid=>by
   by_cases hin:id∈N
   · simp[hin]
   · have hmem:=AV.mentIn_mem x hx hid;have hk:id∈keys bxi:=(mA hmem).resolve_left hin;obtain⟨e1,e2,_⟩:=h'.ins id hk;simp[hin,e1,e2])
 have hρo: ∀(i:Nat) (b:Box),bxo.lookup i=some b→(if i∈N then E'.ρ i else E.ρ i)=E'.ρ i:=fun i b hb=>by
  by_cases hin:i∈N
  · simp[hin]
  · have hk:=(hbo i (mQ hb)).resolve_left hin;simp[hin,(h'.ins i hk).1]
 have hηob: ∀(i:Nat) (b:Box),bxo.lookup i=some b→(if i∈N then E'.η i else E.η i)=E'.η i:=fun i b hb=>by
  by_cases hin:i∈N
  · simp[hin]
  · have hk:=(hbo i (mQ hb)).resolve_left hin;simp[hin,(h'.ins i hk).2.1]
 have hηo: ∀(i:Nat) (t:Tok),tko.lookup i=some t→(if i∈N then E'.η i else E.η i)=E'.η i:=fun i t ht=>by simp[hto i (mQ ht)]
 have hρc: ∀(i:Nat) (b:Box),st.bx.lookup i=some b→(if i∈N then E'.ρ i else E.ρ i)=E.ρ i:=fun i b hb=>by simp[hbN i b hb]
 have hηc: ∀(i:Nat) (t:Tok),st.tk.lookup i=some t→(if i∈N then E'.η i else E.η i)=E.η i:=fun i t ht=>by simp[htN i t ht]
 have splitB: ∀(i:Nat) (b:Box),(bxo++st.bx).lookup i=some b→bxo.lookup i=some b∨(bxo.lookup i=none∧st.bx.lookup i=some b):=fun i b hb=>by
  rw[List.lookup_append] at hb;cases hq:bxo.lookup i with
  |none=>rw[hq] at hb;exact .inr ⟨rfl,by simpa using hb⟩
  |some b'=>rw[hq] at hb;exact .inl (by simpa using hb)
 have splitT: ∀(i:Nat) (t:Tok),(tko++st.tk).lookup i=some t→tko.lookup i=some t∨st.tk.lookup i=some t:=fun i t ht=>by
  rw[List.lookup_append] at ht;cases hq:tko.lookup i with
  |none=>rw[hq] at ht;exact .inr (by simpa using ht)
  |some b'=>rw[hq] at ht;exact .inl (by simpa using ht)
 have notPassed: ∀(i:Nat),bxo.lookup i=none→i∉keys bxi:=fun i hn hk=>by
  have:=(h'.ins i hk).2.2;rw[hn] at this;cases this
 have blkB: ∀(i:Nat) (b:Box),bxo.lookup i=none→st.bx.lookup i=some b→b.cs≠ [] →E.ρ i<w.heap.size∧ ¬Ctx.M ⟨0,w,E,keys bxi⟩ (E.ρ i):=fun i b hn hb hc=>
  ⟨sW (h.box i b hb hc),fun hM=>by
    obtain⟨id,b',hid,hb',hc',e⟩:=hMi _ hM;exact notPassed i hn (h.bb id i b' b hb' hb hc' hc e▸hid)⟩
 have blkT: ∀(i:Nat) (t:Tok) (g:Nat),st.tk.lookup i=some t→(E.η i).ownBlock=some g→g<w.heap.size∧ ¬Ctx.M ⟨0,w,E,keys bxi⟩ g:=fun i t g ht hg=>
  ⟨jx (h.tok i t ht) hg,fun hM=>by
    obtain⟨id,b',hid,hb',hc',e⟩:=hMi _ hM;exact h.bt id i b' t hb' hc' ht (by rw[hg,e])⟩
 have blkO: ∀(i:Nat) (b:Box),bxo.lookup i=some b→b.cs≠ [] →w.heap.size≤E'.ρ i∨Ctx.M ⟨0,w,E,keys bxi⟩ (E'.ρ i):=fun i b hb hc=>h'.own i b hb hc
 have blkOT: ∀(i:Nat) (t:Tok) (g:Nat),tko.lookup i=some t→(E'.η i).ownBlock=some g→w.heap.size≤g:=fun i t g ht hg=>h'.ownt i t g ht hg
 refine⟨⟨fun i b hb hc=> ?_,fun i t ht=> ?_,fun i j b b' hi hj hc hc' he=> ?_,fun i j t t' g hi hj h1 h2=> ?_,fun i j b t hb hc ht hg=> ?_,fun i b hb hc=> ?_,fun j t g ht hg=> ?_,h'.new,fun b hb=> ?_,fun i hin=> ?_,?_⟩,monoN,monoC⟩
 · rcases splitB i b hb with hb|⟨hn,hb⟩
   · obtain⟨h0,arr,ha,hl,h1,hr,hq⟩:=h'.box i b hb hc;refine⟨by simp only;rw[hρo i b hb];exact h0,arr,by simp only;rw[hρo i b hb];exact ha,hl,h1,fun k x u hx hu=>monoN x u ?_ (hr k x u hx hu),fun k cap he=>hq k cap (by simpa only[hηob i b hb] using he)⟩;have hall:=hm i b hb;clear ha hl h1 hr h0 hq;have: ∀(cs:List AV) (k:Nat),AV.mentsIn (N++keys bxi) cs=true→cs[k]?=some x→AV.mentIn (N++keys bxi) x=true:=by
      intro cs;induction cs with
      |nil=>intro k _ h;simp at h
      |cons y ys ih=>
       intro k hall hk;simp only[AV.mentsIn,aE] at hall;cases k with
       |zero=>simp at hk;subst hk;exact hall.1
       |succ k=>exact ih k hall.2 (by simpa using hk)
     exact this b.cs k hall hx
   · obtain⟨hlt,hnM⟩:=blkB i b hn hb hc;obtain⟨h0,arr,ha,hl,h1,hr,hq⟩:=h.box i b hb hc;refine⟨by simp only;rw[hρc i b hb,h'.old _ hlt];exact h0,arr,by simp only;rw[hρc i b hb,h'.kept.block _ hlt hnM];exact ha,hl,h1,fun k x u hx hu=>monoC x u (fun id hid=>bB (St.fresh_bx (hN id hid) hb).2 k x hx) (hr k x u hx hu),fun k cap he=>hq k cap (by simpa only[if_neg (hbN i b hb)] using he)⟩
 · rcases splitT i t ht with ht|ht
   · rcases h'.tok i t ht with hn|⟨g,n,cap,cur,hv,rest⟩
     · exact .inl (by simp only;rw[hηo i t ht];exact hn)
     · exact .inr ⟨g,n,cap,cur,by simp only;rw[hηo i t ht];exact hv,rest⟩
   · rcases h.tok i t ht with hn|⟨g,n,cap,cur,hv,hg,r1,r2,r3,r4⟩
     · exact .inl (by simp only;rw[hηc i t ht];exact hn)
     · obtain⟨hlt,hnM⟩:=blkT i t g ht (by rw[hv];rfl);exact .inr ⟨g,n,cap,cur,by simp only;rw[hηc i t ht];exact hv,by rw[h'.kept.block _ hlt hnM];exact hg,r1,r2,r3,by rw[h'.old _ hlt];exact r4⟩
 · simp only at he;rcases splitB i b hi with hi|⟨hn,hi⟩
   · rw[hρo i b hi] at he;rcases splitB j b' hj with hj|⟨hn',hj⟩
     · rw[hρo j b' hj] at he;exact h'.bb i j b b' hi hj hc hc' he
     · rw[hρc j b' hj] at he;obtain⟨hlt,hnM⟩:=blkB j b' hn' hj hc';rcases blkO i b hi hc with h1|h1
       · omega
       · rw[he] at h1;exact(hnM h1).elim
   · rw[hρc i b hi] at he;obtain⟨hlt,hnM⟩:=blkB i b hn hi hc;rcases splitB j b' hj with hj|⟨hn',hj⟩
     · rw[hρo j b' hj] at he;rcases blkO j b' hj hc' with h1|h1
       · omega
       · rw[←he] at h1;exact(hnM h1).elim
     · rw[hρc j b' hj] at he;exact h.bb i j b b' hi hj hc hc' he
 · simp only at h1 h2;rcases splitT i t hi with hi|hi
   · rw[hηo i t hi] at h1;rcases splitT j t' hj with hj|hj
     · rw[hηo j t' hj] at h2;exact h'.tt i j t t' g hi hj h1 h2
     · rw[hηc j t' hj] at h2;have:=blkOT i t g hi h1;have:=(blkT j t' g hj h2).1;omega
   · rw[hηc i t hi] at h1;rcases splitT j t' hj with hj|hj
     · rw[hηo j t' hj] at h2;have:=blkOT j t' g hj h2;have:=(blkT i t g hi h1).1;omega
     · rw[hηc j t' hj] at h2;exact h.tt i j t t' g hi hj h1 h2
 · simp only at hg;rcases splitB i b hb with hb|⟨hn,hb⟩
   · rw[hρo i b hb] at hg;rcases splitT j t ht with ht|ht
     · rw[hηo j t ht] at hg;exact h'.bt i j b t hb hc ht hg
     · rw[hηc j t ht] at hg;obtain⟨hlt,hnM⟩:=blkT j t _ ht hg;rcases blkO i b hb hc with h1|h1
       · omega
       · exact hnM h1
   · rw[hρc i b hb] at hg;rcases splitT j t ht with ht|ht
     · rw[hηo j t ht] at hg;have:=blkOT j t _ ht hg;have:=(blkB i b hn hb hc).1;omega
     · rw[hηc j t ht] at hg;exact h.bt i j b t hb hc ht hg
 · simp only;rcases splitB i b hb with hb|⟨hn,hb⟩
   · rw[hρo i b hb];rcases blkO i b hb hc with h1|h1
     · exact .inl (Nat.le_trans h.kept.size h1)
     · obtain⟨id,b',hid,hb',hc',e⟩:=hMi _ h1;rw[←e];exact h.own id b' hb' hc'
   · rw[hρc i b hb];exact h.own i b hb hc
 · simp only at hg;rcases splitT j t ht with ht|ht
   · rw[hηo j t ht] at hg;exact Nat.le_trans h.kept.size (blkOT j t g ht hg)
   · rw[hηc j t ht] at hg;exact h.ownt j t g ht hg
 · simp only;rw[h'.old b (Nat.lt_of_lt_of_le hb h.kept.size)];exact h.old b hb
 · obtain⟨e1,e2,e3⟩:=h.ins i hin;obtain⟨b,hb⟩:=Option.isSome_iff_exists.1 e3;have:=hbN i b hb;refine⟨by simp[this,e1],by simp[this,e2],?_⟩;rw[List.lookup_append];cases bxo.lookup i with
   |none=>simpa using e3
   |some _=>rfl
 · refine h.kept.next h'.kept.os h'.kept.tape h'.kept.output h'.kept.size (fun k hk hm'=>h'.kept.block k (Nat.lt_of_lt_of_le hk h.kept.size) (fun hM=> ?_)) h'.kept.drawn;obtain⟨id,b',hid,hb',hc',e⟩:=hMi _ hM;rcases h.own id b' hb' hc' with h1|h1
   · omega
   · rw[e] at h1;exact hm' h1
def dQ(P:Program)(f:FuncId):Bool:=
 match P.funcs[f]? with
 |some fn=>fn.body.isSome && !(fn.name== "runtime.NumGoroutine")
 |none=>false
def eK{P:Program}{f:FuncId}(h:dQ P f=true)(args:Array Value)(w:World):(callFunc f args).run P w= .ok (.enter f args) w:=by
 unfold dQ at h;split at h
 · rename_i fn hf;simp only[aE,Bool.not_eq_true',beq_eq_false_iff_ne] at h;obtain⟨h1,h2⟩:=h;have h3: ¬fn.body=none:=fun e=>by rw[e] at h1;cases h1
   simp[callFunc,hf,h2,h3]
 · cases h
def Subs.of_pub{l l':List AV}(h:AV.pub.pubs l=l'):Subs l l':=h▸Subs.pubs l
def RelL.sub{E:Env}{w:World}{l l':List AV}{us:List Value}(h:RelL E w l us)(hs:Subs l l'):RelL E w l' us:=
 ⟨by rw[h.1,hs.1],fun i c u hc hu=>by
   have hi:i<l.length:=by
    have:=(gS hc).1;rw[hs.1] at this;exact this
   exact hs.2 i _ _ (gG hi) hc E w u (h.2 i _ u (gG hi) hu)⟩
def dW(N:List Nat)(bxi bxo:List (Nat×Box)):Bool:=bxi.all (fun p=> !p.2.cs.isEmpty) && (keys bxo).all (fun id=>N.contains id||(keys bxi).contains id)
def yG{N:List Nat}{bxi bxo:List (Nat×Box)}(h:dW N bxi bxo=true){id:Nat}(hid:id∈keys bxo):id∈N∨id∈keys bxi:=by
 simp only[dW,aE] at h;have:=aT h.2 id hid;simpa using this
def yF{N:List Nat}{bxi bxo:List (Nat×Box)}(h:dW N bxi bxo=true){id:Nat}{b:Box}(hb:bxi.lookup id=some b):b.cs≠ []:=by
 simp only[dW,aE] at h;have:=aT h.1 _ (dZ hb);intro e;simp[e] at this
section
variable {P:Program}{c:Ctx}{st:St}{ops:Array Oper}{Q:Exit→Act→World→Prop}{rest:List Oper}{o:Oper}
section
variable {E:Env}{K:Act→World→Prop}{a:Act}{bx':List (Nat×Box)}{f:FuncId}{fn:Func}{id:Nat}{res:AV}{rs:List ResultVar}{tk':List (Nat×Tok)}{vs:List AV}{w:World}{x:Operand}{y z:Code}
def Inv.evs(hi:Inv c E st a w)(args:Array Operand):RelL E w (args.toList.map st.ev) (args.toList.map a.eval):=
 ⟨by simp,fun i x u hx hu=>by
   simp only[gP] at hx hu;cases hq:args.toList[i]? with
   |none=>rw[hq] at hx;simp at hx
   |some y=>rw[hq] at hx hu;simp at hx hu;subst hx;subst hu;exact hi.ev y⟩
def HInv.hand(h:HInv c E st.bx st.tk w){bxi:List (Nat×Box)}(hb:WkB st.bx bxi):HInv ⟨0,w,E,keys bxi⟩ E bxi [] w where
 box id b hl hn:=by obtain⟨b0,h0,ht,hs⟩:=hb.get id b hl;exact(h.box id b0 h0 (hs.ne hn)).sub ht hs
 tok id t hl:=by simp at hl
 bb i j b b' hi hj hn hn' he:=by
  obtain⟨b0,h0,_,hs⟩:=hb.get i b hi;obtain⟨b1,h1,_,hs'⟩:=hb.get j b' hj;exact h.bb i j b0 b1 h0 h1 (hs.ne hn) (hs'.ne hn') he
 tt i j t t' g hi:=by simp at hi
 bt i j b t hi hn hj:=by simp at hj
 own i b hi hn:=by
  obtain⟨b0,h0,_,hs⟩:=hb.get i b hi;exact .inr ⟨i,mQ hi,rfl,(h.box i b0 h0 (hs.ne hn)).1⟩
 ownt j t g hj:=by simp at hj
 new:=h.new
 old b _:=rfl
 ins id hid:=⟨rfl,rfl,by obtain⟨b,hb'⟩:=it hid;rw[hb'];rfl⟩
 kept:= .refl _ _
def js(N:List Nat){f:FuncId}{args:Array Operand}{ats:Array TypeId}{NJ:List AV}{bxi bxo:List (Nat×Box)}{tko:List (Nat×Tok)}{res:AV}{d:Nat}(hg:o.guard=none)(hd:o.dst=some d)(hlt:Nat.ble (d+1) c.nt=true)
 (ho:o.op= .call {callee:= .value (.func f),args:=args,argTypes:=ats}) (hok:dQ P f=true) (hc:CallA P f NJ bxi bxo tko res) (ha:Subs (args.toList.map st.ev) NJ) (hbi:WkB st.bx bxi)
 (hN:N.all (fun id=>st.fresh id)=true) (hbo:dW N bxi bxo=true) (hto:(keys tko).all (fun id=>N.contains id)=true)
 (hmb:bxo.all (fun p=>AV.mentsIn (N++keys bxi) p.2.cs)=true) (hmr:AV.mentIn (N++keys bxi) res=true)
 (h:L c ⟨(d,res)::st.fr,bxo++st.bx,tko++st.tk⟩ (wpList P ops Q rest)):L c st (wpList P ops Q (o::rest)):=by
 rintro a w ⟨E,hi⟩;refine wpList_plain hg (fun K hK=> ?_);have hrun:(execOp a.eval o).run P w= .ok (.enter f (args.map a.eval)) w:=by
  simp[execOp,ho,resolve,Deferred.ofValue,Act.eval,invoke,eK hok]
 unfold Oper.wp;rw[hrun,Oper.upon_enter];have hcall:=hc E w (args.toList.map a.eval) ((hi.evs args).sub ha) (hi.heap.hand hbi);have hargs:(args.toList.map a.eval).toArray=args.map a.eval:=by apply Array.ext';simp
 rw[hargs] at hcall;refine hcall.mono fun e w' ⟨u,E',he,hu,hh⟩=> ?_
 subst he;obtain⟨hj,monoN,monoC⟩:=hi.heap.join hh (N:=N) (fun id hid=>aT hN id hid) (fun id hid=>by
  obtain⟨b,hb⟩:=it hid;obtain⟨b0,h0,_,hs⟩:=hbi.get id b hb;exact⟨b0,h0,hs.ne (yF hbo hb)⟩)
  (fun id hid=>yG hbo hid) (fun id hid=>by have:=aT hto id hid;simpa using this)
  (fun id b hb=>aT hmb _ (dZ hb))
 refine hK _ _ ?_;rw[hd];refine h _ _ ⟨_,Inv.put (st:=⟨st.fr,bxo++st.bx,tko++st.tk⟩) ⟨hi.defers,hi.size,fun s v hv=>monoC v _ (fun id hid=>St.fresh_fr (aT hN id hid) hv) (hi.slot s v hv),hj⟩ (bT hlt) (monoN res u hmr hu)⟩
def L.call0{args:Array Operand}{ats:Array TypeId}{NJ:List AV}{d:Nat}(hg:o.guard=none)(hd:o.dst=some d)(hlt:Nat.ble (d+1) c.nt=true)
 (ho:o.op= .call {callee:= .value (.func f),args:=args,argTypes:=ats}) (hok:dQ P f=true) (hc:CallA P f NJ [] [] [] res) (ha:Subs (args.toList.map st.ev) NJ)
 (hmr:AV.mentIn [] res=true) (h:L c ⟨(d,res)::st.fr,st.bx,st.tk⟩ (wpList P ops Q rest)):L c st (wpList P ops Q (o::rest)):=
 js [] hg hd hlt ho hok hc ha .nil U U U U hmr h
def L.region{l:List Oper}(h:L c st (wpList P l.toArray Q l)):L c st ((Code.region id l.toArray false).wp P Q):=fun a w hr=>wp_region_lit (h a w hr)
def L.skip(h:L c st (Q .normal)):L c st (Code.skip.wp P Q):=fun a w hr=>wp_skip (h a w hr)
def L.exit(h:L c st (Q (.exit id))):L c st ((Code.exit id).wp P Q):=fun a w hr=>wp_exit (h a w hr)
def L.ret(h:L c st (Q .ret)):L c st (Code.ret.wp P Q):=fun a w hr=>wp_ret (h a w hr)
def L.block{x:Code}(h:L c st (x.wp P (Exit.inBlock id Q))):L c st ((Code.block id x).wp P Q):=fun a w hr=>wp_block (h a w hr)
def L.cond{t:Bool}(hx:st.ev x=aB t)(ht:t=true→L c st (y.wp P Q))(hf:t=false→L c st (z.wp P Q)):L c st ((Code.cond x y z).wp P Q):=fun a w hr=>by
 obtain⟨E,hi⟩:=hr;exact wp_cond_split (hi.im hx) (fun e=>ht e a w ⟨E,hi⟩) (fun e=>hf e a w ⟨E,hi⟩)
def Lq(hx:st.ev x=aB true)(h:L c st (y.wp P Q)):L c st ((Code.cond x y z).wp P Q):=L.cond hx (fun _=>h) (fun e=>by cases e)
def Lr(hx:st.ev x=aB false)(h:L c st (z.wp P Q)):L c st ((Code.cond x y z).wp P Q):=L.cond hx (fun e=>by cases e) (fun _=>h)
def Lo(h:L c st K):L c st (Exit.then K Q .normal):=h
def L.thenE(h:L c st (Q (.exit id))):L c st (Exit.then K Q (.exit id)):=h
def L.thenR(h:L c st (Q .ret)):L c st (Exit.then K Q .ret):=h
def Nu(h:L c st (Q .normal)):L c st (Exit.inBlock id Q .normal):=h
def L.inR(h:L c st (Q .ret)):L c st (Exit.inBlock id Q .ret):=h
def L.inE(h:L c st (Q .normal)):L c st (Exit.inBlock id Q (.exit id)):=fun a w hr=>by simp only[Exit.inBlock,if_true];exact h a w hr
def L.inO{id':Nat}(hne:(id'==id)=false)(h:L c st (Q (.exit id'))):L c st (Exit.inBlock id Q (.exit id')):=fun a w hr=>by
 have:id'≠id:=by simpa using hne
 simp only[Exit.inBlock,if_neg this];exact h a w hr
def L.loop{ι:Type}(inv:ι→St)(n:ι→Nat){i0:ι}(h0:Wk c st (inv i0)){x:Code}
 (h: ∀i,∀K:Act→World→Prop,(∀st' i',n i'<n i→Wk c st' (inv i')→L c st' K)→L c (inv i) (x.wp P (Exit.then K Q))):L c st ((Code.loop x).wp P Q):=by
 have key: ∀(m:Nat) (i:ι),n i=m→ ∀a w,R c (inv i) a w→ ∀(b:Frame) (k:List Item) (cs:List Frame),
  ∃e a' w',Q e a' w'∧Arrives P (lone (b.at a (.code x:: .inLoop x::k)) cs w) b k cs e a' w':=by
  intro m;induction m using Nat.strongRecOn with
  |_ m ih=>
   intro i hn a w hr b k cs;obtain⟨e,a₁,w₁,hq,harr⟩:=h i (fun a' w'=> ∃i',n i'<n i∧R c (inv i') a' w') (fun st' i' hlt hw a' w' hr'=>⟨i',hlt,hr'.wk hw⟩) a w hr b (.inLoop x::k) cs;cases e with
   |normal=>
    obtain⟨i',hlt,hr'⟩:=hq;obtain⟨e₂,a₂,w₂,hq₂,harr₂⟩:=ih (n i') (hn▸hlt) i' U a₁ w₁ hr' b k cs;exact⟨e₂,a₂,w₂,hq₂,.of_steps (Steps.trans harr (.one step_inLoop)) harr₂⟩
   |exit id=>exact⟨_,a₁,w₁,hq,.pass (x:= .inLoop x) U (fun _ _=> .inl sP) harr⟩
   |goto l=>exact⟨_,a₁,w₁,hq,.pass (x:= .inLoop x) U (fun _ _=> .inl sP) harr⟩
   |ret=>exact⟨_,a₁,w₁,hq,.pass (x:= .inLoop x) U (fun _ _=> .inl sP) harr⟩
   |panic ch=>exact⟨_,a₁,w₁,hq,.pass (x:= .inLoop x) U (fun _ _=> .inl sP) harr⟩
   |outgrown=>exact⟨_,a₁,w₁,hq,.pass (x:= .inLoop x) U (fun _ _=> .inl sP) harr⟩
 intro a w hr b k cs;obtain⟨e,a',w',hq,harr⟩:=key _ i0 U a w (hr.wk h0) b k cs;exact⟨e,a',w',hq,.of_steps (.one step_loop) harr⟩
def enter:Nat→List AV→List (Nat×AV)
 |_,[] => []
 |n,v::vs=>(n,v)::enter (n+1) vs
def sI: ∀(vs:List AV) (n s:Nat) (v:AV),(enter n vs).lookup s=some v→n≤s∧vs[s - n]?=some v
 | [],n,s,v,h=>by simp[enter] at h
 |x::vs,n,s,v,h=>by
  by_cases e:s=n
  · subst e;simp only[enter,aj] at h;cases h;simp
  · simp only[enter] at h;rw[aa e] at h;obtain⟨h1,h2⟩:=sI vs (n+1) s v h;refine⟨by omega,?_⟩;rw[show s - n=(s - (n+1))+1 by omega];simpa using h2
def CallA.intro{code:Code}{args:List AV}{bx:List (Nat×Box)}(nt:Nat)(hf:P.funcs[f]?=some fn)(hb:fn.body=some code)(hnt:fn.ntmps=nt)(hn:Nat.ble args.length nt=true)
 (h: ∀(w0:World) (E0:Env),L ⟨nt,w0,E0,keys bx⟩ ⟨enter 0 args,bx,[]⟩ (code.wp P (bodyPost P fn (lp ⟨nt,w0,E0,keys bx⟩ bx' tk' res)))):CallA P f args bx bx' tk' res:=by
 subst hnt;have hn:=bT hn;intro E w us hrel hh;have hl:=hrel.1;refine calls_of_wp (R:=lp ⟨fn.ntmps,w,E,keys bx⟩ bx' tk' res) hf hb (h w E _ _ ⟨E,rfl,?_,fun s v hv=> ?_,?_⟩)|>.mono ?_
 · simp;omega
 · obtain⟨_,hv'⟩:=sI args 0 s v hv;rw[Nat.sub_zero] at hv';have hlt:s<us.length:=by rw[hl];exact(gS hv').1
   have:(us.toArray++Array.replicate (fn.ntmps - us.toArray.size) undef).getD s undef=us[s]:=by
    simp[Array.getElem?_append,hlt]
   rw[this];exact hrel.2 s v _ hv' (gG hlt)
 · exact⟨hh.box,hh.tok,hh.bb,hh.tt,hh.bt,hh.own,hh.ownt,hh.new,hh.old,hh.ins,hh.kept⟩
 · rintro e w' ⟨u,E',he,hu,hh'⟩;exact⟨u,E',he,hu,⟨hh'.box,hh'.tok,hh'.bb,hh'.tt,hh'.bt,hh'.own,hh'.ownt,hh'.new,hh'.old,hh'.ins,hh'.kept⟩⟩
def St.resv(P:Program)(st:St):ResultVar→Option AV
 | .tmp t=>some (st.ev (.tmp t))
 | .cell p ty=>match st.ev (.tmp p) with
   | .ptr id 0=>match st.bx.lookup id,P.info? ty,P.underlying ty with
     |some b,some i,some (.struct _)=>if i.size≤b.cs.length then some (.agg (b.cs.take i.size)) else none
     |_,_,_=>none
   |_=>none
def Inv.resv(hi:Inv c E st a w){r:ResultVar}{v:AV}(hv:st.resv P r=some v):
 ∃u,((match r with| .tmp t=>pure (a.tmps.getD t undef)| .cell p t=>do loadVar t (←asAddr (a.tmps.getD p undef)):Sem Value).run P w)= .ok u w∧RepA E w v u:=by
 cases r with
 |tmp t=>
  simp only[St.resv,Option.some.injEq] at hv;subst hv;exact⟨_,rfl,hi.ev (.tmp t)⟩
 |cell p ty=>
  simp only[St.resv] at hv;split at hv
  · rename_i id hp;have hq:a.tmps.getD p undef= .pointer (some ⟨E.ρ id,0,none⟩):=hi.ptr hp;split at hv
    · rename_i b i fs hb hin hu;split at hv
      · rename_i hle;simp only[Option.some.injEq] at hv;subst hv;obtain⟨arr,_,_,hr,h1,_,hc⟩:=hi.boxCell hb;have hr':=hr.take i.size;have hl:(arr.take i.size).length=i.size:=by rw[lT,hr.1];omega
        have hrun:(loadCells ⟨E.ρ id,0,none⟩ (arr.take i.size).length).run P w= .ok (arr.take i.size).toArray w:=
         run_loadCells_list w _ _ (fun j v hv=>by
          rw[List.getElem?_take] at hv;split at hv
          · rw[aK,Nat.zero_add,hc _ (gS hv).1];exact hv
          · cases hv)
        rw[hl] at hrun;refine⟨_,?_,hr'.agg (fun u hu=>h1 u (mT hu))⟩;simp only[hq];simp[asAddr,loadVar,isAgg,run_underlying hu,sizeOf,typeInfo,hin,hrun]
      · cases hv
    · cases hv
  · cases hv
def St.ress(P:Program)(st:St):List ResultVar→Option (List AV)
 | [] =>some []
 |r::rs=>match st.resv P r,st.ress P rs with
  |some v,some vs=>some (v::vs)
  |_,_=>none
def Inv.ress(hi:Inv c E st a w): ∀{rs:List ResultVar} {vs:List AV},st.ress P rs=some vs→
 ∃us:List Value,(rs.mapM (fun r=>(match r with| .tmp t=>pure (a.tmps.getD t undef)| .cell p t=>do loadVar t (←asAddr (a.tmps.getD p undef)):Sem Value))).run P w= .ok us w∧RelL E w vs us
 | [],vs,h=>by simp[St.ress] at h;subst h;exact⟨[],rfl,RelL.nil _ _⟩
 |r::rs,vs,h=>by
  simp only[St.ress] at h;split at h
  · rename_i v vs' hv hvs;cases h;obtain⟨u,hu,hr⟩:=hi.resv (P:=P) hv;obtain⟨us,hus,hrs⟩:=hi.ress hvs;refine⟨u::us,?_,⟨by simp[hrs.1],fun i c' u' hc hu'=> ?_⟩⟩
    · rw[List.mapM_cons,Sem.run_bind,hu,Result.andThen_ok,Sem.run_bind,hus];rfl
    · cases i with
      |zero=>simp at hc hu';subst hc;subst hu';exact hr
      |succ i=>exact hrs.2 i c' u' (by simpa using hc) (by simpa using hu')
  · cases h
def resOf:List AV→AV
 | [v] =>v
 |vs=> .tup vs
def L.ends(hfn:fn.results=rs.toArray)(hv:st.ress P rs=some vs)(hs:Sub (resOf vs) res)(hw:Wk c st ⟨[],bx',tk'⟩):
 L c st (bodyPost P fn (lp c bx' tk' res) .ret):=by
 rintro a w ⟨E,hi⟩;obtain⟨us,hus,hr⟩:=hi.ress hv;refine⟨hi.defers,if h:us.length=1 then us[0] else .tuple us.toArray,?_,_,E,rfl,hs E w _ ?_,hi.heap.wk hw⟩
 · have hmap:(rs.toArray.mapM (fun r=>(match r with| .tmp t=>pure (a.tmps.getD t undef)| .cell p t=>do loadVar t (←asAddr (a.tmps.getD p undef)):Sem Value))).run P w= .ok us.toArray w:=by
    rw[Array.mapM_eq_mapM_toList,Sem.run_map];simp only[hus];rfl
   unfold results;rw[hfn,Sem.run_bind]
   erw [hmap]
   simp
 · match vs,us,hr with
   | [v],[u],hr=>exact hr.2 0 v u U U
   | [],[],hr=>exact .tup U (fun i c u h=>by simp at h)
   |v::v'::vs,u::u'::us,hr=>exact .tup hr.1 hr.2
   | [],u::us,hr=>have:=hr.1;simp at this
   | [v],[],hr=>have:=hr.1;simp at this
   | [v],u::u'::us,hr=>have:=hr.1;simp at this
   |v::v'::vs,[],hr=>have:=hr.1;simp at this
   |v::v'::vs,[u],hr=>have:=hr.1;simp at this
def Fr(hfn:fn.results=rs.toArray)(hv:st.ress P rs=some vs)(hs:Sub (resOf vs) res)(hw:Wk c st ⟨[],bx',tk'⟩):
 L c st (bodyPost P fn (lp c bx' tk' res) .normal):=fun a w hr=>L.ends hfn hv hs hw a w hr
end
end
end Go.Abs
namespace Go.Abs
def fR{v:AV}:Sub v v:=Sub.refl v
def fS{l:List AV}:Subs l l:=Subs.refl l
def sE{v v':AV}(h:v=v':=by exact rfl):Sub v v':=h▸Sub.refl v
def wF{fr l:List (Nat×AV)}{s:Nat}{v:AV}(t:WkF fr l)(h:fr.lookup s=some v:=by exact rfl):WkF fr ((s,v)::l):= .cons h (Sub.refl _) t
def wG{fr l:List (Nat×AV)}{s:Nat}{v u:AV}(t:WkF fr l)(h:fr.lookup s=some u:=by exact rfl)(e:u=v:=by exact rfl):WkF fr ((s,v)::l):= .cons h (e▸Sub.refl _) t
def wB{bx r:List (Nat×Box)}{id:Nat}{b b0:Box}(t:WkB bx r)(h:bx.lookup id=some b0:=by exact rfl)(ht:b0.ty=b.ty:=by exact rfl)(hs:Subs b0.cs b.cs:=by exact Subs.refl _):WkB bx ((id,b)::r):= .cons h ht hs t
def iK{β γ:Type}{a:List (Nat×β)}{b:List (Nat×γ)}(h:(keys a).all (fun i=>(b.lookup i).isSome)=true): ∀id∈keys a,(b.lookup id).isSome=true:=fun id hid=>List.all_eq_true.1 h id hid
def kK{ins:List Nat}{bx:List (Nat×Box)}(h: ∀id∈ins,(bx.lookup id).isSome=true:=by(first|exact iK rfl|(intro id h;cases h;done)|(intro id h;simp[keys] at h;rcases h with rfl|rfl<;>rfl)|(intro id h;simp[keys] at h;subst h;rfl))): ∀id∈ins,(bx.lookup id).isSome=true:=h
def wK{c:Ctx}{st:St}{fr:List (Nat×AV)}{bx:List (Nat×Box)}{tk:List (Nat×Tok)}(h0: ∀id∈c.ins,(bx.lookup id).isSome=true:=by exact kK)(h1:WkF st.fr fr:=by(repeat' (first|exact WkF.nil|refine wF ?_)))(h2:WkB st.bx bx:=by(repeat' (first|exact WkB.nil|refine wB ?_)))(h3:WkT st.tk tk:=by exact .nil):Wk c st ⟨fr,bx,tk⟩:=Wk.mk' h0 h1 h2 h3
def wL{c:Ctx}{st:St}{fr:List (Nat×AV)}{bx:List (Nat×Box)}{tk:List (Nat×Tok)}(h:Wk c st ⟨fr,bx,tk⟩:=by(refine Wk.mk' (iK rfl) ?_ ?_ ?_<;>repeat' (first|exact WkF.nil|exact WkB.nil|exact WkT.nil|refine wF ?_|refine wG ?_|(refine WkF.cons rfl Sub.nils ?_)|refine wB ?_|(refine WkT.cons rfl ?_)))):Wk c st ⟨fr,bx,tk⟩:=h
def B1{bx:List (Nat×Box)}{i1:Nat}{b1 c1:Box}(h1:bx.lookup i1=some c1:=by exact rfl)(t1:c1.ty=b1.ty:=by exact rfl)(s1:Subs c1.cs b1.cs:=by exact Subs.refl _):WkB bx [(i1,b1)]:= .cons h1 t1 s1 .nil
def B2{bx:List (Nat×Box)}{i1 i2:Nat}{b1 c1 b2 c2:Box}(h1:bx.lookup i1=some c1:=by exact rfl)(t1:c1.ty=b1.ty:=by exact rfl)(s1:Subs c1.cs b1.cs:=by exact Subs.refl _)(h2:bx.lookup i2=some c2:=by exact rfl)(t2:c2.ty=b2.ty:=by exact rfl)(s2:Subs c2.cs b2.cs:=by exact Subs.refl _):WkB bx [(i1,b1),(i2,b2)]:= .cons h1 t1 s1 (.cons h2 t2 s2 .nil)
def B3{bx:List (Nat×Box)}{i1 i2 i3:Nat}{b1 c1 b2 c2 b3 c3:Box}(h1:bx.lookup i1=some c1:=by exact rfl)(t1:c1.ty=b1.ty:=by exact rfl)(s1:Subs c1.cs b1.cs:=by exact Subs.refl _)(h2:bx.lookup i2=some c2:=by exact rfl)(t2:c2.ty=b2.ty:=by exact rfl)(s2:Subs c2.cs b2.cs:=by exact Subs.refl _)(h3:bx.lookup i3=some c3:=by exact rfl)(t3:c3.ty=b3.ty:=by exact rfl)(s3:Subs c3.cs b3.cs:=by exact Subs.refl _):WkB bx [(i1,b1),(i2,b2),(i3,b3)]:= .cons h1 t1 s1 (.cons h2 t2 s2 (.cons h3 t3 s3 .nil))
def B4{bx:List (Nat×Box)}{i1 i2 i3 i4:Nat}{b1 c1 b2 c2 b3 c3 b4 c4:Box}(h1:bx.lookup i1=some c1:=by exact rfl)(t1:c1.ty=b1.ty:=by exact rfl)(s1:Subs c1.cs b1.cs:=by exact Subs.refl _)(h2:bx.lookup i2=some c2:=by exact rfl)(t2:c2.ty=b2.ty:=by exact rfl)(s2:Subs c2.cs b2.cs:=by exact Subs.refl _)(h3:bx.lookup i3=some c3:=by exact rfl)(t3:c3.ty=b3.ty:=by exact rfl)(s3:Subs c3.cs b3.cs:=by exact Subs.refl _)(h4:bx.lookup i4=some c4:=by exact rfl)(t4:c4.ty=b4.ty:=by exact rfl)(s4:Subs c4.cs b4.cs:=by exact Subs.refl _):WkB bx [(i1,b1),(i2,b2),(i3,b3),(i4,b4)]:= .cons h1 t1 s1 (.cons h2 t2 s2 (.cons h3 t3 s3 (.cons h4 t4 s4 .nil)))
def B5{bx:List (Nat×Box)}{i1 i2 i3 i4 i5:Nat}{b1 c1 b2 c2 b3 c3 b4 c4 b5 c5:Box}(h1:bx.lookup i1=some c1:=by exact rfl)(t1:c1.ty=b1.ty:=by exact rfl)(s1:Subs c1.cs b1.cs:=by exact Subs.refl _)(h2:bx.lookup i2=some c2:=by exact rfl)(t2:c2.ty=b2.ty:=by exact rfl)(s2:Subs c2.cs b2.cs:=by exact Subs.refl _)(h3:bx.lookup i3=some c3:=by exact rfl)(t3:c3.ty=b3.ty:=by exact rfl)(s3:Subs c3.cs b3.cs:=by exact Subs.refl _)(h4:bx.lookup i4=some c4:=by exact rfl)(t4:c4.ty=b4.ty:=by exact rfl)(s4:Subs c4.cs b4.cs:=by exact Subs.refl _)(h5:bx.lookup i5=some c5:=by exact rfl)(t5:c5.ty=b5.ty:=by exact rfl)(s5:Subs c5.cs b5.cs:=by exact Subs.refl _):WkB bx [(i1,b1),(i2,b2),(i3,b3),(i4,b4),(i5,b5)]:= .cons h1 t1 s1 (.cons h2 t2 s2 (.cons h3 t3 s3 (.cons h4 t4 s4 (.cons h5 t5 s5 .nil))))
def F1{fr:List (Nat×AV)}{i1:Nat}{v1:AV}(h1:fr.lookup i1=some v1:=by exact rfl):WkF fr [(i1,v1)]:= .cons h1 (Sub.refl _) .nil
def F2{fr:List (Nat×AV)}{i1 i2:Nat}{v1 v2:AV}(h1:fr.lookup i1=some v1:=by exact rfl)(h2:fr.lookup i2=some v2:=by exact rfl):WkF fr [(i1,v1),(i2,v2)]:= .cons h1 (Sub.refl _) (.cons h2 (Sub.refl _) .nil)
def F3{fr:List (Nat×AV)}{i1 i2 i3:Nat}{v1 v2 v3:AV}(h1:fr.lookup i1=some v1:=by exact rfl)(h2:fr.lookup i2=some v2:=by exact rfl)(h3:fr.lookup i3=some v3:=by exact rfl):WkF fr [(i1,v1),(i2,v2),(i3,v3)]:= .cons h1 (Sub.refl _) (.cons h2 (Sub.refl _) (.cons h3 (Sub.refl _) .nil))
def F4{fr:List (Nat×AV)}{i1 i2 i3 i4:Nat}{v1 v2 v3 v4:AV}(h1:fr.lookup i1=some v1:=by exact rfl)(h2:fr.lookup i2=some v2:=by exact rfl)(h3:fr.lookup i3=some v3:=by exact rfl)(h4:fr.lookup i4=some v4:=by exact rfl):WkF fr [(i1,v1),(i2,v2),(i3,v3),(i4,v4)]:= .cons h1 (Sub.refl _) (.cons h2 (Sub.refl _) (.cons h3 (Sub.refl _) (.cons h4 (Sub.refl _) .nil)))
def F5{fr:List (Nat×AV)}{i1 i2 i3 i4 i5:Nat}{v1 v2 v3 v4 v5:AV}(h1:fr.lookup i1=some v1:=by exact rfl)(h2:fr.lookup i2=some v2:=by exact rfl)(h3:fr.lookup i3=some v3:=by exact rfl)(h4:fr.lookup i4=some v4:=by exact rfl)(h5:fr.lookup i5=some v5:=by exact rfl):WkF fr [(i1,v1),(i2,v2),(i3,v3),(i4,v4),(i5,v5)]:= .cons h1 (Sub.refl _) (.cons h2 (Sub.refl _) (.cons h3 (Sub.refl _) (.cons h4 (Sub.refl _) (.cons h5 (Sub.refl _) .nil))))
def F6{fr:List (Nat×AV)}{i1 i2 i3 i4 i5 i6:Nat}{v1 v2 v3 v4 v5 v6:AV}(h1:fr.lookup i1=some v1:=by exact rfl)(h2:fr.lookup i2=some v2:=by exact rfl)(h3:fr.lookup i3=some v3:=by exact rfl)(h4:fr.lookup i4=some v4:=by exact rfl)(h5:fr.lookup i5=some v5:=by exact rfl)(h6:fr.lookup i6=some v6:=by exact rfl):WkF fr [(i1,v1),(i2,v2),(i3,v3),(i4,v4),(i5,v5),(i6,v6)]:= .cons h1 (Sub.refl _) (.cons h2 (Sub.refl _) (.cons h3 (Sub.refl _) (.cons h4 (Sub.refl _) (.cons h5 (Sub.refl _) (.cons h6 (Sub.refl _) .nil)))))
def F7{fr:List (Nat×AV)}{i1 i2 i3 i4 i5 i6 i7:Nat}{v1 v2 v3 v4 v5 v6 v7:AV}(h1:fr.lookup i1=some v1:=by exact rfl)(h2:fr.lookup i2=some v2:=by exact rfl)(h3:fr.lookup i3=some v3:=by exact rfl)(h4:fr.lookup i4=some v4:=by exact rfl)(h5:fr.lookup i5=some v5:=by exact rfl)(h6:fr.lookup i6=some v6:=by exact rfl)(h7:fr.lookup i7=some v7:=by exact rfl):WkF fr [(i1,v1),(i2,v2),(i3,v3),(i4,v4),(i5,v5),(i6,v6),(i7,v7)]:= .cons h1 (Sub.refl _) (.cons h2 (Sub.refl _) (.cons h3 (Sub.refl _) (.cons h4 (Sub.refl _) (.cons h5 (Sub.refl _) (.cons h6 (Sub.refl _) (.cons h7 (Sub.refl _) .nil))))))
section
variable [Dr]
def iA{P:Program}{f:FuncId}{fn:Func}{code:Code}{args:List AV}{bx bx':List (Nat×Box)}{tk':List (Nat×Tok)}{res:AV}{nt:Nat}(hf:P.funcs[f]?=some fn)(hnt:fn.ntmps=nt)(h: ∀(w0:World) (E0:Env),L ⟨nt,w0,E0,keys bx⟩ ⟨enter 0 args,bx,[]⟩ (code.wp P (bodyPost P fn (lp ⟨nt,w0,E0,keys bx⟩ bx' tk' res))))(hb:fn.body=some code:=by exact rfl)(hn:Nat.ble args.length nt=true:=by exact rfl):CallA P f args bx bx' tk' res:=CallA.intro nt hf hb hnt hn h
end
end Go.Abs
