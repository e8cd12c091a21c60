/- Several texts in one, each with its own sentence ahead of it. Conditions: each one says its own. -/
import Derived.WalkKit
import Derived.Orders
import Derived.Below
set_option linter.all false
namespace Go.Abs
open Go.RowKit (Below)
set_option linter.unusedVariables false
inductive IV where
 |im (v:Value)
 |sl (es:List (List IV))
inductive RepI (φ:Nat→Nat) (w:World):IV→Value→Prop
 |im {v:Value} (h:v.oneCell'=true):RepI φ w (.im v) v
 |emp {a:Option Addr} {cap:Nat} (hn:a=none→cap=0) (hm:cap≤maxLen):RepI φ w (.sl []) (.slice a 0 cap)
 |sl {es:List (List IV)} {b o cap k:Nat} (f:Nat→Nat→Value) (hc:es.length≤cap) (hm:cap≤maxLen)
   (hk: ∀(i:Nat) (e:List IV),es[i]?=some e→e.length=k)
   (hφ: ∀(i:Nat) (e:List IV) (j:Nat) (x:IV),es[i]?=some e→e[j]?=some x→o+i*k+j<φ b)
   (hcell: ∀(i:Nat) (e:List IV) (j:Nat) (x:IV),es[i]?=some e→e[j]?=some x→w.cell? ⟨b,o+i*k+j,none⟩=some (f i j))
   (hrep: ∀(i:Nat) (e:List IV) (j:Nat) (x:IV),es[i]?=some e→e[j]?=some x→RepI φ w x (f i j)):
   RepI φ w (.sl es) (.slice (some ⟨b,o,none⟩) es.length cap)
theorem RepI.nil{φ:Nat→Nat}{w:World}:RepI φ w (.sl []) (.slice none 0 0):= .emp (fun _=>rfl) (Nat.zero_le _)
theorem RepI.oneCell{φ:Nat→Nat}{w:World}{x:IV}{v:Value}(h:RepI φ w x v):v.oneCell'=true:=by
 cases h<;>first|assumption|rfl
theorem RepI.im_eq{φ:Nat→Nat}{w:World}{v u:Value}(h:RepI φ w (.im v) u):u=v:=by
 cases h;rfl
def Keeps(φ:Nat→Nat)(w w':World):Prop:= ∀b o,o<φ b→w'.cell? ⟨b,o,none⟩=w.cell? ⟨b,o,none⟩
theorem RepI.mono{φ φ':Nat→Nat}{w w':World}(hk:Keeps φ w w')(hφ: ∀b,φ b≤φ' b){x:IV}{v:Value}(h:RepI φ w x v):RepI φ' w' x v:=by
 induction h with
 |im h=>exact .im h
 |emp hn hm=>exact .emp hn hm
 |sl f hc hm hkk hph hcell _ ih=>
  exact .sl f hc hm hkk (fun i e j x h1 h2=>Nat.lt_of_lt_of_le (hph i e j x h1 h2) (hφ _))
   (fun i e j x h1 h2=>(hk _ _ (hph i e j x h1 h2)).trans (hcell i e j x h1 h2)) ih
inductive AV where
 |any
 |iv (x:IV)
 |nils
 |emp
 |row (id:Nat) (es:List (List IV))
 |ptr (id off:Nat)
 |bsl (id off n cap:Nat)
 |bsh (id off n k:Nat)
 |el (cs:List IV)
 |agg (cs:List AV)
 |tup (vs:List AV)
 |fn (f:FuncId) (caps:List AV)
 |opt (c:Bool) (v:AV)
def capV(k cap:Nat):Value:= .tuple #[.int .i64 k,.int .i64 cap]
theorem capV_inj{k cap k' cap':Nat}(h:capV k cap=capV k' cap'):k=k'∧cap=cap':=by
 simp only[capV,Value.tuple.injEq,Array.mk.injEq,List.cons.injEq,Value.int.injEq,true_and,and_true] at h
 omega
structure Env where
 φ:Nat→Nat
 ρ:Nat→Nat
 η:Nat→Value
inductive RepA (E:Env) (w:World):AV→Value→Prop
 |any {u:Value}:RepA E w .any u
 |iv {x:IV} {u:Value} (h:RepI E.φ w x u):RepA E w (.iv x) u
 |nils:RepA E w .nils (.slice none 0 0)
 |emp {a:Option Addr} {u:Value} (hu:u= .slice a 0 0):RepA E w .emp u
 |row {id:Nat} {es:List (List IV)} {u:Value} (hu:u=E.η id) (h:RepI E.φ w (.sl es) u):RepA E w (.row id es) u
 |ptr {id off:Nat} {u:Value} (hu:u= .pointer (some ⟨E.ρ id,off,none⟩)):RepA E w (.ptr id off) u
 |bsl {id off n cap o:Nat} {u:Value} (hn:n≤cap) (hm:cap≤maxLen) (ho:cap≠0→o=off) (hu:u= .slice (some ⟨E.ρ id,o,none⟩) n cap):RepA E w (.bsl id off n cap) u
 |bsh {id off n k cap o:Nat} {u:Value} (hn:off+n≤cap) (hm:cap≤maxLen) (he:E.η id=capV k cap) (ho:cap - off≠0→o=off*k) (hu:u= .slice (some ⟨E.ρ id,o,none⟩) n (cap - off)):RepA E w (.bsh id off n k) u
 |el {cs:List IV} {b o:Nat} (f:Nat→Value) (hc: ∀(j:Nat) (x:IV),cs[j]?=some x→o+j<E.φ b∧w.cell? ⟨b,o+j,none⟩=some (f j))
   (hr: ∀(j:Nat) (x:IV),cs[j]?=some x→RepI E.φ w x (f j)):RepA E w (.el cs) (.pointer (some ⟨b,o,none⟩))
 |agg {cs:List AV} {us:List Value} (hl:us.length=cs.length) (h1: ∀u∈us,u.oneCell'=true)
   (h: ∀(i:Nat) (c:AV) (u:Value),cs[i]?=some c→us[i]?=some u→RepA E w c u):RepA E w (.agg cs) (.agg us.toArray)
 |tup {cs:List AV} {us:List Value} (hl:us.length=cs.length)
   (h: ∀(i:Nat) (c:AV) (u:Value),cs[i]?=some c→us[i]?=some u→RepA E w c u):RepA E w (.tup cs) (.tuple us.toArray)
 |fn {f:FuncId} {caps:List AV} {us:List Value} (hl:us.length=caps.length)
   (h: ∀(i:Nat) (c:AV) (u:Value),caps[i]?=some c→us[i]?=some u→RepA E w c u):RepA E w (.fn f caps) (.func (.func f) #[] us.toArray)
 |optT {v:AV} {u:Value} (h:RepA E w v u):RepA E w (.opt true v) u
 |optF {v:AV}:RepA E w (.opt false v) undef
mutual
def AV.ment(id:Nat):AV→Bool
 | .any| .iv _| .nils| .emp| .el _=>false
 | .row i _=>i==id
 | .ptr i _=>i==id
 | .bsl i _ _ _=>i==id
 | .bsh i _ _ _=>i==id
 | .agg cs=>AV.ments id cs
 | .tup cs=>AV.ments id cs
 | .fn _ cs=>AV.ments id cs
 | .opt _ v=>AV.ment id v
def AV.ments(id:Nat):List AV→Bool
 | [] =>false
 |c::cs=>AV.ment id c||AV.ments id cs
end
theorem AV.ments_false{id:Nat}: ∀{cs:List AV},AV.ments id cs=false→ ∀(i:Nat) (c:AV),cs[i]?=some c→AV.ment id c=false
 | [],_,i,c,h=>by simp at h
 |d::cs,hm,0,c,h=>by
  simp only[AV.ments,Bool.or_eq_false_iff] at hm
  simp at h;subst h;exact hm.1
 |d::cs,hm,i+1,c,h=>by
  simp only[AV.ments,Bool.or_eq_false_iff] at hm
  exact AV.ments_false hm.2 i c (by simpa using h)
theorem RepA.mono{E E':Env}{w w':World}(hk:Keeps E.φ w w')(hφ: ∀b,E.φ b≤E'.φ b){v:AV}{u:Value}(h:RepA E w v u):
 (∀id,AV.ment id v=true→E'.ρ id=E.ρ id∧E'.η id=E.η id)→RepA E' w' v u:=by
 induction h with
 |any=>exact fun _=> .any
 |iv h=>exact fun _=> .iv (h.mono hk hφ)
 |nils=>exact fun _=> .nils
 |emp hu=>exact fun _=> .emp hu
 |row hu h=>exact fun hm=> .row (by rw[hu];exact(hm _ (by simp[AV.ment])).2.symm) (h.mono hk hφ)
 |ptr hu=>exact fun hm=> .ptr (by rw[hu,(hm _ (by simp[AV.ment])).1])
 |bsl hn hx ho hu=>exact fun hm=> .bsl hn hx ho (by rw[hu,(hm _ (by simp[AV.ment])).1])
 |bsh hn hx he ho hu=>exact fun hm=> .bsh hn hx (by rw[(hm _ (by simp[AV.ment])).2];exact he) ho (by rw[hu,(hm _ (by simp[AV.ment])).1])
 |el f hc hr=>exact fun _=> .el f (fun j x hx=>⟨Nat.lt_of_lt_of_le (hc j x hx).1 (hφ _),(hk _ _ (hc j x hx).1).trans (hc j x hx).2⟩) (fun j x hx=>(hr j x hx).mono hk hφ)
 |agg hl h1 _ ih=>
  refine fun hm=> .agg hl h1 (fun i c u hc hu=>ih i c u hc hu (fun id hid=>hm id ?_))
  cases hq:AV.ment id (.agg _) with
  |true=>rfl
  |false=>simp only[AV.ment] at hq;rw[AV.ments_false hq i c hc] at hid;cases hid
 |tup hl _ ih=>
  refine fun hm=> .tup hl (fun i c u hc hu=>ih i c u hc hu (fun id hid=>hm id ?_))
  cases hq:AV.ment id (.tup _) with
  |true=>rfl
  |false=>simp only[AV.ment] at hq;rw[AV.ments_false hq i c hc] at hid;cases hid
 |fn hl _ ih=>
  refine fun hm=> .fn hl (fun i c u hc hu=>ih i c u hc hu (fun id hid=>hm id ?_))
  cases hq:AV.ment id (.fn _ _) with
  |true=>rfl
  |false=>simp only[AV.ment] at hq;rw[AV.ments_false hq i c hc] at hid;cases hid
 |optT h ih=>exact fun hm=> .optT (ih (fun id hid=>hm id (by simpa[AV.ment] using hid)))
 |optF=>exact fun _=> .optF
theorem RepA.keep{E:Env}{w w':World}(hk:Keeps E.φ w w'){v:AV}{u:Value}(h:RepA E w v u):RepA E w' v u:=
 h.mono hk (fun _=>Nat.le_refl _) (fun _ _=>⟨rfl,rfl⟩)
theorem RepA.iv_im{E:Env}{w:World}{v u:Value}(h:RepA E w (.iv (.im v)) u):u=v:=by
 cases h with|iv h=>exact h.im_eq
theorem RepA.iv_inv{E:Env}{w:World}{x:IV}{u:Value}(h:RepA E w (.iv x) u):RepI E.φ w x u:=by
 cases h with|iv h=>exact h
theorem RepA.bsl_inv{E:Env}{w:World}{id off n cap:Nat}{u:Value}(h:RepA E w (.bsl id off n cap) u): ∃o,u= .slice (some ⟨E.ρ id,o,none⟩) n cap∧n≤cap∧cap≤maxLen∧(cap≠0→o=off):=by
 cases h with|bsl hn hm ho h=>exact⟨_,h,hn,hm,ho⟩
theorem RepA.bsh_inv{E:Env}{w:World}{id off n k:Nat}{u:Value}(h:RepA E w (.bsh id off n k) u): ∃cap o,u= .slice (some ⟨E.ρ id,o,none⟩) n (cap - off)∧off+n≤cap∧cap≤maxLen∧E.η id=capV k cap∧(cap - off≠0→o=off*k):=by
 cases h with|bsh hn hm he ho h=>exact⟨_,_,h,hn,hm,he,ho⟩
theorem RepA.ptr_inv{E:Env}{w:World}{id off:Nat}{u:Value}(h:RepA E w (.ptr id off) u):u= .pointer (some ⟨E.ρ id,off,none⟩):=by
 cases h with|ptr h=>exact h
def AV.one:AV→Bool
 | .agg _| .tup _| .any| .opt _ _=>false
 |_=>true
theorem RepA.oneCell{E:Env}{w:World}{v:AV}{u:Value}(h:RepA E w v u)(h1:v.one=true):u.oneCell'=true:=by
 cases h with
 |iv h=>exact h.oneCell
 |nils=>rfl
 |emp hu=>subst hu;rfl
 |row hu h=>exact h.oneCell
 |ptr hu=>subst hu;rfl
 |bsl hn hx ho hu=>subst hu;rfl
 |bsh hn hx he ho hu=>subst hu;rfl
 |el=>rfl
 |fn=>rfl
 |_=>simp[AV.one] at h1
def AV.cells:AV→List AV
 | .agg cs=>cs
 |v=> [v]
theorem RepA.cells{E:Env}{w:World}{v:AV}{u:Value}(h:RepA E w v u)(h1:v.one=true∨ ∃cs,v= .agg cs):
 u.cells.toList.length=v.cells.length∧(∀x∈u.cells.toList,x.oneCell'=true)∧
   ∀(i:Nat) (c:AV) (x:Value),v.cells[i]?=some c→u.cells.toList[i]?=some x→RepA E w c x:=by
 rcases h1 with h1|⟨cs,rfl⟩
 · have ho:=h.oneCell h1
   have e1:u.cells= #[u]:=by cases u<;>first|rfl|simp[Value.oneCell'] at ho
   have e2:v.cells= [v]:=by cases v<;>first|rfl|simp[AV.one] at h1
   rw[e1,e2]
   refine⟨by simp,by simpa using ho,fun i c x hc hx=> ?_⟩
   cases i with
   |zero=>simp at hc hx;subst hc;subst hx;exact h
   |succ i=>simp at hc
 · cases h with
   |agg hl h1 h=>exact⟨by simpa[AV.cells,Value.cells] using hl,by simpa[Value.cells] using h1,fun i c x hc hx=>h i c x hc (by simpa[Value.cells] using hx)⟩
end Go.Abs
namespace Go.Abs
class Dr where
 p:Prop
instance (priority:=low) noDr:Dr:=⟨False⟩
variable [Dr]
set_option linter.unusedSectionVars false
open Go.RowKit (Below)
set_option linter.unusedVariables false
inductive Cells where
 |l (cs:List AV)
 |r (xs:List IV) (m:Nat)
def Cells.list:Cells→List AV
 | .l cs=>cs
 | .r xs m=>xs.map .iv++List.replicate m .any
instance:Coe (List AV) Cells:=⟨.l⟩
structure Box where
 ty:TypeId
 c:Cells
def Box.cs(b:Box):List AV:=b.c.list
@[simp] theorem Box.cs_l(ty:TypeId)(cs:List AV):(Box.mk ty (.l cs)).cs=cs:=rfl
@[simp] theorem Box.cs_r(ty:TypeId)(xs:List IV)(m:Nat):(Box.mk ty (.r xs m)).cs=xs.map .iv++List.replicate m .any:=rfl
def Box.ment(id:Nat)(b:Box):Bool:=
 match b.c with
 | .l cs=>AV.ments id cs
 | .r _ _=>false
theorem ments_app{id:Nat}: ∀{l m:List AV},AV.ments id l=false→AV.ments id m=false→AV.ments id (l++m)=false
 | [],m,_,h=>h
 |x::l,m,h,h'=>by
  simp only[AV.ments,Bool.or_eq_false_iff] at h
  simp only[List.cons_append,AV.ments,Bool.or_eq_false_iff]
  exact⟨h.1,ments_app h.2 h'⟩
theorem ments_iv(id:Nat): ∀xs:List IV,AV.ments id (xs.map .iv)=false
 | [] =>rfl
 |x::xs=>by simp[AV.ments,AV.ment,ments_iv id xs]
theorem ments_any(id:Nat): ∀m:Nat,AV.ments id (List.replicate m .any)=false
 |0=>rfl
 |m+1=>by simp[List.replicate_succ,AV.ments,AV.ment,ments_any id m]
theorem Box.ment_eq(id:Nat)(b:Box):b.ment id=AV.ments id b.cs:=by
 obtain⟨ty,c⟩:=b
 cases c with
 |l cs=>rfl
 |r xs m=>exact(ments_app (ments_iv id xs) (ments_any id m)).symm
structure Tok where
 ty:TypeId
 k:Nat
structure St where
 fr:List (Nat×AV)
 bx:List (Nat×Box)
 tk:List (Nat×Tok)
structure Ctx where
 nt:Nat
 w0:World
 E0:Env
 ins:List Nat
def Ctx.M(c:Ctx)(g:Nat):Prop:= ∃id∈c.ins,c.E0.ρ id=g∧c.E0.φ g=0
def BoxOk(E:Env)(w:World)(id:Nat)(b:Box):Prop:=
 E.φ (E.ρ id)=0∧ ∃arr:List Value,w.heap[E.ρ id]?=some (.cells arr.toArray b.ty (0,0))∧b.cs.length≤arr.length∧(∀u∈arr,u.oneCell'=true)∧
   (∀(i:Nat) (c:AV) (u:Value),b.cs[i]?=some c→arr[i]?=some u→RepA E w c u)∧ ∀k cap,E.η id=capV k cap→cap*k≤arr.length
def TokOk(E:Env)(w:World)(id:Nat)(t:Tok):Prop:=
 E.η id= .slice none 0 0∨
 ∃(g n cap:Nat) (cur:Array Value),E.η id= .slice (some ⟨g,0,none⟩) n cap∧w.heap[g]?=some (.cells cur t.ty (0,0))∧n≤cap∧cap≤maxLen∧
  cap*t.k≤cur.size∧E.φ g≤n*t.k
structure KeptBut (M:Nat→Prop) (w w':World):Prop where
 os:w'.os=w.os
 tape:w'.tape=w.tape
 output:w'.output=w.output
 size:w.heap.size≤w'.heap.size
 block: ∀k,k<w.heap.size→ ¬M k→w'.heap[k]?=w.heap[k]?
 drawn:Dr.p→w.drawn≤w'.drawn
theorem KeptBut.refl(M:Nat→Prop)(w:World):KeptBut M w w:=⟨rfl,rfl,rfl,Nat.le_refl _,fun _ _ _=>rfl,fun _=>Nat.le_refl _⟩
theorem KeptBut.below{w w':World}(h:KeptBut (fun _=>False) w w'):Below w.heap.size w w':=⟨h.os,h.tape,h.output,h.size,fun k hk=>h.block k hk id⟩
theorem KeptBut.ofBelow{M:Nat→Prop}{w w':World}(h:Below w.heap.size w w')(hd:Dr.p→w.drawn≤w'.drawn:=by exact fun h=>False.elim h):KeptBut M w w':=⟨h.os,h.tape,h.output,h.size,fun k hk _=>h.block k hk,hd⟩
theorem KeptBut.next{M:Nat→Prop}{w0 w w':World}(h:KeptBut M w0 w)(os:w'.os=w.os)(tape:w'.tape=w.tape)(output:w'.output=w.output)(size:w.heap.size≤w'.heap.size)
 (block: ∀k,k<w0.heap.size→ ¬M k→w'.heap[k]?=w.heap[k]?) (drawn:Dr.p→w.drawn≤w'.drawn:=by intro _;first|exact Nat.le_refl _|exact Nat.le_succ _):KeptBut M w0 w':=
 ⟨os.trans h.os,tape.trans h.tape,output.trans h.output,Nat.le_trans h.size size,fun k hk hm=>(block k hk hm).trans (h.block k hk hm),fun hp=>Nat.le_trans (h.drawn hp) (drawn hp)⟩
structure HInv (c:Ctx) (E:Env) (bx:List (Nat×Box)) (tk:List (Nat×Tok)) (w:World):Prop where
 box: ∀(id:Nat) (b:Box),bx.lookup id=some b→b.cs≠ [] →BoxOk E w id b
 tok: ∀(id:Nat) (t:Tok),tk.lookup id=some t→TokOk E w id t
 bb: ∀(i j:Nat) (b b':Box),bx.lookup i=some b→bx.lookup j=some b'→b.cs≠ [] →b'.cs≠ [] →E.ρ i=E.ρ j→i=j
 tt: ∀(i j:Nat) (t t':Tok) (g:Nat),tk.lookup i=some t→tk.lookup j=some t'→(E.η i).ownBlock=some g→(E.η j).ownBlock=some g→i=j
 bt: ∀(i j:Nat) (b:Box) (t:Tok),bx.lookup i=some b→b.cs≠ [] →tk.lookup j=some t→(E.η j).ownBlock≠some (E.ρ i)
 own: ∀(i:Nat) (b:Box),bx.lookup i=some b→b.cs≠ [] →c.w0.heap.size≤E.ρ i∨c.M (E.ρ i)
 ownt: ∀(j:Nat) (t:Tok) (g:Nat),tk.lookup j=some t→(E.η j).ownBlock=some g→c.w0.heap.size≤g
 new: ∀b,w.heap.size≤b→E.φ b=0
 old: ∀b,b<c.w0.heap.size→E.φ b=c.E0.φ b
 ins: ∀id∈c.ins,E.ρ id=c.E0.ρ id∧E.η id=c.E0.η id∧(bx.lookup id).isSome=true
 kept:KeptBut c.M c.w0 w
structure Inv (c:Ctx) (E:Env) (st:St) (a:Act) (w:World):Prop where
 defers:a.defers= []
 size:a.tmps.size=c.nt
 slot: ∀(s:Nat) (v:AV),st.fr.lookup s=some v→RepA E w v (a.tmps.getD s undef)
 heap:HInv c E st.bx st.tk w
def R(c:Ctx)(st:St)(a:Act)(w:World):Prop:= ∃E,Inv c E st a w
def L(c:Ctx)(st:St)(X:Act→World→Prop):Prop:= ∀a w,R c st a w→X a w
def Sub(v v':AV):Prop:= ∀(E:Env) (w:World) (u:Value),RepA E w v u→RepA E w v' u
theorem Sub.refl(v:AV):Sub v v:=fun _ _ _ h=>h
theorem Sub.any(v:AV):Sub v .any:=fun _ _ _ _=> .any
theorem Sub.row(id:Nat)(es:List (List IV)):Sub (.row id es) (.iv (.sl es)):=fun _ _ _ h=>by cases h with|row hu h=>exact .iv h
theorem Sub.nils:Sub .nils (.iv (.sl [])):=fun _ _ _ h=>by cases h;exact .iv .nil
theorem Sub.emp:Sub .emp (.iv (.sl [])):=fun _ _ _ h=>by
 cases h with
 |emp hu=>subst hu;exact .iv (.emp (fun _=>rfl) (Nat.zero_le _))
theorem Sub.nilsEmp:Sub .nils .emp:=fun _ _ _ h=>by cases h;exact .emp rfl
theorem Sub.trans{a b c:AV}(h:Sub a b)(k:Sub b c):Sub a c:=fun E w u x=>k E w u (h E w u x)
def Subs(l l':List AV):Prop:=l'.length=l.length∧ ∀(i:Nat) (x y:AV),l[i]?=some x→l'[i]?=some y→Sub x y
theorem Subs.nil:Subs [] []:=⟨rfl,fun i x y h=>by simp at h⟩
theorem Subs.cons{x y:AV}{l l':List AV}(h:Sub x y)(t:Subs l l'):Subs (x::l) (y::l'):=
 ⟨by simp[t.1],fun i a b ha hb=>by
   cases i with
   |zero=>simp at ha hb;subst ha;subst hb;exact h
   |succ i=>exact t.2 i a b (by simpa using ha) (by simpa using hb)⟩
theorem Subs.refl(l:List AV):Subs l l:=⟨rfl,fun i x y h1 h2=>by rw[h1] at h2;cases h2;exact Sub.refl _⟩
theorem Subs.ne{l l':List AV}(h:Subs l l')(hn:l'≠ []):l≠ []:=fun e=>by
 have:=h.1;rw[e] at this;exact hn (List.eq_nil_of_length_eq_zero (by simpa using this))
theorem Sub.agg{l l':List AV}(h:Subs l l'):Sub (.agg l) (.agg l'):=fun E w u x=>by
 cases x with
 |agg hl h1 hr=>
  refine .agg (by rw[hl,h.1]) h1 (fun i c u hc hu=> ?_)
  have hi:i<l.length:=by
   have:=(List.getElem?_eq_some_iff.1 hc).1
   rw[h.1] at this;exact this
  exact h.2 i _ _ (List.getElem?_eq_getElem hi) hc E w u (hr i _ u (List.getElem?_eq_getElem hi) hu)
theorem Sub.tup{l l':List AV}(h:Subs l l'):Sub (.tup l) (.tup l'):=fun E w u x=>by
 cases x with
 |tup hl hr=>
  refine .tup (by rw[hl,h.1]) (fun i c u hc hu=> ?_)
  have hi:i<l.length:=by
   have:=(List.getElem?_eq_some_iff.1 hc).1
   rw[h.1] at this;exact this
  exact h.2 i _ _ (List.getElem?_eq_getElem hi) hc E w u (hr i _ u (List.getElem?_eq_getElem hi) hu)
def AV.pub:AV→AV
 | .row _ es=> .iv (.sl es)
 | .nils=> .iv (.sl [])
 | .emp=> .iv (.sl [])
 | .agg cs=> .agg (pubs cs)
 |v=>v
 where pubs:List AV→List AV
  | [] => []
  |c::cs=>AV.pub c::pubs cs
mutual
theorem Sub.pub: ∀v:AV,Sub v v.pub
 | .row id es=>Sub.row id es
 | .nils=>Sub.nils
 | .emp=>Sub.emp
 | .agg cs=>Sub.agg (Subs.pubs cs)
 | .any=>Sub.refl _
 | .iv _=>Sub.refl _
 | .ptr _ _=>Sub.refl _
 | .bsl _ _ _ _=>Sub.refl _
 | .bsh _ _ _ _=>Sub.refl _
 | .el _=>Sub.refl _
 | .tup _=>Sub.refl _
 | .fn _ _=>Sub.refl _
 | .opt _ _=>Sub.refl _
theorem Subs.pubs: ∀l:List AV,Subs l (AV.pub.pubs l)
 | [] =>Subs.nil
 |c::cs=>Subs.cons (Sub.pub c) (Subs.pubs cs)
end
structure Wk (c:Ctx) (st st':St):Prop where
 ins: ∀id∈c.ins,(st'.bx.lookup id).isSome=true
 fr: ∀(s:Nat) (v:AV),st'.fr.lookup s=some v→ ∃v0,st.fr.lookup s=some v0∧Sub v0 v
 bx: ∀(id:Nat) (b:Box),st'.bx.lookup id=some b→ ∃b0,st.bx.lookup id=some b0∧b0.ty=b.ty∧Subs b0.cs b.cs
 tk: ∀(id:Nat) (t:Tok),st'.tk.lookup id=some t→st.tk.lookup id=some t
theorem BoxOk.sub{E:Env}{w:World}{id:Nat}{b b':Box}(h:BoxOk E w id b)(ht:b.ty=b'.ty)(hs:Subs b.cs b'.cs):BoxOk E w id b':=by
 obtain⟨h0,arr,ha,hl,h1,hr,hη⟩:=h
 refine⟨h0,arr,by rw[←ht];exact ha,by rw[hs.1];exact hl,h1,fun i c u hc hu=> ?_,hη⟩
 have hi:i<b.cs.length:=by
  have:=(List.getElem?_eq_some_iff.1 hc).1
  rw[hs.1] at this;exact this
 exact hs.2 i _ _ (List.getElem?_eq_getElem hi) hc E w u (hr i _ u (List.getElem?_eq_getElem hi) hu)
theorem HInv.wk{c:Ctx}{E:Env}{w:World}{st st':St}(h:HInv c E st.bx st.tk w)(hw:Wk c st st'):HInv c E st'.bx st'.tk w where
 box id b hb hn:=by obtain⟨b0,h0,ht,hs⟩:=hw.bx id b hb;exact(h.box id b0 h0 (hs.ne hn)).sub ht hs
 tok id t ht:=h.tok id t (hw.tk id t ht)
 bb i j b b' hi hj hn hn' he:=by
  obtain⟨b0,h0,_,hs⟩:=hw.bx i b hi
  obtain⟨b1,h1,_,hs'⟩:=hw.bx j b' hj
  exact h.bb i j b0 b1 h0 h1 (hs.ne hn) (hs'.ne hn') he
 tt i j t t' g hi hj:=h.tt i j t t' g (hw.tk i t hi) (hw.tk j t' hj)
 bt i j b t hi hn hj:=by
  obtain⟨b0,h0,_,hs⟩:=hw.bx i b hi
  exact h.bt i j b0 t h0 (hs.ne hn) (hw.tk j t hj)
 own i b hi hn:=by obtain⟨b0,h0,_,hs⟩:=hw.bx i b hi;exact h.own i b0 h0 (hs.ne hn)
 ownt j t g hj:=h.ownt j t g (hw.tk j t hj)
 new:=h.new
 old:=h.old
 ins id hid:=⟨(h.ins id hid).1,(h.ins id hid).2.1,hw.ins id hid⟩
 kept:=h.kept
theorem R.wk{c:Ctx}{st st':St}{a:Act}{w:World}(h:R c st a w)(hw:Wk c st st'):R c st' a w:=by
 obtain⟨E,hi⟩:=h
 exact⟨E,hi.defers,hi.size,fun s v hv=>by obtain⟨v0,h0,hs⟩:=hw.fr s v hv;exact hs E w _ (hi.slot s v0 h0),hi.heap.wk hw⟩
theorem L.wk{c:Ctx}{st st':St}{X:Act→World→Prop}(hw:Wk c st st')(h:L c st' X):L c st X:=fun a w hr=>h a w (hr.wk hw)
theorem L.mono{c:Ctx}{st:St}{X Y:Act→World→Prop}(h:L c st X)(hxy: ∀a w,X a w→Y a w):L c st Y:=fun a w hr=>hxy a w (h a w hr)
inductive WkF (fr:List (Nat×AV)):List (Nat×AV)→Prop
 |nil:WkF fr []
 |cons {s:Nat} {v v0:AV} {r:List (Nat×AV)} (h:fr.lookup s=some v0) (hs:Sub v0 v) (t:WkF fr r):WkF fr ((s,v)::r)
inductive WkB (bx:List (Nat×Box)):List (Nat×Box)→Prop
 |nil:WkB bx []
 |cons {id:Nat} {b:Box} {b0:Box} {r:List (Nat×Box)} (h:bx.lookup id=some b0) (ht:b0.ty=b.ty) (hs:Subs b0.cs b.cs) (t:WkB bx r):WkB bx ((id,b)::r)
inductive WkT (tk:List (Nat×Tok)):List (Nat×Tok)→Prop
 |nil:WkT tk []
 |cons {id:Nat} {t:Tok} {r:List (Nat×Tok)} (h:tk.lookup id=some t) (l:WkT tk r):WkT tk ((id,t)::r)
theorem WkF.get{fr fr':List (Nat×AV)}(h:WkF fr fr'): ∀(s:Nat) (v:AV),fr'.lookup s=some v→ ∃v0,fr.lookup s=some v0∧Sub v0 v:=by
 induction h with
 |nil=>intro s v h;simp at h
 | @cons s0 v1 v0 r h hs _ ih=>
   intro s v hl
   by_cases e:s=s0
   · subst e;simp[List.lookup] at hl;subst hl;exact⟨v0,h,hs⟩
   · have e':(s==s0)=false:=by simpa using e
     exact ih s v (by simpa[List.lookup,e'] using hl)
theorem WkB.get{bx bx':List (Nat×Box)}(h:WkB bx bx'): ∀(s:Nat) (v:Box),bx'.lookup s=some v→ ∃v0,bx.lookup s=some v0∧v0.ty=v.ty∧Subs v0.cs v.cs:=by
 induction h with
 |nil=>intro s v h;simp at h
 | @cons s0 v1 v0 r h ht hs _ ih=>
   intro s v hl
   by_cases e:s=s0
   · subst e;simp[List.lookup] at hl;subst hl;exact⟨v0,h,ht,hs⟩
   · have e':(s==s0)=false:=by simpa using e
     exact ih s v (by simpa[List.lookup,e'] using hl)
theorem WkT.get{tk tk':List (Nat×Tok)}(h:WkT tk tk'): ∀(s:Nat) (v:Tok),tk'.lookup s=some v→tk.lookup s=some v:=by
 induction h with
 |nil=>intro s v h;simp at h
 | @cons s0 v1 r h _ ih=>
   intro s v hl
   by_cases e:s=s0
   · subst e;simp[List.lookup] at hl;subst hl;exact h
   · have e':(s==s0)=false:=by simpa using e
     exact ih s v (by simpa[List.lookup,e'] using hl)
theorem Wk.mk'{c:Ctx}{st:St}{fr:List (Nat×AV)}{bx:List (Nat×Box)}{tk:List (Nat×Tok)}(h0: ∀id∈c.ins,(bx.lookup id).isSome=true)(h1:WkF st.fr fr)(h2:WkB st.bx bx)(h3:WkT st.tk tk):Wk c st ⟨fr,bx,tk⟩:=
 ⟨h0,h1.get,h2.get,h3.get⟩
def St.keep(l:List Nat)(st:St):St:={st with fr:=st.fr.filter (fun p=>l.contains p.1)}
theorem lookup_filter_key{β:Type}(p:Nat→Bool): ∀(l:List (Nat×β)) (s:Nat) (v:β),(l.filter (fun q=>p q.1)).lookup s=some v→l.lookup s=some v
 | [],s,v,h=>by simp at h
 |(t,u)::l,s,v,h=>by
  by_cases e:s=t
  · subst e
    by_cases hp:p s=true
    · simpa[List.filter_cons,hp,List.lookup] using h
    · simp only[Bool.not_eq_true] at hp
      exfalso
      have:(List.filter (fun q=>p q.1) ((s,u)::l))=List.filter (fun q=>p q.1) l:=by simp[hp]
      rw[this] at h
      have hmem: ∀(m:List (Nat×β)),(m.filter (fun q=>p q.1)).lookup s=some v→p s=true:=by
       intro m
       induction m with
       |nil=>intro h;simp at h
       |cons x m ih=>
        intro h
        by_cases hx:p x.1=true
        · by_cases e:s=x.1
          · rw[e];exact hx
          · have e':(s==x.1)=false:=by simpa using e
            obtain⟨x1,x2⟩:=x
            simp only at hx e'
            exact ih (by simpa[List.filter_cons,hx,List.lookup,e'] using h)
        · simp only[Bool.not_eq_true] at hx
          exact ih (by simpa[List.filter_cons,hx] using h)
      rw[hmem l h] at hp;cases hp
  · have e':(s==t)=false:=by simpa using e
    by_cases hp:p t=true
    · simp only[List.filter_cons,hp,if_true,List.lookup,e'] at h⊢
      exact lookup_filter_key p l s v h
    · simp only[Bool.not_eq_true] at hp
      simp only[List.filter_cons,hp,List.lookup,e'] at h⊢
      exact lookup_filter_key p l s v (by simpa using h)
theorem R.keep(l:List Nat){c:Ctx}{st:St}{a:Act}{w:World}(h:R c st a w):R c (st.keep l) a w:=by
 obtain⟨E,hi⟩:=h
 exact⟨E,hi.defers,hi.size,fun s v hv=>hi.slot s v (lookup_filter_key (fun n=>l.contains n) st.fr s v hv),hi.heap⟩
theorem L.keep(l:List Nat){c:Ctx}{st:St}{X:Act→World→Prop}(h:L c (st.keep l) X):L c st X:=fun a w hr=>h a w (hr.keep l)
end Go.Abs
namespace Go.Abs
variable [Dr]
set_option linter.unusedSectionVars false
open Go.RowKit (Below)
set_option linter.unusedVariables false
abbrev vS(l:List UInt8):Value:= .string ⟨l.toArray⟩
abbrev S(l:List UInt8):IV:= .im (.string ⟨l.toArray⟩)
abbrev I(n:Int):IV:= .im (.int .i64 n)
abbrev B(b:Bool):IV:= .im (.bool b)
abbrev aS(l:List UInt8):AV:= .iv (.im (.string ⟨l.toArray⟩))
abbrev aI(n:Int):AV:= .iv (.im (.int .i64 n))
abbrev aB(b:Bool):AV:= .iv (.im (.bool b))
def constCell:Value→AV
 | .slice none 0 0=> .nils
 |v=> .iv (.im v)
def constAV:Value→AV
 | .slice none 0 0=> .nils
 | .agg cs=>if cs.toList.all (·.oneCell') then .agg (cs.toList.map constCell) else .any
 | .tuple _=> .any
 |v=> .iv (.im v)
theorem constCell_rep(E:Env)(w:World)(v:Value)(h:v.oneCell'=true):RepA E w (constCell v) v:=by
 unfold constCell;split
 · exact .nils
 · exact .iv (.im h)
theorem constAV_rep(E:Env)(w:World)(v:Value):RepA E w (constAV v) v:=by
 unfold constAV;split
 · exact .nils
 · rename_i cs
   split
   · rename_i hall
     have:(Value.agg cs)= .agg cs.toList.toArray:=by simp
     rw[this]
     refine .agg (by simp) (fun u hu=>by simpa using List.all_eq_true.1 hall u hu) (fun i c u hc hu=> ?_)
     simp only[List.getElem?_map] at hc
     rw[hu] at hc
     simp at hc;subst hc
     exact constCell_rep E w u (List.all_eq_true.1 hall u (List.mem_of_getElem? hu))
   · exact .any
 · exact .any
 · rename_i h1 h2 h3
   exact .iv (.im (by cases v<;>first|rfl|(exact(h2 _ rfl).elim)|(exact(h3 _ rfl).elim)))
def AV.strip:AV→AV
 | .opt true v=>v.strip
 |v=>v
theorem RepA.strip{E:Env}{w:World}: ∀{v:AV} {u:Value},RepA E w v u→RepA E w v.strip u
 | .opt true v,u,h=>by cases h with|optT h=>exact RepA.strip (v:=v) h
 | .opt false v,u,h=>h
 | .any,u,h=>h
 | .iv _,u,h=>h
 | .nils,u,h=>h
 | .emp,u,h=>h
 | .row _ _,u,h=>h
 | .ptr _ _,u,h=>h
 | .bsl _ _ _ _,u,h=>h
 | .bsh _ _ _ _,u,h=>h
 | .el _,u,h=>h
 | .agg _,u,h=>h
 | .tup _,u,h=>h
 | .fn _ _,u,h=>h
def St.ev(st:St):Operand→AV
 | .tmp t=>match st.fr.lookup t with
   |some v=>v.strip
   |none=> .any
 | .const v=>constAV v
 | .func f=> .fn f []
 | .global _=> .any
theorem Inv.ev{c:Ctx}{E:Env}{st:St}{a:Act}{w:World}(h:Inv c E st a w)(x:Operand):RepA E w (st.ev x) (a.eval x):=by
 cases x with
 |tmp t=>
  simp only[St.ev,Act.eval]
  split
  · rename_i v hv;exact(h.slot t v hv).strip
  · exact .any
 |const v=>exact constAV_rep E w v
 |global g=>exact .any
 |func f=>exact .fn (us:= []) rfl (fun i c u hc hu=>by simp at hc)
theorem Inv.put{c:Ctx}{E:Env}{st:St}{a:Act}{w:World}(h:Inv c E st a w){d:Nat}(hd:d<c.nt){v:AV}{u:Value}(hr:RepA E w v u):
 Inv c E ⟨(d,v)::st.fr,st.bx,st.tk⟩ (a.put (some d) u) w:=by
 refine⟨h.defers,by simpa[Act.put] using h.size,fun s v' hv=> ?_,h.heap⟩
 by_cases e:s=d
 · subst e
   simp[List.lookup] at hv;subst hv
   have:s<a.tmps.size:=by rw[h.size];exact hd
   simpa[Act.put,this] using hr
 · have e':(s==d)=false:=by simpa using e
   have:=h.slot s v' (by simpa[List.lookup,e'] using hv)
   have hne:d≠s:=fun x=>e x.symm
   simpa[Act.put,Array.getElem?_setIfInBounds_ne hne] using this
section
variable {P:Program}{c:Ctx}{st:St}{ops:Array Oper}{Q:Exit→Act→World→Prop}{rest:List Oper}{o:Oper}
def Yields(P:Program)(c:Ctx)(st:St)(o:Oper)(v:AV):Prop:=
 ∀(E:Env) (a:Act) (w:World),Inv c E st a w→ ∃u,(execOp a.eval o).run P w= .ok (.value u) w∧RepA E w v u
theorem Oper.wp_value{a:Act}{w w':World}{K:Act→World→Prop}{u:Value}(hr:(execOp a.eval o).run P w= .ok (.value u) w')(h:K (a.put o.dst u) w'):o.wp P a w K Q:=by
 unfold Oper.wp;rw[hr];exact h
theorem L.val{d:Nat}{v:AV}(hg:o.guard=none)(hd:o.dst=some d)(hlt:Nat.ble (d+1) c.nt=true)(hy:Yields P c st o v)
 (h:L c ⟨(d,v)::st.fr,st.bx,st.tk⟩ (wpList P ops Q rest)):L c st (wpList P ops Q (o::rest)):=by
 rintro a w ⟨E,hi⟩
 obtain⟨u,hr,hv⟩:=hy E a w hi
 refine wpList_plain hg (fun K hK=>Oper.wp_value hr (hK _ _ ?_))
 rw[hd]
 exact h _ _ ⟨E,hi.put (Nat.le_of_ble_eq_true hlt) hv⟩
theorem L.nil(h:L c st (Q .normal)):L c st (wpList P ops Q []):=h
theorem L.guardDo{dst:Option Tmp}{op:Op}{ty:TypeId}{pos:String}{after:Array Edge}{j s:Nat}{b:Bool}
 (hj:(ops[j]?).bind (·.dst)=some s) (hb:st.ev (.tmp s)=aB b)
 (h:L c st (wpList P ops Q (⟨dst,op,ty,pos,after,none⟩::rest))):L c st (wpList P ops Q (⟨dst,op,ty,pos,after,some (j,b)⟩::rest)):=by
 rintro a w hr
 have h':=h a w hr
 obtain⟨E,hi⟩:=hr
 have hv:=(hi.ev (.tmp s))
 rw[hb] at hv
 have hq:=hv.iv_im
 have hy:yielded ops a.tmps j=some b:=by
  simp only[yielded,hj,Option.bind_some]
  simp only[Act.eval,Array.getD_eq_getD_getElem?] at hq
  cases hx:a.tmps[s]? with
  |none=>rw[hx] at hq;simp[undef] at hq
  |some x=>rw[hx] at hq;simp at hq;subst hq;rfl
 unfold wpList at h'⊢
 simp only[Region.wanted,if_true,hy] at h'⊢
 rw[if_pos (by simp)]
 exact h'
theorem L.guardSkip{d:Nat}{op:Op}{ty:TypeId}{pos:String}{after:Array Edge}{j s:Nat}{b b':Bool}(hlt:Nat.ble (d+1) c.nt=true)
 (hj:(ops[j]?).bind (·.dst)=some s) (hb:st.ev (.tmp s)=aB b') (hne:b'≠b)
 (h:L c ⟨(d,.opt false .any)::st.fr,st.bx,st.tk⟩ (wpList P ops Q rest)):L c st (wpList P ops Q (⟨some d,op,ty,pos,after,some (j,b)⟩::rest)):=by
 rintro a w ⟨E,hi⟩
 have hv:=(hi.ev (.tmp s))
 rw[hb] at hv
 have hq:=hv.iv_im
 have hy:yielded ops a.tmps j=some b':=by
  simp only[yielded,hj,Option.bind_some]
  simp only[Act.eval,Array.getD_eq_getD_getElem?] at hq
  cases hx:a.tmps[s]? with
  |none=>rw[hx] at hq;simp[undef] at hq
  |some x=>rw[hx] at hq;simp at hq;subst hq;rfl
 unfold wpList
 simp only[Region.wanted,hy]
 rw[if_neg (by simpa using hne)]
 exact h _ _ ⟨E,hi.put (Nat.le_of_ble_eq_true hlt) .optF⟩
theorem L.guardSkipU{d:Nat}{op:Op}{ty:TypeId}{pos:String}{after:Array Edge}{j s:Nat}{b:Bool}(hlt:Nat.ble (d+1) c.nt=true)
 (hj:(ops[j]?).bind (·.dst)=some s) (hb:st.ev (.tmp s)= .opt false .any)
 (h:L c ⟨(d,.opt false .any)::st.fr,st.bx,st.tk⟩ (wpList P ops Q rest)):L c st (wpList P ops Q (⟨some d,op,ty,pos,after,some (j,b)⟩::rest)):=by
 rintro a w ⟨E,hi⟩
 have hv:=(hi.ev (.tmp s))
 rw[hb] at hv
 have hq:a.eval (.tmp s)=undef:=by generalize a.eval (.tmp s)=u at hv;cases hv;rfl
 have hy:yielded ops a.tmps j=none:=by
  simp only[yielded,hj,Option.bind_some]
  simp only[Act.eval,Array.getD_eq_getD_getElem?] at hq
  cases hx:a.tmps[s]? with
  |none=>rfl
  |some x=>rw[hx] at hq;simp at hq;subst hq;rfl
 unfold wpList
 simp only[Region.wanted,hy]
 rw[if_neg (by simp)]
 exact h _ _ ⟨E,hi.put (Nat.le_of_ble_eq_true hlt) .optF⟩
theorem Yields.of_eval{x:Operand}(h: ∀a:Act,(execOp a.eval o)=pure (.value (a.eval x))):Yields P c st o (st.ev x):=
 fun E a w hi=>⟨_,by rw[h a];rfl,hi.ev x⟩
theorem Yields.move{x:Operand}(ho:o.op= .move x):Yields P c st o (st.ev x):= .of_eval fun a=>by simp[execOp,ho]
theorem Yields.assign{x:Operand}(ho:o.op= .assign x):Yields P c st o (st.ev x):= .of_eval fun a=>by simp[execOp,ho]
theorem Yields.mv{x:Operand}{v:AV}(ho:o.op= .move x∨o.op= .assign x)(hx:st.ev x=v):Yields P c st o v:=by
 subst hx
 rcases ho with ho|ho
 · exact .move ho
 · exact .assign ho
theorem Yields.sub{v v':AV}(h:Yields P c st o v)(hs:Sub v v'):Yields P c st o v':=fun E a w hi=>by
 obtain⟨u,h1,h2⟩:=h E a w hi;exact⟨u,h1,hs _ _ _ h2⟩
theorem Yields.pickT{x y z:Operand}(ho:o.op= .pick x y z)(hx:st.ev x=aB true):Yields P c st o (st.ev y):=fun E a w hi=>by
 have h:=hi.ev x;rw[hx] at h
 exact⟨_,by simp[execOp,ho,h.iv_im,asBool],hi.ev y⟩
theorem Yields.pickF{x y z:Operand}(ho:o.op= .pick x y z)(hx:st.ev x=aB false):Yields P c st o (st.ev z):=fun E a w hi=>by
 have h:=hi.ev x;rw[hx] at h
 exact⟨_,by simp[execOp,ho,h.iv_im,asBool],hi.ev z⟩
theorem Yields.im{u:Value}(h1:u.oneCell'=true)(h: ∀(E:Env) (a:Act) (w:World),Inv c E st a w→(execOp a.eval o).run P w= .ok (.value u) w):Yields P c st o (.iv (.im u)):=
 fun E a w hi=>⟨u,h E a w hi,.iv (.im h1)⟩
theorem Inv.im{E:Env}{a:Act}{w:World}(hi:Inv c E st a w){x:Operand}{u:Value}(hx:st.ev x= .iv (.im u)):a.eval x=u:=by
 have h:=hi.ev x;rw[hx] at h;exact h.iv_im
theorem Yields.addI{x y:Operand}{t t':TypeId}{m n:Int}(ho:o.op= .binOp .add t x y t')(hx:st.ev x=aI m)(hy:st.ev y=aI n)
 (hlo: -9223372036854775808≤m+n) (hhi:m+n≤9223372036854775807):Yields P c st o (aI (m+n)):=
 .im rfl fun E a w hi=>by
   have:IntKind.i64.wrap (m+n)=m+n:=IntWalk.i64_in _ ⟨hlo,hhi⟩
   simp[execOp,ho,hi.im hx,hi.im hy,eqGuard,binOp,Op.intArith,this]
theorem Yields.subI{x y:Operand}{t t':TypeId}{m n:Int}(ho:o.op= .binOp .sub t x y t')(hx:st.ev x=aI m)(hy:st.ev y=aI n)
 (hlo: -9223372036854775808≤m - n) (hhi:m - n≤9223372036854775807):Yields P c st o (aI (m - n)):=
 .im rfl fun E a w hi=>by
   have:IntKind.i64.wrap (m - n)=m - n:=IntWalk.i64_in _ ⟨hlo,hhi⟩
   simp[execOp,ho,hi.im hx,hi.im hy,eqGuard,binOp,Op.intArith,this]
theorem Yields.mulI{x y:Operand}{t t':TypeId}{m n:Int}(ho:o.op= .binOp .mul t x y t')(hx:st.ev x=aI m)(hy:st.ev y=aI n)
 (hlo: -9223372036854775808≤m*n) (hhi:m*n≤9223372036854775807):Yields P c st o (aI (m*n)):=
 .im rfl fun E a w hi=>by
   have:IntKind.i64.wrap (m*n)=m*n:=IntWalk.i64_in _ ⟨hlo,hhi⟩
   simp[execOp,ho,hi.im hx,hi.im hy,eqGuard,binOp,Op.intArith,this]
theorem Yields.eqlI{x y:Operand}{t t':TypeId}{k:IntKind}{m n:Int}(ho:o.op= .binOp .eql t x y t')(hx:st.ev x= .iv (.im (.int k m)))(hy:st.ev y= .iv (.im (.int k n))):Yields P c st o (aB (m==n)):=
 .im rfl fun E a w hi=>by simp[execOp,ho,hi.im hx,hi.im hy,eqGuard,binOp,Op.intCmp]
theorem Yields.neqI{x y:Operand}{t t':TypeId}{k:IntKind}{m n:Int}(ho:o.op= .binOp .neq t x y t')(hx:st.ev x= .iv (.im (.int k m)))(hy:st.ev y= .iv (.im (.int k n))):Yields P c st o (aB (m !=n)):=
 .im rfl fun E a w hi=>by simp[execOp,ho,hi.im hx,hi.im hy,eqGuard,binOp,Op.intCmp]
theorem Yields.lssI{x y:Operand}{t t':TypeId}{k:IntKind}{m n:Int}(ho:o.op= .binOp .lss t x y t')(hx:st.ev x= .iv (.im (.int k m)))(hy:st.ev y= .iv (.im (.int k n))):Yields P c st o (aB (decide (m<n))):=
 .im rfl fun E a w hi=>by simp[execOp,ho,hi.im hx,hi.im hy,eqGuard,binOp,Op.intCmp]
theorem Yields.leqI{x y:Operand}{t t':TypeId}{k:IntKind}{m n:Int}(ho:o.op= .binOp .leq t x y t')(hx:st.ev x= .iv (.im (.int k m)))(hy:st.ev y= .iv (.im (.int k n))):Yields P c st o (aB (decide (m≤n))):=
 .im rfl fun E a w hi=>by simp[execOp,ho,hi.im hx,hi.im hy,eqGuard,binOp,Op.intCmp]
theorem Yields.gtrI{x y:Operand}{t t':TypeId}{k:IntKind}{m n:Int}(ho:o.op= .binOp .gtr t x y t')(hx:st.ev x= .iv (.im (.int k m)))(hy:st.ev y= .iv (.im (.int k n))):Yields P c st o (aB (decide (n<m))):=
 .im rfl fun E a w hi=>by simp[execOp,ho,hi.im hx,hi.im hy,eqGuard,binOp,Op.intCmp]
theorem Yields.geqI{x y:Operand}{t t':TypeId}{k:IntKind}{m n:Int}(ho:o.op= .binOp .geq t x y t')(hx:st.ev x= .iv (.im (.int k m)))(hy:st.ev y= .iv (.im (.int k n))):Yields P c st o (aB (decide (n≤m))):=
 .im rfl fun E a w hi=>by simp[execOp,ho,hi.im hx,hi.im hy,eqGuard,binOp,Op.intCmp]
theorem Yields.arith{x y:Operand}{t t':TypeId}{op:BinOp}{k:IntKind}{m n r:Int}(ho:o.op= .binOp op t x y t')(hx:st.ev x= .iv (.im (.int k m)))(hy:st.ev y= .iv (.im (.int k n)))
 (hr: ∀w,(binOp op t (.int k m) (.int k n)).run P w= .ok (.int k r) w) (hq: ∀w,(eqGuard op t x y (.int k m) (.int k n)).run P w= .ok () w):Yields P c st o (.iv (.im (.int k r))):=
 .im rfl fun E a w hi=>by simp[execOp,ho,hi.im hx,hi.im hy,hr,hq]
theorem Yields.conv{x:Operand}{s t:TypeId}{k k':IntKind}{m:Int}(ho:o.op= .convert s t x)(hx:st.ev x= .iv (.im (.int k m)))
 (ht:P.underlying t=some (.int k')) (hs:(P.underlying s).isSome=true):Yields P c st o (.iv (.im (.int k' (k'.wrap m)))):=
 .im rfl fun E a w hi=>by
   obtain⟨d,hd⟩:=Option.isSome_iff_exists.1 hs
   simp[execOp,ho,hi.im hx,convert,run_underlying hd,run_underlying ht,Conv.intToInt]
theorem Yields.not{x:Operand}{t:TypeId}{b:Bool}(ho:o.op= .unOp .not t x)(hx:st.ev x=aB b):Yields P c st o (aB (!b)):=
 .im rfl fun E a w hi=>by simp[execOp,ho,hi.im hx,Op.unary]
theorem Yields.eqlB{x y:Operand}{t t':TypeId}{m n:Bool}(ho:o.op= .binOp .eql t x y t')(hx:st.ev x=aB m)(hy:st.ev y=aB n)(ht:P.underlying t=some .bool):Yields P c st o (aB (m==n)):=
 .im rfl fun E a w hi=>by simp[execOp,ho,hi.im hx,hi.im hy,eqGuard,run_eql_bool w t m n ht]
theorem Yields.neqB{x y:Operand}{t t':TypeId}{m n:Bool}(ho:o.op= .binOp .neq t x y t')(hx:st.ev x=aB m)(hy:st.ev y=aB n)(ht:P.underlying t=some .bool):Yields P c st o (aB (!(m==n))):=
 .im rfl fun E a w hi=>by simp[execOp,ho,hi.im hx,hi.im hy,eqGuard,run_neq_bool w t m n ht]
theorem Yields.negI{x:Operand}{t:TypeId}{m:Int}(ho:o.op= .unOp .neg t x)(hx:st.ev x=aI m)(hlo: -9223372036854775808≤0 - m)(hhi:0 - m≤9223372036854775807):Yields P c st o (aI (0 - m)):=
 .im rfl fun E a w hi=>by
   have:IntKind.i64.wrap (0 - m)=0 - m:=IntWalk.i64_in _ ⟨hlo,hhi⟩
   simp[execOp,ho,hi.im hx,Op.unary,Op.intArith] at this⊢
   exact this
abbrev aNil:AV:= .iv (.im (.pointer none))
theorem Yields.eqlPN{x y:Operand}{t t':TypeId}(ho:o.op= .binOp .eql t x y t')(hx:st.ev x=aNil)(hy:st.ev y=aNil)(ht:P.underlying t=some (.pointer (P.pointee t))):Yields P c st o (aB true):=
 .im rfl fun E a w hi=>by simp[execOp,ho,hi.im hx,hi.im hy,eqGuard,run_eql_pointer_nil w t none ht]
theorem Yields.neqPN{x y:Operand}{t t':TypeId}(ho:o.op= .binOp .neq t x y t')(hx:st.ev x=aNil)(hy:st.ev y=aNil)(ht:P.underlying t=some (.pointer (P.pointee t))):Yields P c st o (aB false):=
 .im rfl fun E a w hi=>by simp[execOp,ho,hi.im hx,hi.im hy,eqGuard,run_neq_pointer_nil w t none ht]
theorem Yields.eqlPP{x y:Operand}{t t':TypeId}{id off:Nat}(ho:o.op= .binOp .eql t x y t')(hx:st.ev x= .ptr id off)(hy:st.ev y=aNil)(ht:P.underlying t=some (.pointer (P.pointee t))):Yields P c st o (aB false):=
 .im rfl fun E a w hi=>by
   have h:=hi.ev x;rw[hx] at h
   simp[execOp,ho,h.ptr_inv,hi.im hy,eqGuard,run_eql_pointer_nil w t _ ht]
theorem Yields.neqPP{x y:Operand}{t t':TypeId}{id off:Nat}(ho:o.op= .binOp .neq t x y t')(hx:st.ev x= .ptr id off)(hy:st.ev y=aNil)(ht:P.underlying t=some (.pointer (P.pointee t))):Yields P c st o (aB true):=
 .im rfl fun E a w hi=>by
   have h:=hi.ev x;rw[hx] at h
   simp[execOp,ho,h.ptr_inv,hi.im hy,eqGuard,run_neq_pointer_nil w t _ ht]
theorem Yields.eqlS{x y:Operand}{t t':TypeId}{m n:List UInt8}(ho:o.op= .binOp .eql t x y t')(hx:st.ev x=aS m)(hy:st.ev y=aS n):Yields P c st o (aB (m==n)):=
 .im rfl fun E a w hi=>by simp[execOp,ho,hi.im hx,hi.im hy,eqGuard,binOp,Op.stringOp]
theorem Yields.neqS{x y:Operand}{t t':TypeId}{m n:List UInt8}(ho:o.op= .binOp .neq t x y t')(hx:st.ev x=aS m)(hy:st.ev y=aS n):Yields P c st o (aB (!(m==n))):=
 .im rfl fun E a w hi=>by simp[execOp,ho,hi.im hx,hi.im hy,eqGuard,binOp,Op.stringOp]
theorem Yields.lssS{x y:Operand}{t t':TypeId}{m n:List UInt8}(ho:o.op= .binOp .lss t x y t')(hx:st.ev x=aS m)(hy:st.ev y=aS n):Yields P c st o (aB (Op.bytesLess m n)):=
 .im rfl fun E a w hi=>by simp[execOp,ho,hi.im hx,hi.im hy,eqGuard,binOp,Op.stringOp]
theorem Yields.leqS{x y:Operand}{t t':TypeId}{m n:List UInt8}(ho:o.op= .binOp .leq t x y t')(hx:st.ev x=aS m)(hy:st.ev y=aS n):Yields P c st o (aB (Op.bytesLess m n||m==n)):=
 .im rfl fun E a w hi=>by simp[execOp,ho,hi.im hx,hi.im hy,eqGuard,binOp,Op.stringOp]
theorem Yields.gtrS{x y:Operand}{t t':TypeId}{m n:List UInt8}(ho:o.op= .binOp .gtr t x y t')(hx:st.ev x=aS m)(hy:st.ev y=aS n):Yields P c st o (aB (!(Op.bytesLess m n||m==n))):=
 .im rfl fun E a w hi=>by simp[execOp,ho,hi.im hx,hi.im hy,eqGuard,binOp,Op.stringOp]
theorem Yields.geqS{x y:Operand}{t t':TypeId}{m n:List UInt8}(ho:o.op= .binOp .geq t x y t')(hx:st.ev x=aS m)(hy:st.ev y=aS n):Yields P c st o (aB (!(Op.bytesLess m n))):=
 .im rfl fun E a w hi=>by simp[execOp,ho,hi.im hx,hi.im hy,eqGuard,binOp,Op.stringOp]
theorem Yields.addS{x y:Operand}{t t':TypeId}{m n:List UInt8}(ho:o.op= .binOp .add t x y t')(hx:st.ev x=aS m)(hy:st.ev y=aS n)(hl:m.length+n.length≤9223372036854775807):Yields P c st o (aS (m++n)):=
 .im rfl fun E a w hi=>by
   have h1: ¬(((m.length+n.length:Nat):Int)>IntKind.i64.max):=by simp[IntKind.max,IntKind.signed,IntKind.bits];omega
   have h2:((ByteArray.mk m.toArray)++(ByteArray.mk n.toArray))=ByteArray.mk (m++n).toArray:=by
    apply ByteArray.ext;simp
   simp only[execOp,ho,hi.im hx,hi.im hy,eqGuard,binOp,Op.stringOp,ByteArray.size,List.size_toArray,h1,if_false,h2]
   simp
theorem Yields.lenS{x:Operand}{t:TypeId}{m:List UInt8}(ho:o.op= .call {callee:= .builtin .len,args:= #[x],argTypes:= #[t]})(hx:st.ev x=aS m)
 (ht:P.underlying t=some .string):Yields P c st o (aI m.length):=
 .im rfl fun E a w hi=>by simp[execOp,ho,resolve,invoke,builtin,hi.im hx,run_len_string w t _ _ ht,goInt,ByteArray.size]
theorem Yields.indexS{x i:Operand}{t:TypeId}{m:List UInt8}{k:IntKind}{n:Int}{b:UInt8}(ho:o.op= .index t x i)(hx:st.ev x=aS m)(hi':st.ev i= .iv (.im (.int k n)))
 (ht:P.underlying t=some .string) (h0:0≤n) (hb:m[n.toNat]?=some b):Yields P c st o (.iv (.im (.int .u8 b.toNat))):=
 .im rfl fun E a w hi=>by
   have:(ByteArray.mk m.toArray)[n.toNat]?=some b:=by
    have hlt:=(List.getElem?_eq_some_iff.1 hb).1
    rw[ByteArray.getElem?_lt' _ _ (by simpa[ByteArray.size] using hlt)]
    rw[←hb]
    simp[hlt]
    rfl
   simp[execOp,ho,hi.im hx,hi.im hi',Instr.index,asIntOf,run_underlying ht,h0,this]
end
end Go.Abs
