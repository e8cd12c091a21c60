/- Several texts in one, each with its own sentence ahead of it. Conditions: each one says its own. -/
import Derived.Test.YthcjohcakdnmmaaGreatDoorZS11
set_option linter.all false
namespace Go.Abs
variable [Dr]
set_option linter.unusedSectionVars false
set_option linter.unusedVariables false
set_option linter.unusedSimpArgs false
structure Eff where
 val:Option (Nat×AV)
 nb:List (Nat×Box)
 nt:List (Nat×Tok)
 dt:List Nat
 tb:List Nat
 tt:List Nat
 fs:List Nat
def delT:List Nat→List (Nat×Tok)→List (Nat×Tok)
 | [],tk=>tk
 |id::l,tk=>delT l (delTok id tk)
def Eff.on(e:Eff)(st:St):St:=⟨e.val.toList++st.fr,e.nb++st.bx,e.nt++delT e.dt st.tk⟩
def Eff.writes(e:Eff):List Nat:=e.val.toList.map (fun p=>3*p.1)++(e.nb.map (fun p=>3*p.1+1)++(e.nt.map (fun p=>3*p.1+2)++e.dt.map (fun n=>3*n+2)))
def slotsOf(o:Oper)(ops:Array Oper):List Nat:=
 (o.op.operands.toList.filterMap fun| .tmp t=>some (3*t)|_=>none)++(match o.guard with|some (j,_)=>((ops[j]?).bind (·.dst)).toList.map (3* ·)|none=> [])
def Eff.reads(e:Eff):List Nat:=e.tb.map (3* · +1)++e.tt.map (3* · +2)
def St.look(st:St)(κ:Nat):Option (AV ⊕ Box ⊕ Tok):=
 if κ % 3=0 then(st.fr.lookup (κ / 3)).map .inl else if κ % 3=1 then(st.bx.lookup (κ / 3)).map (.inr∘ .inl) else(st.tk.lookup (κ / 3)).map (.inr∘ .inr)
theorem St.look0(st:St)(s:Nat):st.look (3*s)=(st.fr.lookup s).map .inl:=by
 simp[St.look,Nat.mul_div_cancel_left]
theorem St.look1(st:St)(s:Nat):st.look (3*s+1)=(st.bx.lookup s).map (.inr∘ .inl):=by
 have h1:(3*s+1) % 3=1:=by omega
 have h2:(3*s+1) / 3=s:=by omega
 simp[St.look,h1,h2]
theorem St.look2(st:St)(s:Nat):st.look (3*s+2)=(st.tk.lookup s).map (.inr∘ .inr):=by
 have h1:(3*s+2) % 3=2:=by omega
 have h2:(3*s+2) / 3=s:=by omega
 simp[St.look,h1,h2]
theorem lookup_none_of{β:Type}: ∀{l:List (Nat×β)} {s:Nat},s∉l.map (·.1)→l.lookup s=none
 | [],s,h=>rfl
 |(t,u)::l,s,h=>by
  simp only[List.map_cons,List.mem_cons,not_or] at h
  rw[lookup_cons_ne h.1];exact lookup_none_of h.2
theorem lookup_some_of{β:Type}: ∀{l:List (Nat×β)} {s:Nat},s∈l.map (·.1)→ ∃v,l.lookup s=some v
 | [],s,h=>by simp at h
 |(t,u)::l,s,h=>by
  by_cases e:s=t
  · exact⟨u,by rw[e];exact lookup_cons_eq⟩
  · rw[lookup_cons_ne e];exact lookup_some_of (by simp only[List.map_cons,List.mem_cons] at h;exact h.resolve_left e)
theorem delTok_look(id:Nat): ∀(tk:List (Nat×Tok)) (s:Nat),(delTok id tk).lookup s=if s=id then none else tk.lookup s
 | [],s=>by simp[delTok]
 |(t,u)::tk,s=>by
  have ih:=delTok_look id tk s
  unfold delTok at ih⊢
  by_cases e:t=id
  · subst e
    simp only[List.filter_cons,bne_self_eq_false,Bool.false_eq_true,if_false]
    rw[ih]
    by_cases h:s=t
    · simp[h]
    · rw[lookup_cons_ne h]
  · have hb:(t !=id)=true:=by simpa[bne] using e
    simp only[List.filter_cons,hb,if_true]
    by_cases h:s=t
    · subst h;rw[lookup_cons_eq,lookup_cons_eq,if_neg e]
    · rw[lookup_cons_ne h,lookup_cons_ne h,ih]
theorem delT_look: ∀(l:List Nat) (tk:List (Nat×Tok)) (s:Nat),(delT l tk).lookup s=if l.contains s then none else tk.lookup s
 | [],tk,s=>by simp[delT]
 |id::l,tk,s=>by
  rw[delT,delT_look l,delTok_look]
  by_cases h:s=id
  · subst h;simp
  · simp[h]
theorem delT_mem: ∀(l:List Nat) (tk:List (Nat×Tok)) {p:Nat×Tok},p∈delT l tk→p∈tk
 | [],tk,p,h=>h
 |id::l,tk,p,h=>by
  have:=delT_mem l _ h
  unfold delTok at this
  exact(List.mem_filter.1 this).1
theorem Eff.on_look_ne{e:Eff}{st:St}{κ:Nat}(h:κ∉e.writes):(e.on st).look κ=st.look κ:=by
 simp only[Eff.writes,List.mem_append,List.mem_map,not_or,not_exists,not_and] at h
 obtain⟨h0,h1,h2,h3⟩:=h
 rcases(by omega:κ=3*(κ / 3)∨κ=3*(κ / 3)+1∨κ=3*(κ / 3)+2) with hk|hk|hk
 · rw[hk,St.look0,St.look0]
   simp only[Eff.on,List.lookup_append]
   rw[lookup_none_of (l:=e.val.toList) (fun hm=>by
    simp only[List.mem_map] at hm
    obtain⟨p,hp,he⟩:=hm
    exact h0 p hp (by omega))]
   simp
 · rw[hk,St.look1,St.look1]
   simp only[Eff.on,List.lookup_append]
   rw[lookup_none_of (l:=e.nb) (fun hm=>by
    simp only[List.mem_map] at hm
    obtain⟨p,hp,he⟩:=hm
    exact h1 p hp (by omega))]
   simp
 · rw[hk,St.look2,St.look2]
   simp only[Eff.on,List.lookup_append]
   rw[lookup_none_of (l:=e.nt) (fun hm=>by
    simp only[List.mem_map] at hm
    obtain⟨p,hp,he⟩:=hm
    exact h2 p hp (by omega)),delT_look,if_neg (fun hm=>h3 (κ / 3) (by simpa using hm) (by omega))]
   simp
theorem Eff.on_look_eq{e:Eff}{st st':St}{κ:Nat}(h:κ∈e.writes∨st'.look κ=st.look κ):(e.on st').look κ=(e.on st).look κ:=by
 by_cases hw:κ∈e.writes
 · clear h
   simp only[Eff.writes,List.mem_append,List.mem_map] at hw
   rcases(by omega:κ=3*(κ / 3)∨κ=3*(κ / 3)+1∨κ=3*(κ / 3)+2) with hk|hk|hk
   · rw[hk,St.look0,St.look0]
     simp only[Eff.on,List.lookup_append]
     have:κ / 3∈e.val.toList.map (·.1):=by
      rcases hw with⟨p,hp,he⟩|⟨p,hp,he⟩|⟨p,hp,he⟩|⟨p,hp,he⟩
      · exact List.mem_map.2 ⟨p,hp,by omega⟩
      all_goals omega
     obtain⟨v,hv⟩:=lookup_some_of this
     rw[hv];simp
   · rw[hk,St.look1,St.look1]
     simp only[Eff.on,List.lookup_append]
     have:κ / 3∈e.nb.map (·.1):=by
      rcases hw with⟨p,hp,he⟩|⟨p,hp,he⟩|⟨p,hp,he⟩|⟨p,hp,he⟩
      · omega
      · exact List.mem_map.2 ⟨p,hp,by omega⟩
      all_goals omega
     obtain⟨v,hv⟩:=lookup_some_of this
     rw[hv];simp
   · rw[hk,St.look2,St.look2]
     simp only[Eff.on,List.lookup_append,delT_look]
     by_cases hn:κ / 3∈e.nt.map (·.1)
     · obtain⟨v,hv⟩:=lookup_some_of hn
       rw[hv];simp
     · have:e.dt.contains (κ / 3)=true:=by
        rcases hw with⟨p,hp,he⟩|⟨p,hp,he⟩|⟨p,hp,he⟩|⟨p,hp,he⟩
        · omega
        · omega
        · exact(hn (List.mem_map.2 ⟨p,hp,by omega⟩)).elim
        · have:p=κ / 3:=by omega
          subst this;simpa using hp
       rw[this];simp
 · rw[Eff.on_look_ne hw,Eff.on_look_ne hw];exact h.resolve_left hw
theorem R.look{c:Ctx}{st st':St}{a:Act}{w:World}(h:R c st a w)(he: ∀κ,st'.look κ=st.look κ):R c st' a w:=by
 have h0: ∀s,st'.fr.lookup s=st.fr.lookup s:=fun s=>by
  have:=he (3*s);rw[St.look0,St.look0] at this
  exact Option.map_injective (fun _ _ h=>by injection h) this
 have h1: ∀s,st'.bx.lookup s=st.bx.lookup s:=fun s=>by
  have:=he (3*s+1);rw[St.look1,St.look1] at this
  exact Option.map_injective (fun _ _ h=>by simpa using h) this
 have h2: ∀s,st'.tk.lookup s=st.tk.lookup s:=fun s=>by
  have:=he (3*s+2);rw[St.look2,St.look2] at this
  exact Option.map_injective (fun _ _ h=>by simpa using h) this
 have hh:=h
 obtain⟨E,hi⟩:=hh
 refine h.wk ⟨fun id hid=>by rw[h1];exact(hi.heap.ins id hid).2.2,fun s v hv=>⟨v,by rw[←h0];exact hv,Sub.refl _⟩,fun id b hb=>⟨b,by rw[←h1];exact hb,rfl,Subs.refl _⟩,fun id t ht=>by rw[←h2];exact ht⟩
def onF:(Nat→Bool)→List Eff→St→St
 |_,[],st=>st
 |f,e::r,st=>onF (fun j=>f (j+1)) r (if f 0 then e.on st else st)
theorem onF_same{κ:Nat}: ∀(es:List Eff) (f g:Nat→Bool) (st st':St),(∀(i:Nat) (e:Eff),es[i]?=some e→f i=g i∨κ∉e.writes)→st.look κ=st'.look κ→(onF f es st).look κ=(onF g es st').look κ
 | [],_,_,_,_,_,h=>h
 |e::r,f,g,st,st',h,hs=>by
  simp only[onF]
  refine onF_same r _ _ _ _ (fun i e' he=>h (i+1) e' (by simpa using he)) ?_
  rcases h 0 e rfl with hb|hw
  · rw[hb]
    cases g 0
    · exact hs
    · exact Eff.on_look_eq (.inr hs)
  · have h1:(if f 0=true then e.on st else st).look κ=st.look κ:=by cases f 0;rfl;exact Eff.on_look_ne hw
    have h2:(if g 0=true then e.on st' else st').look κ=st'.look κ:=by cases g 0;rfl;exact Eff.on_look_ne hw
    rw[h1,h2,hs]
theorem onF_last{κ:Nat}: ∀(es:List Eff) (f:Nat→Bool) (st X:St) (i:Nat) (e:Eff),es[i]?=some e→f i=true→κ∈e.writes→(∀(j:Nat) (e':Eff),i<j→es[j]?=some e'→f j=true→κ∉e'.writes)→(onF f es st).look κ=(e.on X).look κ
 | [],_,_,_,_,_,h,_,_,_=>by simp at h
 |e0::r,f,st,X,0,e,h,hf,hw,hl=>by
  simp only[List.getElem?_cons_zero,Option.some.injEq] at h
  subst h
  simp only[onF,hf,if_true]
  have:=onF_same (κ:=κ) r (fun j=>f (j+1)) (fun _=>false) (e0.on st) (e0.on X) (fun j e' he=>by
   cases hb:f (j+1)
   · exact .inl rfl
   · exact .inr (hl (j+1) e' (by omega) (by simpa using he) hb)) (Eff.on_look_eq (.inl hw))
  rw[this]
  exact onF_none r _
 |e0::r,f,st,X,i+1,e,h,hf,hw,hl=>by
  simp only[onF]
  exact onF_last r _ _ X i e (by simpa using h) hf hw (fun j e' hj he hb=>hl (j+1) e' (by omega) (by simpa using he) hb)
 where onF_none {κ:Nat}: ∀(es:List Eff) (st:St),(onF (fun _=>false) es st).look κ=st.look κ
  | [],_=>rfl
  |e::r,st=>by simp only[onF];exact onF_none r st
theorem onF_false: ∀(es:List Eff) (st:St),onF (fun _=>false) es st=st
 | [],_=>rfl
 |e::r,st=>by simp only[onF];exact onF_false r st
def Eff.ment(n:Nat)(e:Eff):Bool:=e.val.toList.any (fun p=>AV.ment n p.2)||(e.nb.any (fun p=>p.1==n||p.2.ment n)||e.nt.any (fun p=>p.1==n))
theorem fresh_on{n:Nat}{e:Eff}{st:St}(h:st.fresh n=true)(he:e.ment n=false):(e.on st).fresh n=true:=by
 simp only[St.fresh,Bool.and_eq_true,List.all_eq_true] at h⊢
 simp only[Eff.ment,Bool.or_eq_false_iff,List.any_eq_false] at he
 obtain⟨⟨h1,h2⟩,h3⟩:=h
 obtain⟨e1,e2,e3⟩:=he
 refine⟨⟨fun p hp=> ?_,fun p hp=> ?_⟩,fun p hp=> ?_⟩
 · simp only[Eff.on,List.mem_append] at hp
   rcases hp with hp|hp
   · simpa using e1 p hp
   · exact h1 p hp
 · simp only[Eff.on,List.mem_append] at hp
   rcases hp with hp|hp
   · have:=e2 p hp
     simp only[Bool.or_eq_true,not_or,Bool.not_eq_true] at this
     simp[bne,this.1,this.2]
   · exact h2 p hp
 · simp only[Eff.on,List.mem_append] at hp
   rcases hp with hp|hp
   · have:=e3 p hp
     simp only[Bool.not_eq_true] at this
     simp[bne,this]
   · exact h3 p (delT_mem _ _ hp)
theorem fresh_onF{n:Nat}: ∀(es:List Eff) (f:Nat→Bool) (st:St),st.fresh n=true→(∀(i:Nat) (e:Eff),es[i]?=some e→f i=true→e.ment n=false)→(onF f es st).fresh n=true
 | [],_,_,h,_=>h
 |e::r,f,st,h,he=>by
  simp only[onF]
  refine fresh_onF r _ _ ?_ (fun i e' h1 h2=>he (i+1) e' (by simpa using h1) h2)
  cases hf:f 0
  · simpa using h
  · simpa using fresh_on h (he 0 e rfl hf)
def dirs(ops:Array Oper):List (List Nat):=ops.toList.map fun o=>(o.after.toList.filter (Region.binds .any)).map (·.on)
def masks:List (List Nat)→List Nat→List Nat
 | [],acc=>acc
 |d::r,acc=>masks r (acc++ [d.foldl (fun m j=>m|||(acc.getD j 0|||1<<<j)) 0])
theorem bits_foldl{S:Nat→Prop}(g:Nat→Nat)(hg: ∀j,S j→ ∀x,(g j).testBit x=true→S x): ∀(d:List Nat) (m:Nat),(∀j∈d,S j)→(∀x,m.testBit x=true→S x)→ ∀x,(d.foldl (fun m j=>m|||(g j|||1<<<j)) m).testBit x=true→S x
 | [],m,_,hm,x,h=>hm x h
 |j::d,m,hd,hm,x,h=>by
  refine bits_foldl g hg d _ (fun k hk=>hd k (List.mem_cons_of_mem _ hk)) (fun y hy=> ?_) x h
  simp only[Nat.testBit_or,Bool.or_eq_true] at hy
  rcases hy with hy|hy|hy
  · exact hm y hy
  · exact hg j (hd j List.mem_cons_self) y hy
  · have:y=j:=by
     rw[Nat.one_shiftLeft,Nat.testBit_two_pow] at hy
     simpa[eq_comm] using hy
    subst this;exact hd y List.mem_cons_self
theorem masks_closed{S:Nat→Prop}{ds:List (List Nat)}: ∀(r:List (List Nat)) (pre:List (List Nat)) (acc:List Nat),ds=pre++r→acc.length=pre.length→
 (∀(i:Nat) (d:List Nat),ds[i]?=some d→S i→ ∀j∈d,S j)→
 (∀i,(∀(d:List Nat),ds[i]?=some d→ ∀j∈d,S j)→ ∀x,(acc.getD i 0).testBit x=true→S x)→
 ∀i,(∀(d:List Nat),ds[i]?=some d→ ∀j∈d,S j)→ ∀x,((masks r acc).getD i 0).testBit x=true→S x
 | [],pre,acc,_,_,_,h=>h
 |d::r,pre,acc,hds,hl,hS,h=>by
  refine masks_closed r (pre++ [d]) _ (by simp[hds]) (by simp[hl]) hS (fun i hi x hx=> ?_)
  rcases Nat.lt_trichotomy i acc.length with hlt|heq|hgt
  · refine h i hi x ?_
    simpa[List.getD_eq_getElem?_getD,List.getElem?_append,hlt] using hx
  · have hdi:ds[i]?=some d:=by rw[hds,heq,hl];simp
    have hd:=hi d hdi
    have hx':((d.foldl (fun m j=>m|||(acc.getD j 0|||1<<<j)) 0)).testBit x=true:=by
     rw[heq] at hx
     simpa[List.getD_eq_getElem?_getD,List.getElem?_append] using hx
    exact bits_foldl (fun j=>acc.getD j 0) (fun j hj y hy=>h j (fun d' hd'=>hS j d' hd' hj) y hy) d 0 hd (fun y hy=>by simp at hy) x hx'
  · exfalso
    have: ¬i<acc.length:=by omega
    have h2:i - acc.length≠0:=by omega
    obtain⟨k,hk⟩: ∃k,i - acc.length=k+1:=⟨i - acc.length - 1,by omega⟩
    simp[List.getD_eq_getElem?_getD,List.getElem?_append,this,hk] at hx
def clash(l m:List Nat):Bool:=l.any fun x=>m.contains x
theorem clash_not{l m:List Nat}(h:clash l m=false){x:Nat}(hl:x∈l)(hm:x∈m):False:=by
 simp only[clash,List.any_eq_false] at h
 exact h x hl (by simpa using hm)
structure Row where
 ws:List Nat
 ls:List Nat
 ms:Nat
 e:Eff
def rowsOf(ops:Array Oper)(es:List Eff):List Row:=
 (((ops.toList.zip es).zip (masks (dirs ops) [])).map fun p=>⟨p.1.2.writes,slotsOf p.1.1 ops++(p.1.2.reads++p.1.2.writes),p.2,p.1.2⟩)
def pairOk(j:Nat)(x y:Row):Bool:=
 (y.ms.testBit j||(!(clash x.ws y.ls) && !(clash y.ws x.ls) && x.e.fs.all (fun n=> !(y.e.ment n)))) && y.e.fs.all (fun n=> !(x.e.ment n))
def ordGo:List Row→List (Nat×Row)→Bool
 | [],_=>true
 |y::r,acc=>acc.all (fun p=>pairOk p.1 p.2 y) && ordGo r ((acc.length,y)::acc)
def backOk:Nat→List (List Nat)→Bool
 |_,[] =>true
 |i,d::r=>d.all (fun j=>Nat.blt j i) && backOk (i+1) r
def ordOk(ops:Array Oper)(es:List Eff)(st0:St):Bool:=
 backOk 0 (dirs ops) && (ordGo (rowsOf ops es) [] && es.all (fun e=>e.fs.all (fun n=>st0.fresh n)))
theorem ordGo_get: ∀(r pre:List Row) (acc:List (Nat×Row)),acc.length=pre.length→(∀(j:Nat) (x:Row),pre[j]?=some x→(j,x)∈acc)→ordGo r acc=true→
 ∀(i j:Nat) (x y:Row),j<i→pre.length≤i→(pre++r)[j]?=some x→(pre++r)[i]?=some y→pairOk j x y=true
 | [],pre,acc,_,_,_,i,j,x,y,_,hi,_,hy=>by
   rw[List.append_nil] at hy
   have:=(List.getElem?_eq_some_iff.1 hy).1
   omega
 |z::r,pre,acc,hl,hacc,h,i,j,x,y,hji,hi,hx,hy=>by
  simp only[ordGo,Bool.and_eq_true,List.all_eq_true] at h
  by_cases he:i=pre.length
  · subst he
    have hyz:y=z:=by simpa using hy.symm
    subst hyz
    have hx':pre[j]?=some x:=by rw[List.getElem?_append_left hji] at hx;exact hx
    exact h.1 (j,x) (hacc j x hx')
  · refine ordGo_get r (pre++ [z]) _ (by simp[hl]) (fun k u hu=> ?_) h.2 i j x y hji (by simp;omega) (by simpa using hx) (by simpa using hy)
    by_cases hk:k<pre.length
    · rw[List.getElem?_append_left hk] at hu
      exact List.mem_cons_of_mem _ (hacc k u hu)
    · have:k=pre.length:=by
       have:=(List.getElem?_eq_some_iff.1 hu).1
       simp at this;omega
      subst this
      simp at hu;subst hu;rw[hl];exact List.mem_cons_self
theorem masks_length: ∀(r:List (List Nat)) (acc:List Nat),(masks r acc).length=acc.length+r.length
 | [],acc=>rfl
 |d::r,acc=>by rw[masks,masks_length r];simp;omega
theorem backOk_get: ∀(ds:List (List Nat)) (k:Nat),backOk k ds=true→ ∀(i:Nat) (d:List Nat),ds[i]?=some d→ ∀j∈d,j<k+i
 | [],k,_,i,d,h,_,_=>by simp at h
 |d0::r,k,h,i,d,hd,j,hj=>by
  simp only[backOk,Bool.and_eq_true,List.all_eq_true] at h
  cases i with
  |zero=>simp at hd;subst hd;exact Nat.le_of_ble_eq_true (h.1 j hj)
  |succ i=>have:=backOk_get r (k+1) h.2 i d (by simpa using hd) j hj;omega
structure Agr (ops:Array Oper) (o:Oper) (e:Eff) (st st':St):Prop where
 ev: ∀x∈o.op.operands,st'.ev x=st.ev x
 gd: ∀(j s:Nat) (b:Bool),o.guard=some (j,b)→(ops[j]?).bind (·.dst)=some s→st'.ev (.tmp s)=st.ev (.tmp s)
 bx: ∀id∈e.tb,st'.bx.lookup id=st.bx.lookup id
 tk: ∀id∈e.tt,st'.tk.lookup id=st.tk.lookup id
 fs: ∀n∈e.fs,st'.fresh n=true
theorem ev_look{st st':St}{t:Nat}(h:st'.look (3*t)=st.look (3*t)):st'.ev (.tmp t)=st.ev (.tmp t):=by
 rw[St.look0,St.look0] at h
 have h':st'.fr.lookup t=st.fr.lookup t:=Option.map_injective (fun _ _ h=>by injection h) h
 simp only[St.ev,h']
theorem Agr.of_look{ops:Array Oper}{o:Oper}{e:Eff}{st st':St}(h: ∀κ∈slotsOf o ops++e.reads,st'.look κ=st.look κ)(hf: ∀n∈e.fs,st'.fresh n=true):Agr ops o e st st' where
 ev x hx:=by
  cases x with
  |tmp t=>
   refine ev_look (h _ (List.mem_append_left _ (List.mem_append_left _ ?_)))
   exact List.mem_filterMap.2 ⟨.tmp t,by simpa using hx,rfl⟩
  |const v=>rfl
  |func f=>rfl
  |global g=>rfl
 gd j s b hg hj:=by
  refine ev_look (h _ (List.mem_append_left _ (List.mem_append_right _ ?_)))
  simp[hg,hj]
 bx id hid:=by
  have:=h (3*id+1) (List.mem_append_right _ (List.mem_append_left _ (List.mem_map.2 ⟨id,hid,rfl⟩)))
  rw[St.look1,St.look1] at this
  exact Option.map_injective (fun _ _ h=>by simpa using h) this
 tk id hid:=by
  have:=h (3*id+2) (List.mem_append_right _ (List.mem_append_right _ (List.mem_map.2 ⟨id,hid,rfl⟩)))
  rw[St.look2,St.look2] at this
  exact Option.map_injective (fun _ _ h=>by simpa using h) this
 fs:=hf
def LV(P:Program)(c:Ctx)(ops:Array Oper)(st:St)(o:Oper)(e:Eff):Prop:=
 ∀st',Agr ops o e st st'→ ∀Q:Exit→Act→World→Prop,L c (e.on st') (Q .normal)→L c st' (wpList P ops Q [o])
def swapN(K:Act→World→Prop)(Q:Exit→Act→World→Prop):Exit→Act→World→Prop
 | .normal=>K
 |x=>Q x
theorem wpOp_of_list{P:Program}{ops:Array Oper}{Q:Exit→Act→World→Prop}{K:Act→World→Prop}{i:Nat}{o:Oper}{a:Act}{w:World}(ho:ops[i]?=some o)(h:wpList P ops (swapN K Q) [o] a w):wpOp P ops Q i K a w:=by
 unfold wpList at h
 unfold wpOp
 simp only[ho]
 have hl:LetsOut (swapN K Q)=LetsOut Q:=rfl
 split
 · rename_i hw
   rw[if_pos hw] at h
   rw[hl] at h
   refine h.imp (fun h=> ?_) id
   unfold Oper.wp at h⊢
   have hK:wpList P ops (swapN K Q) [] =K:=rfl
   rw[hK] at h
   generalize (execOp a.eval o).run P w=r at h⊢
   cases r with
   |ok n w'=>cases n<;>exact h
   |halt x w'=>cases x<;>exact h
 · rename_i hw
   rw[if_neg hw] at h
   exact h
inductive Chain (P:Program) (c:Ctx) (ops:Array Oper):St→List Oper→List Eff→Prop
 |nil {st:St}:Chain P c ops st [] []
 |cons {st:St} {o:Oper} {e:Eff} {l:List Oper} {es:List Eff} (h:LV P c ops st o e) (t:Chain P c ops (e.on st) l es):Chain P c ops st (o::l) (e::es)
theorem Chain.length{P:Program}{c:Ctx}{ops:Array Oper}{st:St}{l:List Oper}{es:List Eff}(h:Chain P c ops st l es):es.length=l.length:=by
 induction h with
 |nil=>rfl
 |cons _ _ ih=>simp[ih]
theorem Chain.get{P:Program}{c:Ctx}{ops:Array Oper}{st:St}{l:List Oper}{es:List Eff}(h:Chain P c ops st l es):
 ∀(i:Nat) (o:Oper) (e:Eff),l[i]?=some o→es[i]?=some e→LV P c ops (onF (fun j=>decide (j<i)) es st) o e:=by
 induction h with
 |nil=>intro i o e h;simp at h
 | @cons st o0 e0 l es h0 _ ih=>
   intro i o e ho he
   cases i with
   |zero=>
    simp at ho he;subst ho;subst he
    have:(fun j:Nat=>decide (j<0))=fun _=>false:=by funext j;simp
    rw[this,onF_false];exact h0
   |succ i=>
    have:=ih i o e (by simpa using ho) (by simpa using he)
    simpa[onF] using this
def left(f:Nat→Bool)(n:Nat):Nat:=(List.range n).countP fun i=> !f i
theorem left_zero{f:Nat→Bool}{n:Nat}(h:left f n=0): ∀i,i<n→f i=true:=fun i hi=>by
 have:=List.countP_eq_zero.1 h i (List.mem_range.2 hi)
 simpa using this
theorem left_set{f g:Nat→Bool}{n i:Nat}(hi:i<n)(hf:f i=false)(hg: ∀j,g j=if j=i then true else f j):left f n=left g n+1:=by
 unfold left
 induction n with
 |zero=>omega
 |succ n ih=>
  simp only[List.range_succ,List.countP_append]
  by_cases e:i=n
  · subst e
    have:(List.range i).countP (fun j=> !f j)=(List.range i).countP (fun j=> !g j):=by
     refine List.countP_congr (fun j hj=> ?_)
     have:j≠i:=by have:=List.mem_range.1 hj;omega
     simp[hg,this]
    rw[this]
    simp[hf,hg]
  · have:=ih (by omega)
    have hn:n≠i:=fun h=>e h.symm
    rw[this]
    simp[hg,hn]
    omega
theorem dirs_get{ops:Array Oper}{i:Nat}{o:Oper}(h:ops[i]?=some o):(dirs ops)[i]?=some ((o.after.toList.filter (Region.binds .any)).map (·.on)):=by
 simp[dirs,h]
theorem getD_true{listed:Array Bool}{i:Nat}(h:i<listed.size):listed.getD i true=listed.getD i false:=by
 simp[h]
theorem rows_get{ops:Array Oper}{es:List Eff}(hl:es.length=ops.size){i:Nat}{o:Oper}{e:Eff}(ho:ops[i]?=some o)(he:es[i]?=some e):
 (rowsOf ops es)[i]?=some ⟨e.writes,slotsOf o ops++(e.reads++e.writes),(masks (dirs ops) []).getD i 0,e⟩:=by
 have hi:i<ops.size:=(Array.getElem?_eq_some_iff.1 ho).1
 have hm:i<(masks (dirs ops) []).length:=by rw[masks_length];simp[dirs];exact hi
 have ho':ops.toList[i]?=some o:=by simpa using ho
 simp only[rowsOf,List.getElem?_map]
 have:((ops.toList.zip es).zip (masks (dirs ops) []))[i]?=some ((o,e),(masks (dirs ops) [])[i]):=
  List.getElem?_zip_eq_some.2 ⟨List.getElem?_zip_eq_some.2 ⟨ho',he⟩,List.getElem?_eq_getElem hm⟩
 rw[this]
 simp[List.getD_eq_getElem?_getD,List.getElem?_eq_getElem hm]
theorem any_main{P:Program}{c:Ctx}{ops:Array Oper}{Q:Exit→Act→World→Prop}{st0:St}{es:List Eff}(hch:Chain P c ops st0 ops.toList es)(hok:ordOk ops es st0=true)
 (hQ:L c (onF (fun _=>true) es st0) (Q .normal)):
 ∀(fuel:Nat) (listed:Array Bool),listed.size=ops.size→left (fun i=>listed.getD i false) ops.size≤fuel→
  (∀i,listed.getD i false=true→ ∀d,(dirs ops)[i]?=some d→ ∀j∈d,listed.getD j false=true)→
  ∀a w,R c (onF (fun i=>listed.getD i false) es st0) a w→wpAny P .any ops Q fuel listed a w:=by
 have hlen:es.length=ops.size:=by rw[hch.length];simp
 simp only[ordOk,Bool.and_eq_true,List.all_eq_true] at hok
 obtain⟨hback,hord,hfb⟩:=hok
 have hback:=backOk_get (dirs ops) 0 hback
 have hpair: ∀(i j:Nat) (o o':Oper) (e e':Eff),j<i→ops[j]?=some o→es[j]?=some e→ops[i]?=some o'→es[i]?=some e'→
  (((masks (dirs ops) []).getD i 0).testBit j=true∨(clash e.writes (slotsOf o' ops++(e'.reads++e'.writes))=false∧clash e'.writes (slotsOf o ops++(e.reads++e.writes))=false∧ ∀n∈e.fs,e'.ment n=false))∧ ∀n∈e'.fs,e.ment n=false:=by
  intro i j o o' e e' hji ho he ho' he'
  have:=ordGo_get (rowsOf ops es) [] [] rfl (fun j x h=>by simp at h) hord i j _ _ hji (Nat.zero_le _) (by simpa using rows_get hlen ho he) (by simpa using rows_get hlen ho' he')
  simp only[pairOk,Bool.and_eq_true,Bool.or_eq_true,Bool.not_eq_true',List.all_eq_true] at this
  obtain⟨h1,h2⟩:=this
  exact⟨h1.imp id (fun h=>⟨h.1.1,h.1.2,h.2⟩),h2⟩
 have hopsget: ∀i,i<ops.size→ ∃o e,ops[i]?=some o∧es[i]?=some e:=fun i hi=>⟨_,_,Array.getElem?_eq_getElem hi,List.getElem?_eq_getElem (by rw[hlen];exact hi)⟩
 intro fuel
 induction fuel with
 |zero=>
  intro listed hsz hleft hcl a w hr
  have hall:=left_zero (Nat.le_zero.1 hleft)
  have hr0:Region.ready .any ops listed= []:=by
   refine List.eq_nil_iff_forall_not_mem.2 (fun i hi=> ?_)
   rw[mem_ready] at hi
   obtain⟨h0,o,ho,_⟩:=hi
   have hlt:i<ops.size:=(Array.getElem?_eq_some_iff.1 ho).1
   rw[getD_true (by omega)] at h0
   have:=hall i hlt
   rw[h0] at this;cases this
  refine⟨hr0,hQ a w (hr.look (fun κ=>onF_same es _ _ _ _ (fun i e he=> .inl ?_) rfl))⟩
  have hlt:i<ops.size:=by rw[←hlen];exact(List.getElem?_eq_some_iff.1 he).1
  exact(hall i hlt).symm
 |succ fuel ih=>
  intro listed hsz hleft hcl a w hr
  refine⟨fun hr0=> ?_,fun i hi=> ?_⟩
  · have hall: ∀i,i<ops.size→listed.getD i false=true:=by
     intro i
     induction i using Nat.strongRecOn with
     |_ i ihi=>
      intro hlt
      cases hb:listed.getD i false
      · exfalso
        obtain⟨o,e,ho,he⟩:=hopsget i hlt
        have:i∈Region.ready .any ops listed:=by
         rw[mem_ready]
         refine⟨by rw[getD_true (by omega)];exact hb,o,ho,fun x hx hbx=> ?_⟩
         have hxd:x.on∈(o.after.toList.filter (Region.binds .any)).map (·.on):=List.mem_map.2 ⟨x,List.mem_filter.2 ⟨by simpa using hx,hbx⟩,rfl⟩
         have hlt':=hback i _ (dirs_get ho) _ hxd
         exact ihi x.on (by omega) (by omega)
        rw[hr0] at this;simp at this
      · rfl
    refine hQ a w (hr.look (fun κ=>onF_same es _ _ _ _ (fun i e he=> .inl ?_) rfl))
    have hlt:i<ops.size:=by rw[←hlen];exact(List.getElem?_eq_some_iff.1 he).1
    exact(hall i hlt).symm
  · rw[mem_ready] at hi
    obtain⟨h0,o,ho,hdir⟩:=hi
    have hlt:i<ops.size:=(Array.getElem?_eq_some_iff.1 ho).1
    rw[getD_true (by omega)] at h0
    obtain⟨o',e,ho',he⟩:=hopsget i hlt
    obtain rfl:o'=o:=by rw[ho] at ho';cases ho';rfl
    have hdi: ∀d,(dirs ops)[i]?=some d→ ∀j∈d,listed.getD j false=true:=by
     intro d hd j hj
     rw[dirs_get ho] at hd
     cases hd
     obtain⟨x,hx,rfl⟩:=List.mem_map.1 hj
     obtain⟨hx1,hx2⟩:=List.mem_filter.1 hx
     exact hdir x (by simpa using hx1) hx2
    have hmask: ∀k,(∀d,(dirs ops)[k]?=some d→ ∀j∈d,listed.getD j false=true)→ ∀x,((masks (dirs ops) []).getD k 0).testBit x=true→listed.getD x false=true:=
     masks_closed (S:=fun j=>listed.getD j false=true) (dirs ops) [] [] rfl rfl (fun k d hd hk j hj=>hcl k hk d hd j hj) (fun k _ x hx=>by simp at hx)
    have hlate: ∀(j:Nat) (ej:Eff),i<j→es[j]?=some ej→listed.getD j false=true→clash ej.writes (slotsOf o' ops++(e.reads++e.writes))=false∧ ∀n∈e.fs,ej.ment n=false:=by
     intro j ej hij hej hj
     have hjl:j<ops.size:=by rw[←hlen];exact(List.getElem?_eq_some_iff.1 hej).1
     obtain⟨oj,_,hoj,_⟩:=hopsget j hjl
     rcases(hpair j i o' oj e ej hij ho he hoj hej).1 with h|h
     · have:=hmask j (fun d hd=>hcl j hj d hd) i h
       rw[h0] at this;cases this
     · exact⟨h.2.1,h.2.2⟩
    have hearly: ∀(j:Nat) (ej:Eff),j<i→es[j]?=some ej→listed.getD j false=false→clash ej.writes (slotsOf o' ops++(e.reads++e.writes))=false:=by
     intro j ej hji hej hj
     have hjl:j<ops.size:=by omega
     obtain⟨oj,_,hoj,_⟩:=hopsget j hjl
     rcases(hpair i j oj o' ej e hji hoj hej ho he).1 with h|h
     · have:=hmask i hdi j h
       rw[hj] at this;cases this
     · exact h.1
    have hag:Agr ops o' e (onF (fun j=>decide (j<i)) es st0) (onF (fun i=>listed.getD i false) es st0):=by
     refine Agr.of_look (fun κ hκ=> ?_) (fun n hn=> ?_)
     · have hmem:κ∈slotsOf o' ops++(e.reads++e.writes):=by
        rcases List.mem_append.1 hκ with h|h
        · exact List.mem_append_left _ h
        · exact List.mem_append_right _ (List.mem_append_left _ h)
       refine onF_same es _ _ _ _ (fun j ej hej=> ?_) rfl
       rcases Nat.lt_trichotomy j i with hji|rfl|hij
       · cases hb:listed.getD j false
         · exact .inr (fun hw=>clash_not (hearly j ej hji hej hb) hw hmem)
         · exact .inl (by simp[hji])
       · exact .inl (by simp[h0])
       · cases hb:listed.getD j false
         · exact .inl (by simp;omega)
         · exact .inr (fun hw=>clash_not (hlate j ej hij hej hb).1 hw hmem)
     · refine fresh_onF es _ st0 (hfb e (List.mem_of_getElem? he) n hn) (fun j ej hej hj=> ?_)
       rcases Nat.lt_trichotomy j i with hji|rfl|hij
       · have hjl:j<ops.size:=by omega
         obtain⟨oj,_,hoj,_⟩:=hopsget j hjl
         exact(hpair i j oj o' ej e hji hoj hej ho he).2 n hn
       · rw[h0] at hj;cases hj
       · exact(hlate j ej hij hej hj).2 n hn
    refine wpOp_of_list ho (hch.get i o' e (by simpa using ho) he _ hag (swapN _ Q) (fun a' w' hr'=> ?_) a w hr)
    have hset: ∀j,(listed.setIfInBounds i true).getD j false=if j=i then true else listed.getD j false:=by
     intro j
     by_cases hji:j=i
     · subst hji;simp[hsz,hlt]
     · have:i≠j:=fun h=>hji h.symm
       simp only[hji,if_false];exact getD_set_ne false this
    refine ih _ (by simpa using hsz) ?_ ?_ a' w' (hr'.look (fun κ=> ?_))
    · have:=left_set (f:=fun i=>listed.getD i false) (g:=fun j=>(listed.setIfInBounds i true).getD j false) (n:=ops.size) hlt h0 hset
      omega
    · intro k hk d hd j hj
      simp only[hset] at hk⊢
      by_cases hji:j=i
      · simp[hji]
      · simp only[hji,if_false]
        by_cases hki:k=i
        · subst hki;exact hdi d hd j hj
        · simp only[hki,if_false] at hk;exact hcl k hk d hd j hj
    · by_cases hw:κ∈e.writes
      · refine onF_last es _ st0 _ i e he (by simp only[hset];simp) hw (fun j ej hij hej hj hwj=> ?_)
        simp only[hset] at hj
        have hne:j≠i:=by omega
        simp only[hne,if_false] at hj
        exact clash_not (hlate j ej hij hej hj).1 hwj (List.mem_append_right _ (List.mem_append_right _ hw))
      · rw[Eff.on_look_ne hw]
        refine onF_same es _ _ _ _ (fun j ej hej=> ?_) rfl
        by_cases hji:j=i
        · subst hji;rw[he] at hej;cases hej;exact .inr hw
        · exact .inl (by simp only[hset,hji,if_false])
def DR(P:Program)(c:Ctx)(ops:Array Oper)(Q:Exit→Act→World→Prop)(st0:St)(done:List Eff)(st:St)(l:List Oper):Prop:=
 ∃es:List Eff,Chain P c ops st l es∧ordOk ops (done.reverse++es) st0=true∧L c (onF (fun _=>true) es st) (Q .normal)
section
variable {P:Program}{c:Ctx}{ops:Array Oper}{Q:Exit→Act→World→Prop}{st0 st:St}{done:List Eff}{rest:List Oper}{o:Oper}
theorem DR.nil(hok:ordOk ops done.reverse st0=true)(h:L c st (Q .normal)):DR P c ops Q st0 done st []:=⟨[],.nil,by simpa using hok,h⟩
theorem DR.cons{e:Eff}(hv:LV P c ops st o e)(h:DR P c ops Q st0 (e::done) (e.on st) rest):DR P c ops Q st0 done st (o::rest):=by
 obtain⟨es,hc,hok,hl⟩:=h
 exact⟨e::es,.cons hv hc,by simpa using hok,hl⟩
theorem DR.region(hm:P.follows .mixedOrders=true){id:Nat}{l:List Oper}(h:DR P c l.toArray Q st [] st l):L c st ((Code.region id l.toArray true).wp P Q):=by
 obtain⟨es,hc,hok,hl⟩:=h
 intro a w hr
 have hc':Chain P c l.toArray st l.toArray.toList es:=by simpa using hc
 have hfalse:(fun i=>(Array.replicate l.toArray.size false).getD i false)=fun _=>false:=by
  funext i
  simp only[Array.getD_eq_getD_getElem?,Array.getElem?_replicate]
  split<;>rfl
 refine wp_region_any hm (any_main hc' (by simpa using hok) hl _ _ (by simp) ?_ ?_ a _ ?_)
 · rw[hfalse];exact Nat.le_trans List.countP_le_length (by simp)
 · intro i hi
   have:=congrFun hfalse i
   rw[this] at hi;cases hi
 · rw[hfalse,onF_false];obtain⟨E,hi⟩:=hr;exact⟨E,hi.drew⟩
theorem DR.of_plain{dst:Option Tmp}{op:Op}{ty:TypeId}{pos:String}{aft:Array Edge}{g:Option (Nat×Bool)}(hl: ∀e,LV P c ops st ⟨dst,op,ty,pos,aft,none⟩ e→LV P c ops st ⟨dst,op,ty,pos,aft,g⟩ e)
 (h:DR P c ops Q st0 done st (⟨dst,op,ty,pos,aft,none⟩::rest)):DR P c ops Q st0 done st (⟨dst,op,ty,pos,aft,g⟩::rest):=by
 obtain⟨es,hc,hok,hL⟩:=h
 cases hc with
 |cons hv t=>exact⟨_,.cons (hl _ hv) t,hok,hL⟩
end
attribute [irreducible] DR
end Go.Abs
