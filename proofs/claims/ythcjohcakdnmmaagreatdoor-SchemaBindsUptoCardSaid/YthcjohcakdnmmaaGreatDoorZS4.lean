/- Several texts in one, each with its own sentence ahead of it. Conditions: each one says its own. -/
import Derived.Deep.DeepAppendWide
import Derived.Test.YthcjohcakdnmmaaGreatDoorZS3
set_option linter.all false
namespace Go.Abs
variable [Dr]
set_option linter.unusedSectionVars false
open Go.RowKit (Below)
set_option linter.unusedVariables false
def Src(P:Program)(w:World)(x:Value)(k m:Nat)(news:List Value):Prop:=
 (Builtin.lenOf x).run P w= .ok m w∧(Builtin.firstCells k m x).run P w= .ok news.toArray w∧(Builtin.firstCells k m x).run P w.drew= .ok news.toArray w.drew
theorem Src.nil(P:Program)(w:World)(k:Nat):Src P w (.slice none 0 0) k 0 []:=⟨rfl,by simp[Builtin.firstCells],by simp[Builtin.firstCells]⟩
theorem Src.some{P:Program}{w:World}{k m cap:Nat}{b:Addr}{news:List Value}(hl:news.length=m*k)(h: ∀j v,news[j]?=some v→w.cell? (b.add j)=some v):Src P w (.slice (some b) m cap) k m news:=
 ⟨rfl,run_firstCells_some w k m b m cap news hl h,run_firstCells_some w.drew k m b m cap news hl (by simpa using h)⟩
def notInt(d:TypeDesc):Prop:=(∃e,d= .slice e)∨d= .string
section
variable {P:Program}{w:World}{t t' ty e:TypeId}{d:TypeDesc}{i:TypeInfo}{x:Value}{m:Nat}{news:List Value}
theorem app_room(ht:P.underlying t=some (.slice e))(hd:P.underlying t'=some d)(hn:notInt d)(hi:P.info? e=some i)(hs:Src P w x i.size m news)(hl:news.length=m*i.size)
 {g n cap:Nat} {cur:Array Value} (hg:w.heap[g]?=some (.cells cur e (0,0))) (h1: ∀u∈news,u.oneCell'=true) (hroom:n+m≤cap) (hfit:n*i.size+news.length≤cur.size):
 (Builtin.append_ #[t,t'] ty #[.slice (some ⟨g,0,none⟩) n cap,x]).run P w=
   .ok (.slice (some ⟨g,0,none⟩) (n+m) cap) (w.setRow g (cur.toList.take (n*i.size)++news++cur.toList.drop (n*i.size+news.length)).toArray):=by
 have hst:=run_storeCells_at P g (n*i.size) e news 0 cur w hg (by simpa using hfit) h1
 simp only[Nat.add_zero] at hst
 obtain⟨hs1,hs2,_⟩:=hs
 rcases hn with⟨e',rfl⟩|rfl<;>simp[Builtin.append_,run_underlying ht,run_underlying hd,sizeOf,typeInfo,hi,hs1,hroom,hs2,Addr.add_none,hst]
theorem app_none(ht:P.underlying t=some (.slice e))(hd:P.underlying t'=some d)(hn:notInt d)(hi:P.info? e=some i)(hs:Src P w x i.size 0 []):
 (Builtin.append_ #[t,t'] ty #[.slice none 0 0,x]).run P w= .ok (.slice none 0 0) w:=by
 obtain⟨hs1,hs2,_⟩:=hs
 rcases hn with⟨e',rfl⟩|rfl<;>simp[Builtin.append_,run_underlying ht,run_underlying hd,sizeOf,typeInfo,hi,hs1,hs2]
theorem app_grow(ht:P.underlying t=some (.slice e))(hd:P.underlying t'=some d)(hn:notInt d)(hi:P.info? e=some i){z:Value}(hz:i.zero=some z)(hs:Src P w x i.size m news)
 {base:Option Addr} {n cap:Nat} {olds:List Value} (ho:(Builtin.firstCells i.size n (.slice base n cap)).run P w.drew= .ok olds.toArray w.drew)
 (hg:cap<n+m) (h63:((n+m:Nat):Int)≤9223372036854775807) (hfit:Builtin.nextslicecap (n+m) cap*i.bytes≤281474976710656):
 (Builtin.append_ #[t,t'] ty #[.slice base n cap,x]).run P w=
   .ok (.slice (some ⟨w.heap.size,0,none⟩) (n+m) (grownCap w (n+m) cap e))
     (w.drew.alloc (.cells (olds++(news++(Builtin.zeroCells z.cells (grownCap w (n+m) cap e - (n+m))).toList)).toArray e)):=by
 have hn': ¬(n+m≤cap):=by omega
 have h63': ¬(9223372036854775807<((n:Int)+(m:Int))):=by omega
 have h48': ¬(281474976710656<Builtin.nextslicecap (n+m) cap*i.bytes):=by omega
 obtain⟨hs1,_,hs3⟩:=hs
 rcases hn with⟨e',rfl⟩|rfl
 all_goals
  simp[Builtin.append_,run_underlying ht,run_underlying hd,sizeOf,typeInfo,zeroValue,hi,hz,hs1,hn',h63',h48',Question.forced,ho,hs3,newRow,grownCap]
  try (congr 2;apply Array.ext';simp)
end
theorem flat_get{k:Nat}: ∀(es:List (List IV)),(∀e∈es,e.length=k)→es.flatten.length=es.length*k∧ ∀(i:Nat) (e:List IV) (j:Nat) (x:IV),es[i]?=some e→e[j]?=some x→es.flatten[i*k+j]?=some x
 | [],h=>⟨by simp,fun i e j x h1=>by simp at h1⟩
 |e0::es,h=>by
  obtain⟨hl,hg⟩:=flat_get es (fun e he=>h e (List.mem_cons_of_mem _ he))
  have h0:e0.length=k:=h e0 List.mem_cons_self
  refine⟨by simp only[List.flatten_cons,List.length_append,hl,h0,List.length_cons,Nat.add_mul,Nat.one_mul];omega,fun i e j x h1 h2=> ?_⟩
  cases i with
  |zero=>
   simp at h1;subst h1
   have hj:=(List.getElem?_eq_some_iff.1 h2).1
   simp only[List.flatten_cons,Nat.zero_mul,Nat.zero_add]
   rw[List.getElem?_append_left hj];exact h2
  |succ i=>
   have:=hg i e j x (by simpa using h1) h2
   simp only[List.flatten_cons]
   rw[List.getElem?_append_right (by rw[h0,Nat.add_mul,Nat.one_mul];omega)]
   rw[show(i+1)*k+j - e0.length=i*k+j by rw[h0,Nat.add_mul,Nat.one_mul];omega]
   exact this
theorem idx_div{k i j:Nat}(hj:j<k):(i*k+j) / k=i∧(i*k+j) % k=j:=by
 have hk:0<k:=Nat.lt_of_le_of_lt (Nat.zero_le _) hj
 constructor
 · rw[Nat.mul_comm,Nat.mul_add_div hk,Nat.div_eq_of_lt hj];rfl
 · rw[Nat.mul_comm,Nat.mul_add_mod,Nat.mod_eq_of_lt hj]
theorem RepI.cellsOf{φ:Nat→Nat}{w:World}{es:List (List IV)}{u:Value}{k:Nat}(h:RepI φ w (.sl es) u)(hk: ∀e∈es,e.length=k)(hk0:0<k):
 ∃us:List Value,us.length=es.length*k∧(∀x∈us,x.oneCell'=true)∧(∀(i:Nat) (e:List IV) (j:Nat) (x:IV) (v:Value),es[i]?=some e→e[j]?=some x→us[i*k+j]?=some v→RepI φ w x v)∧
  ((u= .slice none 0 0∧es= [])∨(∃(ad:Addr) (cap:Nat),u= .slice (some ad) 0 cap∧ad.spot≠none∧es= [])∨ ∃b o cap,u= .slice (some ⟨b,o,none⟩) es.length cap∧es.length≤cap∧cap≤maxLen∧ ∀j,j<es.length*k→w.cell? ⟨b,o+j,none⟩=us[j]?∧o+j<φ b):=by
 rcases h.sl_inv with⟨rfl,rfl⟩|⟨ad,cap,rfl,hs,hm,rfl⟩|⟨b,o,cap,k',f,rfl,hc,hm,hk',hcell⟩
 · exact⟨[],by simp,by simp,fun i e j x v h1=>by simp at h1,.inl ⟨rfl,rfl⟩⟩
 · exact⟨[],by simp,by simp,fun i e j x v h1=>by simp at h1,.inr (.inl ⟨ad,cap,rfl,hs,rfl⟩)⟩
 · have hkk:es≠ [] →k'=k:=fun hne=>by
    obtain⟨e0,r,rfl⟩:=List.exists_cons_of_ne_nil hne
    rw[←hk' 0 e0 rfl,hk e0 List.mem_cons_self]
   have key: ∀j,j<es.length*k→ ∃(e:List IV) (x:IV),es[j / k]?=some e∧e[j % k]?=some x∧o+j<φ b∧w.cell? ⟨b,o+j,none⟩=some (f (j / k) (j % k))∧RepI φ w x (f (j / k) (j % k)):=fun j hj=>by
    have hi:j / k<es.length:=(Nat.div_lt_iff_lt_mul hk0).2 hj
    have he:es[j / k]?=some es[j / k]:=List.getElem?_eq_getElem hi
    have hjk:j % k<es[j / k].length:=by rw[hk _ (List.getElem_mem hi)];exact Nat.mod_lt _ hk0
    have hne:es≠ []:=fun e=>by subst e;simp at hi
    have:=hcell (j / k) _ (j % k) _ he (List.getElem?_eq_getElem hjk)
    rw[hkk hne,show o+j / k*k+j % k=o+j by rw[Nat.add_assoc,Nat.mul_comm,Nat.div_add_mod]] at this
    exact⟨_,_,he,List.getElem?_eq_getElem hjk,this⟩
   have hget: ∀j,j<es.length*k→((List.range (es.length*k)).map fun j=>f (j / k) (j % k))[j]?=some (f (j / k) (j % k)):=fun j hj=>by
    rw[List.getElem?_map,List.getElem?_range hj];rfl
   refine⟨(List.range (es.length*k)).map fun j=>f (j / k) (j % k),by simp,fun x hx=> ?_,fun i e j x v h1 h2 h3=> ?_,.inr (.inr ⟨b,o,cap,rfl,hc,hm,fun j hj=> ?_⟩)⟩
   · simp only[List.mem_map,List.mem_range] at hx
     obtain⟨j,hj,rfl⟩:=hx
     obtain⟨_,_,_,_,_,_,hr⟩:=key j hj
     exact hr.oneCell
   · have hj:j<k:=by rw[←hk e (List.mem_of_getElem? h1)];exact(List.getElem?_eq_some_iff.1 h2).1
     have hi:=(List.getElem?_eq_some_iff.1 h1).1
     have hlt:i*k+j<es.length*k:=by
      calc i*k+j<i*k+k:=by omega
       _=(i+1)*k:=by rw[Nat.add_mul,Nat.one_mul]
       _≤es.length*k:=Nat.mul_le_mul_right k hi
     rw[hget _ hlt,(idx_div hj).1,(idx_div hj).2] at h3
     cases h3
     exact(hcell i e j x h1 h2).2.2
   · obtain⟨_,_,_,_,h1,h2,_⟩:=key j hj
     rw[hget j hj];exact⟨h2,h1⟩
theorem Inv.nilTok{c:Ctx}{E:Env}{st:St}{a:Act}{w:World}(hi:Inv c E st a w){id:Nat}(hf:st.fresh id=true)(t:Tok):
 Inv c ⟨E.φ,E.ρ,fun i=>if i=id then .slice none 0 0 else E.η i⟩ ⟨st.fr,st.bx,(id,t)::st.tk⟩ a w∧
  (∀(x:AV) (u:Value),AV.ment id x=false→RepA E w x u→RepA ⟨E.φ,E.ρ,fun i=>if i=id then .slice none 0 0 else E.η i⟩ w x u):=by
 have mono: ∀(x:AV) (u:Value),AV.ment id x=false→RepA E w x u→RepA ⟨E.φ,E.ρ,fun i=>if i=id then .slice none 0 0 else E.η i⟩ w x u:=fun x u hm hr=>
  RepA.mono (E:=E) (w:=w) (w':=w) (h:=hr) (E':=⟨E.φ,E.ρ,fun i=>if i=id then .slice none 0 0 else E.η i⟩) (fun _ _ _=>rfl) (fun _=>Nat.le_refl _) (fun i hi'=>by
   have:i≠id:=fun e=>by subst e;rw[hm] at hi';cases hi'
   exact⟨rfl,by simp[this]⟩)
 have hη: ∀i,i≠id→(if i=id then Value.slice none 0 0 else E.η i)=E.η i:=fun i h=>by simp[h]
 refine⟨⟨hi.defers,hi.size,fun s v hv=>mono v _ (St.fresh_fr hf hv) (hi.slot s v hv),?_⟩,mono⟩
 have base:HInv c ⟨E.φ,E.ρ,fun i=>if i=id then .slice none 0 0 else E.η i⟩ st.bx st.tk w:=by
  refine⟨fun i b hb hn=> ?_,fun i t' ht'=> ?_,hi.heap.bb,fun i j t1 t2 g' hi' hj h1 h2=> ?_,fun i j b t1 hb hn hj=> ?_,hi.heap.own,fun j t1 g' hj hg'=> ?_,hi.heap.new,hi.heap.old,fun i hin=> ?_,hi.heap.kept⟩
  · obtain⟨h0,arr,ha,hl,h1,hr,hq⟩:=hi.heap.box i b hb hn
    exact⟨h0,arr,ha,hl,h1,fun k x u hx hu=>mono x u (AV.ments_false (St.fresh_bx hf hb).2 k x hx) (hr k x u hx hu),fun k cap he=>hq k cap (by simpa only[hη i (St.fresh_bx hf hb).1] using he)⟩
  · rcases hi.heap.tok i t' ht' with hn|⟨g,n,cap,cur,hv,rest⟩
    · exact .inl (by simp only;rw[hη i (St.fresh_tk hf ht')];exact hn)
    · exact .inr ⟨g,n,cap,cur,by simp only;rw[hη i (St.fresh_tk hf ht')];exact hv,rest⟩
  · simp only at h1 h2
    rw[hη i (St.fresh_tk hf hi')] at h1
    rw[hη j (St.fresh_tk hf hj)] at h2
    exact hi.heap.tt i j t1 t2 g' hi' hj h1 h2
  · simp only
    rw[hη j (St.fresh_tk hf hj)]
    exact hi.heap.bt i j b t1 hb hn hj
  · simp only at hg'
    rw[hη j (St.fresh_tk hf hj)] at hg'
    exact hi.heap.ownt j t1 g' hj hg'
  · obtain⟨e1,e2,e3⟩:=hi.heap.ins i hin
    obtain⟨b,hb⟩:=Option.isSome_iff_exists.1 e3
    exact⟨e1,(hη i (St.fresh_bx hf hb).1).trans e2,e3⟩
 have hid:(if id=id then Value.slice none 0 0 else E.η id)= .slice none 0 0:=by simp
 refine base.addTok (.inl hid) (fun j t' g _ _ _=> ?_) (fun i b _ _=> ?_) (fun g hg=> ?_)
 · show(if id=id then Value.slice none 0 0 else E.η id).ownBlock≠some g
   rw[hid];simp[Value.ownBlock]
 · show(if id=id then Value.slice none 0 0 else E.η id).ownBlock≠some (E.ρ i)
   rw[hid];simp[Value.ownBlock]
 · have hg':(if id=id then Value.slice none 0 0 else E.η id).ownBlock=some g:=hg
   rw[hid] at hg';simp[Value.ownBlock] at hg'
theorem Inv.delTok{c:Ctx}{E:Env}{st:St}{a:Act}{w:World}(hi:Inv c E st a w)(id:Nat):Inv c E ⟨st.fr,st.bx,Abs.delTok id st.tk⟩ a w:=
 ⟨hi.defers,hi.size,hi.slot,hi.heap.wk (st:=st) (st':=⟨st.fr,st.bx,Abs.delTok id st.tk⟩)
   ⟨fun i hin=>(hi.heap.ins i hin).2.2,fun s v h=>⟨v,h,Sub.refl _⟩,fun i b h=>⟨b,h,rfl,Subs.refl _⟩,fun i t h=>(delTok_get h).2⟩⟩
theorem fresh_delTok{id id':Nat}{st:St}(hf:st.fresh id'=true):St.fresh id' ⟨st.fr,st.bx,Abs.delTok id st.tk⟩=true:=by
 simp only[St.fresh,Bool.and_eq_true,List.all_eq_true] at hf⊢
 exact⟨hf.1,fun p hp=>hf.2 p (List.mem_filter.1 hp).1⟩
section
variable {P:Program}{c:Ctx}{st:St}{ops:Array Oper}{Q:Exit→Act→World→Prop}{rest:List Oper}{o:Oper}
def Adds(P:Program)(c:Ctx)(st:St)(y:Operand)(k:Nat)(news:List (List IV)):Prop:=
 ∀(E:Env) (a:Act) (w:World),Inv c E st a w→ ∃us:List Value,Src P w (a.eval y) k news.length us∧us.length=news.length*k∧(∀x∈us,x.oneCell'=true)∧
  ∀(i:Nat) (e:List IV) (j:Nat) (x:IV) (v:Value),news[i]?=some e→e[j]?=some x→us[i*k+j]?=some v→RepI E.φ w x v
theorem Adds.slice{y:Operand}{k:Nat}{news:List (List IV)}(hy:(st.ev y).sl?=some news)(hk: ∀e∈news,e.length=k)(hk0:0<k):Adds P c st y k news:=fun E a w hi=>by
 obtain⟨us,hl,h1,hr,hc⟩:=((hi.ev y).sl hy).cellsOf hk hk0
 refine⟨us,?_,hl,h1,hr⟩
 rcases hc with⟨hq,rfl⟩|⟨ad,cap,hq,_,rfl⟩|⟨b,o,cap,hq,_,_,hcell⟩
 · rw[hq]
   have:us= []:=List.eq_nil_of_length_eq_zero (by simpa using hl)
   subst this
   exact Src.nil P w k
 · rw[hq]
   have:us= []:=List.eq_nil_of_length_eq_zero (by simpa using hl)
   subst this
   exact Src.some (by simp) (fun j v hv=>by simp at hv)
 · rw[hq]
   exact Src.some hl (fun j v hv=>by
    have hj:j<news.length*k:=by rw[←hl];exact(List.getElem?_eq_some_iff.1 hv).1
    rw[Addr.add_none,(hcell j hj).1];exact hv)
theorem Adds.string{y:Operand}{s:List UInt8}(hy:st.ev y=aS s):Adds P c st y 1 (s.map fun b=> [IV.im (.int .u8 b.toNat)]):=fun E a w hi=>by
 refine⟨s.map fun b=> .int .u8 b.toNat,?_,by simp,fun x hx=> ?_,fun i e j x v h1 h2 h3=> ?_⟩
 · rw[hi.im hy]
   have he:((ByteArray.mk s.toArray).extract 0 s.length)=ByteArray.mk s.toArray:=by
    apply ByteArray.ext
    simp[ByteArray.data_extract]
   refine⟨by simp[Builtin.lenOf,ByteArray.size],?_,?_⟩
   · simp only[List.length_map,Builtin.firstCells,Sem.run_pure,he];simp
   · simp only[List.length_map,Builtin.firstCells,Sem.run_pure,he];simp
 · simp only[List.mem_map] at hx
   obtain⟨b,_,rfl⟩:=hx;rfl
 · simp only[List.getElem?_map,Option.map_eq_some_iff] at h1
   obtain⟨b,hb,rfl⟩:=h1
   cases j with
   |zero=>
    simp at h2;subst h2
    simp only[Nat.mul_one,Nat.add_zero,List.getElem?_map,hb,Option.map_some,Option.some.injEq] at h3
    subst h3;exact .im rfl
   |succ j=>simp at h2
theorem Makes.append{t t' e:TypeId}{d:TypeDesc}{x y:Operand}{id id' k bytes:Nat}{i:TypeInfo}{z:Value}{es news:List (List IV)}
 (ho:o.op= .call {callee:= .builtin .append,args:= #[x,y],argTypes:= #[t,t']}) (ht:P.underlying t=some (.slice e)) (hi0:P.info? e=some i) (hik:i.size=k) (hib:i.bytes=bytes) (hiz:i.zero=some z) (hzk:z.cells.size=k)
 (hd:P.underlying t'=some d) (hn:notInt d) (hk0:0<k)
 (hx:(st.ev x= .row id es∧st.tk.lookup id=some ⟨e,k⟩)∨(st.ev x= .nils∧es= [])∨(st.ev x= .emp∧es= [] ∧news≠ [])) (hes: ∀e∈es,e.length=k) (hnk: ∀e∈news,e.length=k) (hy:Adds P c st y k news)
 (hm:es.length+news.length≤maxLen) (hby:(es.length+news.length)*bytes≤225000000000000) (hbs:bytes≤100000) (hf:st.fresh id'=true):
 Makes P c st o (.row id' (es++news)) st.bx ((id',⟨e,k⟩)::delTok id st.tk):=fun E a w hi=>by
 subst hik;subst hib
 obtain⟨us,hsrc,hul,hu1,hur⟩:=hy E a w hi
 have hsmall:es.length+news.length≤9223372036854775807:=by simp only[maxLen] at hm;omega
 have hexec:(execOp a.eval o).run P w=((Builtin.append_ #[t,t'] o.type #[a.eval x,a.eval y]).run P w).andThen fun v w'=> .ok (.value v) w':=by
  simp[execOp,ho,resolve,invoke,builtin]
 have hcat: ∀e∈es++news,e.length=i.size:=fun e he=>by
  rcases List.mem_append.1 he with h|h
  · exact hes e h
  · exact hnk e h
 have hcells: ∀(E':Env) (w':World) (olds tail:List Value),olds.length=es.length*i.size→Keeps E.φ w w'→(∀b,E.φ b≤E'.φ b)→
  (∀(j:Nat) (e:List IV) (n:Nat) (x:IV) (v:Value),es[j]?=some e→e[n]?=some x→olds[j*i.size+n]?=some v→RepI E.φ w x v)→
  ∀(j:Nat) (e:List IV) (n:Nat) (x:IV) (v:Value),(es++news)[j]?=some e→e[n]?=some x→(olds++(us++tail))[j*i.size+n]?=some v→RepI E'.φ w' x v:=by
  intro E' w' olds tail hol hkp hle hor j e n x v h1 h2 h3
  have hn':n<i.size:=by rw[←hcat e (List.mem_of_getElem? h1)];exact(List.getElem?_eq_some_iff.1 h2).1
  by_cases hj:j<es.length
  · have hlt:j*i.size+n<olds.length:=by
     rw[hol]
     calc j*i.size+n<j*i.size+i.size:=by omega
      _=(j+1)*i.size:=by rw[Nat.add_mul,Nat.one_mul]
      _≤es.length*i.size:=Nat.mul_le_mul_right _ hj
    rw[List.getElem?_append_left hj] at h1
    rw[List.getElem?_append_left hlt] at h3
    exact(hor j e n x v h1 h2 h3).mono hkp hle
  · have hge:olds.length≤j*i.size+n:=by
     rw[hol];exact Nat.le_trans (Nat.mul_le_mul_right _ (Nat.le_of_not_lt hj)) (Nat.le_add_right _ _)
    rw[List.getElem?_append_right (Nat.le_of_not_lt hj)] at h1
    rw[List.getElem?_append_right hge] at h3
    have he:j*i.size+n - olds.length=(j - es.length)*i.size+n:=by
     rw[hol,Nat.sub_mul]
     have:es.length*i.size≤j*i.size:=Nat.mul_le_mul_right _ (Nat.le_of_not_lt hj)
     omega
    rw[he] at h3
    have hlt:(j - es.length)*i.size+n<us.length:=by
     have hjn:=(List.getElem?_eq_some_iff.1 h1).1
     rw[hul]
     calc(j - es.length)*i.size+n<(j - es.length)*i.size+i.size:=by omega
      _=(j - es.length+1)*i.size:=by rw[Nat.add_mul,Nat.one_mul]
      _≤news.length*i.size:=Nat.mul_le_mul_right _ hjn
    rw[List.getElem?_append_left hlt] at h3
    exact(hur _ e n x v h1 h2 h3).mono hkp hle
 have grown: ∀(base:Option Addr) (cap:Nat) (olds:List Value),a.eval x= .slice base es.length cap→olds.length=es.length*i.size→
  (∀(j:Nat) (e:List IV) (n:Nat) (x:IV) (v:Value),es[j]?=some e→e[n]?=some x→olds[j*i.size+n]?=some v→RepI E.φ w x v)→
  (Builtin.firstCells i.size es.length (.slice base es.length cap)).run P w.drew= .ok olds.toArray w.drew→cap<es.length+news.length→
  ∃(u:Value) (E':Env) (w':World),(execOp a.eval o).run P w= .ok (.value u) w'∧Inv c E' ⟨st.fr,st.bx,(id',⟨e,i.size⟩)::delTok id st.tk⟩ a w'∧RepA E' w' (.row id' (es++news)) u:=by
  intro base cap olds hq hol hor hfc hlt
  have hrun:=app_grow (ty:=o.type) ht hd hn hi0 hiz hsrc (base:=base) (n:=es.length) (cap:=cap) (olds:=olds) hfc hlt (by omega) (growslice_fits_wide hlt (by
   have:(es.length+news.length) / 4*i.bytes≤(es.length+news.length)*i.bytes / 4:=by
    rw[Nat.le_div_iff_mul_le (by decide),Nat.mul_assoc,Nat.mul_comm i.bytes 4,←Nat.mul_assoc]
    exact Nat.mul_le_mul_right _ (Nat.div_mul_le_self _ 4)
   rw[Nat.add_mul,Nat.add_mul];omega))
  have hge:es.length+news.length≤grownCap w (es.length+news.length) cap e:=grownCap_ge _ _ _ _
  have hcm:=grownCap_le_maxLen w (es.length+news.length) cap e hm
  have hk1:Keeps E.φ w w.drew:=fun _ _ _=>rfl
  obtain⟨E',hi',hv⟩:=((hi.delTok id).drew).newRow (fresh_delTok hf) (ty:=e) (k:=i.size) (cap:=grownCap w (es.length+news.length) cap e) (es:=es++news)
   (us:=olds++(us++(Builtin.zeroCells z.cells (grownCap w (es.length+news.length) cap e - (es.length+news.length))).toList))
   (fun j e' he=>hcat e' (List.mem_of_getElem? he))
   (by
     simp only[List.length_append,hol,hul,Array.length_toList,size_zeroCells,hzk]
     rw[←Nat.add_assoc,←Nat.add_mul,←Nat.add_mul];congr 1;omega)
   (by rw[List.length_append];exact hge) hcm
   (hcells E w.drew olds _ hol hk1 (fun _=>Nat.le_refl _) hor)
  refine⟨_,E',_,?_,hi',hv⟩
  rw[hexec,hq,hrun]
  simp
 rcases hx with⟨hx,htk⟩|⟨hx,rfl⟩|⟨hx,rfl,hm0⟩
 · have hxv:=hi.ev x
   rw[hx] at hxv
   cases hxv with
   |row hu hrep=>
    obtain⟨olds,hol,ho1,hor,hoc⟩:=hrep.cellsOf hes hk0
    have htok:=hi.heap.tok id _ htk
    rcases hoc with⟨hq,hes0⟩|⟨ad,cap,hq,hsp,_⟩|⟨b,off,cap,hq,hc1,hc2,hcell⟩
    ·
     subst hes0
     have hol':olds= []:=List.eq_nil_of_length_eq_zero (by simpa using hol)
     subst hol'
     by_cases hm0:news= []
     · subst hm0
       have hus:us= []:=List.eq_nil_of_length_eq_zero (by simpa using hul)
       subst hus
       have hrun:=app_none (ty:=o.type) ht hd hn hi0 hsrc
       obtain⟨hi',mono⟩:=(hi.delTok id).nilTok (fresh_delTok hf) ⟨e,i.size⟩
       refine⟨_,_,_,?_,hi',.row (by simp) .nil⟩
       rw[hexec,hq,hrun];rfl
     · have h1:0<news.length:=List.length_pos_iff.2 hm0
       exact grown none 0 [] (by rw[hq];rfl) (by simp) hor (by simp[Builtin.firstCells]) (by simpa using h1)
    · exfalso
      rcases htok with hnil|⟨g,n,cap',cur,hv,hg,hnc,hcm,hcs,hφ⟩
      · rw[←hu,hq] at hnil;cases hnil
      · rw[hu,hv] at hq
        simp only[Value.slice.injEq,Option.some.injEq] at hq
        obtain⟨rfl,_,_⟩:=hq
        exact hsp rfl
    · by_cases hroom:es.length+news.length≤cap
      ·
       rcases htok with hnil|⟨g,n,cap',cur,hv,hg,hnc,hcm,hcs,hφ⟩
       · rw[←hu,hq] at hnil;cases hnil
       · have hq':=hq
         rw[hu,hv] at hq'
         simp only[Value.slice.injEq,Option.some.injEq,Addr.mk.injEq] at hq'
         obtain⟨⟨rfl,rfl,_⟩,rfl,rfl⟩:=hq'
         simp only at hcs hφ hg
         have hfit:es.length*i.size+us.length≤cur.size:=by rw[hul,←Nat.add_mul];exact Nat.le_trans (Nat.mul_le_mul_right _ hroom) hcs
         have hrun:=app_room (ty:=o.type) ht hd hn hi0 hsrc hul hg hu1 hroom hfit
         have hes_le:es.length*i.size≤cur.size:=by omega
         have holds:cur.toList.take (es.length*i.size)=olds:=by
          apply List.ext_getElem?
          intro j
          rw[List.getElem?_take]
          split
          · rename_i hj
            have:=(hcell j hj).1
            rw[Nat.zero_add,cell_of_row w g j cur _ _ hg] at this
            simpa using this
          · rw[List.getElem?_eq_none (by rw[hol];omega)]
         obtain⟨hi',hkp,hle⟩:=hi.growRow hf htk hv hg hφ (n':=es.length+news.length)
          (cur':=(cur.toList.take (es.length*i.size)++us++cur.toList.drop (es.length*i.size+us.length)).toArray)
          (by simp only[List.size_toArray,List.length_append,List.length_take,List.length_drop,Array.length_toList];omega)
          (fun o' ho'=>by
            simp only at ho'
            rw[List.append_assoc,List.getElem?_toArray,List.getElem?_append_left (by simp;omega),List.getElem?_take,if_pos ho'];simp)
          (by omega) hroom hcm
         refine⟨.slice (some ⟨g,0,none⟩) (es.length+news.length) cap',_,_,?_,hi',?_⟩
         · rw[hexec,hq,hrun];rfl
         · refine .row (by simp) ?_
           have hll:(es++news).length=es.length+news.length:=List.length_append
           refine Eq.mp (congrArg (fun n=>RepI _ _ (IV.sl (es++news)) (Value.slice (some ⟨g,0,none⟩) n cap')) hll) ?_
           refine .sl (k:=i.size) (fun j n=>(olds++(us++cur.toList.drop (es.length*i.size+us.length))).getD (j*i.size+n) undef) (by rw[hll];exact hroom) hcm (fun j e' he=>hcat e' (List.mem_of_getElem? he)) (fun j e' n x' h1 h2=> ?_) (fun j e' n x' h1 h2=> ?_) (fun j e' n x' h1 h2=> ?_)
           all_goals
            have hj:=(List.getElem?_eq_some_iff.1 h1).1
            rw[hll] at hj
            have hn':n<i.size:=by rw[←hcat e' (List.mem_of_getElem? h1)];exact(List.getElem?_eq_some_iff.1 h2).1
            have hlt:j*i.size+n<(es.length+news.length)*i.size:=by
             calc j*i.size+n<j*i.size+i.size:=by omega
              _=(j+1)*i.size:=by rw[Nat.add_mul,Nat.one_mul]
              _≤(es.length+news.length)*i.size:=Nat.mul_le_mul_right _ hj
            have hlt2:j*i.size+n<(olds++(us++cur.toList.drop (es.length*i.size+us.length))).length:=by
             simp only[List.length_append,hol,hul];rw[Nat.add_mul] at hlt;omega
            have hget:(olds++(us++cur.toList.drop (es.length*i.size+us.length)))[j*i.size+n]?=some ((olds++(us++cur.toList.drop (es.length*i.size+us.length))).getD (j*i.size+n) undef):=by
             rw[List.getElem?_eq_getElem hlt2];simp[List.getD,List.getElem?_eq_getElem hlt2]
           · simp only[if_true];omega
           · rw[Nat.zero_add,cell_of_row _ _ _ _ _ _ (setRow_heap w g cur _ _ _ hg),holds,List.append_assoc,List.getElem?_toArray]
             exact hget
           · exact hcells _ _ olds _ hol hkp hle hor j e' n x' _ h1 h2 hget
      · refine grown (some ⟨b,off,none⟩) cap olds hq hol hor (run_firstCells_some w.drew i.size es.length _ _ cap olds hol (fun j v hv=> ?_)) (by omega)
        have hj:j<es.length*i.size:=by rw[←hol];exact(List.getElem?_eq_some_iff.1 hv).1
        rw[Addr.add_none,World.cell?_drew,(hcell j hj).1];exact hv
 · have hxv:=hi.ev x
   rw[hx] at hxv
   generalize hq:a.eval x=q at hxv
   cases hxv
   by_cases hm0:news= []
   · subst hm0
     have hus:us= []:=List.eq_nil_of_length_eq_zero (by simpa using hul)
     subst hus
     have hrun:=app_none (ty:=o.type) ht hd hn hi0 hsrc
     obtain⟨hi',mono⟩:=(hi.delTok id).nilTok (fresh_delTok hf) ⟨e,i.size⟩
     refine⟨_,_,_,?_,hi',.row (by simp) .nil⟩
     rw[hexec,hq,hrun];rfl
   · have h1:0<news.length:=List.length_pos_iff.2 hm0
     exact grown none 0 [] hq (by simp) (fun j e n x v h1=>by simp at h1) (by simp[Builtin.firstCells]) (by simpa using h1)
 · have hxv:=hi.ev x
   rw[hx] at hxv
   generalize hq:a.eval x=q at hxv
   cases hxv with
   | @emp base _ hu=>
     subst hu
     have h1:0<news.length:=List.length_pos_iff.2 hm0
     exact grown base 0 [] hq (by simp) (fun j e n x v h1=>by simp at h1) (by cases base with
      |none=>simp[Builtin.firstCells]
      |some ad=>exact run_firstCells_some w.drew i.size 0 _ _ 0 [] (by simp) (fun j v hv=>by simp at hv)) (by simpa using h1)
end
end Go.Abs
