/- Several texts in one, each with its own sentence ahead of it. Conditions: each one says its own. -/
import Derived.Test.YthcjohcakdnmmaaGreatDoorZS2
set_option linter.all false
namespace Go.Abs
variable [Dr]
set_option linter.unusedSectionVars false
open Go.RowKit (Below)
set_option linter.unusedVariables false
def setA(cs:List AV)(off:Nat)(vs:List AV):List AV:=cs.take off++(vs++cs.drop (off+vs.length))
def fillA(place:Nat→Option (Nat×Nat)):List AV→List (Nat×AV)→Option (List AV)
 |cs,[] =>some cs
 |cs,(i,v)::r=>
  match place i with
  |none=>none
  |some (off,size)=>if v.lays && v.cells.length==size && off+size≤cs.length then fillA place (setA cs off v.cells) r else none
theorem foldl_set(off:Nat): ∀(vs:List Value) (k:Nat) (arr:Array Value),off+k+vs.length≤arr.size→
 ((vs.zipIdx k).foldl (fun cs (p:Value×Nat)=>cs.setIfInBounds (off+p.2) p.1) arr).toList=arr.toList.take (off+k)++(vs++arr.toList.drop (off+k+vs.length))
 | [],k,arr,h=>by simp
 |v::vs,k,arr,h=>by
  simp only[List.length_cons] at h
  simp only[List.zipIdx_cons,List.foldl_cons]
  rw[foldl_set off vs (k+1) _ (by simp;omega)]
  apply List.ext_getElem?
  intro i
  simp only[Array.toList_setIfInBounds,List.length_cons,List.getElem?_append,List.length_take,List.length_set,Array.length_toList,List.getElem?_take,List.getElem?_set,List.getElem?_drop]
  by_cases h1:i<off+k
  · have e1:i<min (off+(k+1)) arr.size:=by omega
    have e2:i<min (off+k) arr.size:=by omega
    simp only[e1,e2,if_true]
    rw[if_pos (by omega),if_neg (by omega),if_pos h1]
  · by_cases h2:i=off+k
    · subst h2
      have e1:off+k<min (off+(k+1)) arr.size:=by omega
      have e2: ¬off+k<min (off+k) arr.size:=by omega
      simp only[e1,e2,if_true,if_false]
      rw[if_pos (by omega)]
      have e3:off+k - min (off+k) arr.size=0:=by omega
      have e4:off+k<arr.size:=by omega
      simp[e3,e4]
    · have e1: ¬i<min (off+(k+1)) arr.size:=by omega
      have e2: ¬i<min (off+k) arr.size:=by omega
      simp only[e1,e2,if_false]
      have e3:i - min (off+k) arr.size=(i - min (off+(k+1)) arr.size)+1:=by omega
      rw[e3]
      simp only[List.getElem?_cons_succ,Nat.add_lt_add_iff_right]
      split
      · rfl
      · rw[if_neg (by omega)]
        congr 1
        omega
theorem fill_rel{E:Env}{w:World}{place:Nat→Option (Nat×Nat)}: ∀(parts:List (Nat×AV)) (pv:List (Nat×Value)) (cs cs':List AV) (arr:Array Value),
 RelL E w cs arr.toList→(∀u∈arr.toList,u.oneCell'=true)→pv.length=parts.length→(∀(n:Nat) (p:Nat×AV) (q:Nat×Value),parts[n]?=some p→pv[n]?=some q→q.1=p.1∧RepA E w p.2 q.2)→
 fillA place cs parts=some cs'→ ∃arr':Array Value,Instr.fill place arr pv=some arr'∧RelL E w cs' arr'.toList∧ ∀u∈arr'.toList,u.oneCell'=true
 | [],pv,cs,cs',arr,hr,h1,hl,hp,hf=>by
   simp[fillA] at hf;subst hf
   have:pv= []:=List.eq_nil_of_length_eq_zero (by simpa using hl)
   subst this
   exact⟨arr,rfl,hr,h1⟩
 |(i,v)::parts,pv,cs,cs',arr,hr,h1,hl,hp,hf=>by
  match pv,hl with
  |(i',u)::pv,hl=>
   obtain⟨he,hv⟩:=hp 0 (i,v) (i',u) rfl rfl
   simp only at he hv
   subst he
   simp only[fillA] at hf
   cases hpl:place i' with
   |none=>rw[hpl] at hf;simp at hf
   |some q=>
    obtain⟨off,size⟩:=q
    rw[hpl] at hf
    simp only at hf
    split at hf
    · rename_i hc
      simp only[Bool.and_eq_true,beq_iff_eq,decide_eq_true_eq] at hc
      obtain⟨⟨hlay,hsz⟩,hle⟩:=hc
      obtain⟨hrv,h1v⟩:=hv.lay hlay
      have hul:u.cells.toList.length=size:=by rw[hrv.1,hsz]
      have hal:arr.size=cs.length:=by rw[←hr.1];simp
      have hus:u.cells.size=size:=by simpa using hul
      have hfold:(u.cells.zipIdx.foldl (fun cs (x:Value×Nat)=>cs.setIfInBounds (off+x.2) x.1) arr).toList=arr.toList.take off++(u.cells.toList++arr.toList.drop (off+u.cells.toList.length)):=by
       rw[←Array.foldl_toList]
       have:=foldl_set off u.cells.toList 0 arr (by rw[hul];omega)
       simpa using this
      have hnew:RelL E w (setA cs off v.cells) (u.cells.zipIdx.foldl (fun cs (x:Value×Nat)=>cs.setIfInBounds (off+x.2) x.1) arr).toList:=by
       rw[hfold]
       unfold setA
       have:=(hr.take off).append (hrv.append (hr.drop (off+v.cells.length)))
       rw[hsz] at this⊢
       rw[hul];exact this
      have hnew1: ∀x∈(u.cells.zipIdx.foldl (fun cs (x:Value×Nat)=>cs.setIfInBounds (off+x.2) x.1) arr).toList,x.oneCell'=true:=by
       rw[hfold]
       intro x hx
       rcases List.mem_append.1 hx with hx|hx
       · exact h1 x (List.mem_of_mem_take hx)
       · rcases List.mem_append.1 hx with hx|hx
         · exact h1v x hx
         · exact h1 x (List.mem_of_mem_drop hx)
      obtain⟨arr',ha,hb,hc⟩:=fill_rel parts pv _ cs' _ hnew hnew1 (by simpa using hl) (fun n p q h2 h3=>hp (n+1) p q (by simpa using h2) (by simpa using h3)) hf
      refine⟨arr',?_,hb,hc⟩
      simp only[Instr.fill,hpl]
      rw[if_neg (by simp[hus];omega)]
      exact ha
    · cases hf
def placesOf(P:Program)(t:TypeId):Option (List (Nat×Nat)):=
 match P.underlying t with
 |some (.struct fs)=>fs.toList.mapM (fun f=>(P.info? f.type).map fun i=>(f.offset,i.size))
 |_=>none
def zeroCellsOf(P:Program)(t:TypeId):Option (List Value):=((P.info? t).bind (·.zero)).map (·.cells.toList)
section
variable {P:Program}{c:Ctx}{st:St}{ops:Array Oper}{Q:Exit→Act→World→Prop}{rest:List Oper}{o:Oper}
theorem parts_rep{E:Env}{a:Act}{w:World}(hi:Inv c E st a w)(parts:Array (Nat×Operand))(n:Nat)(p:Nat×AV)(q:Nat×Value)
 (h1:(parts.toList.map fun x=>(x.1,st.ev x.2))[n]?=some p) (h2:(parts.map fun(i,x)=>(i,a.eval x)).toList[n]?=some q):q.1=p.1∧RepA E w p.2 q.2:=by
 simp only[List.getElem?_map,Array.toList_map] at h1 h2
 cases hx:parts.toList[n]? with
 |none=>rw[hx] at h1;simp at h1
 |some x=>
  rw[hx] at h1 h2
  simp at h1 h2
  subst h1;subst h2
  exact⟨rfl,hi.ev x.2⟩
theorem Yields.build{t:TypeId}{parts:Array (Nat×Operand)}{zs:List Value}{pl:List (Nat×Nat)}{cs:List AV}(ho:o.op= .build t parts)(hz:zeroCellsOf P t=some zs)(h1:zs.all (·.oneCell')=true)
 (hp:placesOf P t=some pl) (hf:fillA (pl[·]?) (zs.map constCell) (parts.toList.map fun x=>(x.1,st.ev x.2))=some cs):Yields P c st o (.agg cs):=fun E a w hi=>by
 obtain⟨arr,ha,hr,h1'⟩:=fill_rel (E:=E) (w:=w) _ (parts.map fun(i,x)=>(i,a.eval x)).toList _ _ zs.toArray (by simpa using RelL.consts E w zs h1) (by simpa using List.all_eq_true.1 h1)
  (by simp) (fun n p q=>parts_rep hi parts n p q) hf
 have hb:P.built t (parts.map fun(i,x)=>(i,a.eval x)).toList=some arr:=by
  unfold placesOf at hp
  unfold zeroCellsOf at hz
  split at hp
  · rename_i fs hu
    unfold Program.built
    cases hi':P.info? t with
    |none=>simp[hi'] at hz
    |some i=>
     simp only[hi',Option.bind_some,Option.map_eq_some_iff] at hz
     obtain⟨z,hz1,hz2⟩:=hz
     simp only[hu,hz1,hp]
     have e1:z.cells=zs.toArray:=by rw[←hz2]
     rw[e1,←ha]
     congr 1
     funext i
     simp
  · cases hp
 refine⟨.agg arr,by simp only[execOp,ho,run_build w t _ _ hb,Sem.run_bind,Result.andThen_ok,Sem.run_pure],?_⟩
 have:=hr.agg h1'
 simpa using this
def AV.toI:AV→Option IV
 | .iv x=>some x
 | .nils=>some (.sl [])
 | .emp=>some (.sl [])
 | .row _ es=>some (.sl es)
 |_=>none
theorem RepA.toI{E:Env}{w:World}{v:AV}{x:IV}{u:Value}(h:RepA E w v u)(hx:v.toI=some x):RepI E.φ w x u:=by
 cases v<;>simp only[AV.toI] at hx<;>try (cases hx;done)
 · cases hx;exact h.iv_inv
 · cases hx;cases h;exact .nil
 · cases hx;cases h with|emp hu=>subst hu;exact .emp (fun _=>rfl) (Nat.zero_le _)
 · cases hx;cases h with|row hu h=>exact h
def toIs:List AV→Option (List IV)
 | [] =>some []
 |v::vs=>match v.toI,toIs vs with
  |some x,some xs=>some (x::xs)
  |_,_=>none
theorem toIs_get: ∀{vs:List AV} {xs:List IV},toIs vs=some xs→xs.length=vs.length∧ ∀(i:Nat) (v:AV) (x:IV),vs[i]?=some v→xs[i]?=some x→v.toI=some x
 | [],xs,h=>by simp[toIs] at h;subst h;exact⟨rfl,fun i v x h=>by simp at h⟩
 |v::vs,xs,h=>by
  simp only[toIs] at h
  split at h
  · rename_i x xs' hx hxs
    cases h
    obtain⟨hl,hg⟩:=toIs_get hxs
    refine⟨by simp[hl],fun i v' x' hv hx'=> ?_⟩
    cases i with
    |zero=>simp at hv hx';subst hv;subst hx';exact hx
    |succ i=>exact hg i v' x' (by simpa using hv) (by simpa using hx')
  · cases h
def chunks(k:Nat):Nat→List IV→List (List IV)
 |0,_=> []
 |n+1,xs=>xs.take k::chunks k n (xs.drop k)
theorem chunks_get(k:Nat): ∀(n:Nat) (xs:List IV) (i:Nat) (e:List IV),(chunks k n xs)[i]?=some e→e=(xs.drop (i*k)).take k
 |0,xs,i,e,h=>by simp[chunks] at h
 |n+1,xs,0,e,h=>by simp[chunks] at h;simp[h]
 |n+1,xs,i+1,e,h=>by
  have:=chunks_get k n (xs.drop k) i e (by simpa[chunks] using h)
  rw[this,List.drop_drop,Nat.add_mul,Nat.one_mul,Nat.add_comm k]
theorem chunks_length(k:Nat): ∀(n:Nat) (xs:List IV),(chunks k n xs).length=n
 |0,_=>rfl
 |n+1,xs=>by simp[chunks,chunks_length]
theorem Makes.buildSlice{t e:TypeId}{n k id:Nat}{parts:Array (Nat×Operand)}{zs:List Value}{cs:List AV}{xs:List IV}(ho:o.op= .buildSlice t n parts)(hs:sliceOk P t e k=true)
 (hz:zeroCellsOf P e=some zs) (h1:zs.all (·.oneCell')=true) (hzl:zs.length=k) (hn:n*k≤16777216) (hnk:0<k)
 (hf:fillA (fun i=>some (i*k,k)) ((List.range (n*k)).map fun i=>constCell (zs.getD (i % k) undef)) (parts.toList.map fun x=>(x.1,st.ev x.2))=some cs)
 (hx:toIs cs=some xs) (hcl:cs.length=n*k) (hfr:st.fresh id=true):Makes P c st o (.row id (chunks k n xs)) st.bx ((id,⟨e,k⟩)::st.tk):=fun E a w hi=>by
 obtain⟨hu,inf,hinf,hsz⟩:=sliceOk_run hs
 have hz0: ∃z,inf.zero=some z∧z.cells=zs.toArray:=by
  unfold zeroCellsOf at hz
  simp only[hinf,Option.bind_some,Option.map_eq_some_iff] at hz
  obtain⟨z,hz1,hz2⟩:=hz
  exact⟨z,hz1,by rw[←hz2]⟩
 obtain⟨z,hz1,hz2⟩:=hz0
 have hget: ∀i,i<n*k→zs.toArray[i % zs.toArray.size]! =zs.getD (i % k) undef:=fun i hi=>by
  have:i % k<zs.length:=by rw[hzl];exact Nat.mod_lt _ hnk
  simp[hzl]
  rw[List.getElem?_eq_getElem this];rfl
 have hinit:((Array.range (n*k)).map (zs.toArray[· % zs.toArray.size]!))=((List.range (n*k)).map fun i=>zs.getD (i % k) undef).toArray:=by
  apply Array.ext'
  simp only[Array.toList_map,Array.toList_range]
  exact List.map_congr_left (fun i hi=>hget i (List.mem_range.1 hi))
 have hone: ∀i,i<n*k→(zs.getD (i % k) undef).oneCell'=true:=fun i hi=>by
  have hlt:i % k<zs.length:=by rw[hzl];exact Nat.mod_lt _ hnk
  have:zs.getD (i % k) undef=zs[i % k]:=by simp[hlt]
  rw[this];exact List.all_eq_true.1 h1 _ (List.getElem_mem hlt)
 have hrel:RelL E w ((List.range (n*k)).map fun i=>constCell (zs.getD (i % k) undef)) ((List.range (n*k)).map fun i=>zs.getD (i % k) undef):=by
  refine⟨by simp,fun i c u hc hu=> ?_⟩
  simp only[List.getElem?_map] at hc hu
  cases hr:(List.range (n*k))[i]? with
  |none=>rw[hr] at hc;simp at hc
  |some j=>
   rw[hr] at hc hu
   simp only[Option.map_some,Option.some.injEq] at hc hu
   subst hc;subst hu
   exact constCell_rep E w _ (hone j (List.mem_range.1 (List.mem_of_getElem? hr)))
 obtain⟨arr,ha,hr,h1'⟩:=fill_rel (E:=E) (w:=w) _ (parts.map fun(i,x)=>(i,a.eval x)).toList _ _ ((List.range (n*k)).map fun i=>zs.getD (i % k) undef).toArray (by simpa using hrel)
  (fun u hu=>by
    simp only[List.mem_map,List.mem_range] at hu
    obtain⟨i,hi',rfl⟩:=hu
    exact hone i hi')
  (by simp) (fun n p q=>parts_rep hi parts n p q) hf
 obtain⟨hxl,hxg⟩:=toIs_get hx
 have hlen: ∀(i:Nat) (e':List IV),(chunks k n xs)[i]?=some e'→e'.length=k:=fun i e' he=>by
  have hlt:=(List.getElem?_eq_some_iff.1 he).1
  rw[chunks_length] at hlt
  rw[chunks_get k n xs i e' he]
  simp only[List.length_take,List.length_drop,hxl,hcl]
  have:(i+1)*k≤n*k:=Nat.mul_le_mul_right k hlt
  rw[Nat.add_mul,Nat.one_mul] at this
  omega
 obtain⟨E',hi',hv⟩:=hi.newRow hfr (ty:=e) (k:=k) (cap:=n) (es:=chunks k n xs) (us:=arr.toList) hlen (by rw[hr.1,hcl]) (by rw[chunks_length];exact Nat.le_refl _) (by have:n≤n*k:=Nat.le_mul_of_pos_right n hnk;simp only[maxLen];omega)
  (fun i e' j x u he hj hu=>by
    rw[chunks_get k n xs i e' he] at hj
    rw[List.getElem?_take] at hj
    split at hj
    · rw[List.getElem?_drop] at hj
      have hlt:i*k+j<cs.length:=by rw[←hxl];exact(List.getElem?_eq_some_iff.1 hj).1
      exact(hr.2 _ _ u (List.getElem?_eq_getElem hlt) hu).toI (hxg _ _ x (List.getElem?_eq_getElem hlt) hj)
    · cases hj)
 rw[chunks_length] at hv
 refine⟨_,E',_,?_,hi',hv⟩
 have hbig: ¬(n*k>2 ^ 24):=by omega
 have hfill:Instr.fill (fun i=>some (i*k,k)) ((Array.range (n*k)).map (zs.toArray[· % zs.toArray.size]!)) (parts.map fun(i,x)=>(i,a.eval x)).toList=some arr:=by rw[hinit];exact ha
 have hat:arr.toList.toArray=arr:=by simp
 rw[hat]
 by_cases h0:n*k=0
 · have:n=0:=by
    rcases Nat.mul_eq_zero.1 h0 with h|h
    · exact h
    · omega
   subst this
   have e0:Array.range 0= #[]:=rfl
   have hfill':Instr.fill (fun i=>some (i*k,k)) #[] (parts.map fun(i,x)=>(i,a.eval x)).toList=some arr:=by simpa[e0] using hfill
   simp only[Array.toList_map] at hfill'
   simp[execOp,ho,Instr.buildSlice,run_underlying hu,sizeOf,typeInfo,hinf,hsz,newRow,e0,hfill']
 · simp only[execOp,ho,Instr.buildSlice,Sem.run_bind,run_underlying hu,sizeOf,typeInfo,zeroValue,run_program,hinf,hsz,hz1,hz2,Result.andThen_ok,Sem.run_pure,hbig,h0,if_false,hfill,newRow,run_newObj,Sem.run_ite]
   rfl
end
end Go.Abs
namespace Go.Abs
variable [Dr]
set_option linter.unusedSectionVars false
open Go.RowKit (Below)
set_option linter.unusedVariables false
theorem lookup_filter_ne{β:Type}{p:Nat→Bool}: ∀{l:List (Nat×β)} {s:Nat} {v:β},(l.filter (fun q=>p q.1)).lookup s=some v→p s=true
 | [],s,v,h=>by simp at h
 |(t,u)::l,s,v,h=>by
  by_cases hp:p t=true
  · by_cases e:s=t
    · rw[e];exact hp
    · have e':(s==t)=false:=by simpa using e
      exact lookup_filter_ne (l:=l) (by simpa[List.filter_cons,hp,List.lookup,e'] using h)
  · simp only[Bool.not_eq_true] at hp
    exact lookup_filter_ne (l:=l) (by simpa[List.filter_cons,hp] using h)
def delTok(id:Nat)(tk:List (Nat×Tok)):List (Nat×Tok):=tk.filter (fun p=>(fun n=>n !=id) p.1)
theorem delTok_get{id j:Nat}{tk:List (Nat×Tok)}{t:Tok}(h:(delTok id tk).lookup j=some t):j≠id∧tk.lookup j=some t:=
 ⟨by simpa using lookup_filter_ne (p:=fun n=>n !=id) h,lookup_filter_key (fun n=>n !=id) tk j t h⟩
theorem cell_setRow_ne(w:World)(g:Nat)(cs:Array Value)(b o:Nat)(h:b≠g):(w.setRow g cs).cell? ⟨b,o,none⟩=w.cell? ⟨b,o,none⟩:=cell_setRow_other w g cs ⟨b,o,none⟩ h
section
variable {c:Ctx}{E:Env}{st:St}{a:Act}{w:World}
theorem HInv.recell{bx:List (Nat×Box)}{tk:List (Nat×Tok)}(h:HInv c E bx tk w){id:Nat}{b b':Box}(hb:bx.lookup id=some b)(ht:b.ty=b'.ty)(hc:Subs b.cs b'.cs):HInv c E ((id,b')::bx) tk w:=by
 refine HInv.wk (st:=⟨[],bx,tk⟩) (st':=⟨[],(id,b')::bx,tk⟩) h ⟨fun i hin=> ?_,fun s v hv=>by simp at hv,fun i b1 hi=> ?_,fun i t h=>h⟩
 · by_cases e:i=id
   · subst e;show(List.lookup i ((i,b')::bx)).isSome=true;rw[lookup_cons_eq];rfl
   · show(List.lookup i ((id,b')::bx)).isSome=true;rw[lookup_cons_ne e];exact(h.ins i hin).2.2
 · have hi:List.lookup i ((id,b')::bx)=some b1:=hi
   by_cases e:i=id
   · subst e;rw[lookup_cons_eq] at hi;cases hi;exact⟨b,hb,ht,hc⟩
   · rw[lookup_cons_ne e] at hi;exact⟨b1,hi,rfl,Subs.refl _⟩
theorem Inv.setBox(hi:Inv c E st a w){id:Nat}{b:Box}(hb:st.bx.lookup id=some b)(hbn:b.cs≠ []){arr rest:List Value}(ha:w.heap[E.ρ id]?=some (.cells (arr++rest).toArray b.ty (0,0)))
 (h1r: ∀u∈rest,u.oneCell'=true) {cs:List AV} {us:List Value} (hl:us.length=arr.length) (hr:RelL E w cs us) (h1: ∀u∈us,u.oneCell'=true):
 Inv c E ⟨st.fr,(id,⟨b.ty,cs⟩)::st.bx,st.tk⟩ a (w.setRow (E.ρ id) (us++rest).toArray):=by
 obtain⟨h0,arr0,ha0,hla,h1a,hra,hq⟩:=hi.heap.box id b hb hbn
 have hk:Keeps E.φ w (w.setRow (E.ρ id) (us++rest).toArray):=fun b' o ho=>by
  have:b'≠E.ρ id:=fun e=>by rw[e,h0] at ho;cases ho
  exact cell_setRow_ne w _ _ _ _ this
 have hlt:E.ρ id<w.heap.size:=(Array.getElem?_eq_some_iff.1 ha).1
 have hsz:arr0.length=(us++rest).length:=by
  rw[ha] at ha0
  simp only[Option.some.injEq,Obj.cells.injEq] at ha0
  have h9:arr++rest=arr0:=congrArg Array.toList ha0.1
  rw[←h9,List.length_append,List.length_append,hl]
 refine⟨hi.defers,hi.size,fun s v hv=>(hi.slot s v hv).keep hk,⟨fun i b' hb' hn=> ?_,fun i t ht=> ?_,fun i j b1 b2 hi' hj hn hn' he=> ?_,hi.heap.tt,fun i j b1 t hi' hn hj=> ?_,fun i b1 hi' hn=> ?_,hi.heap.ownt,fun b' hb'=> ?_,hi.heap.old,fun i hin=> ?_,?_⟩⟩
 · by_cases e:i=id
   · subst e;rw[lookup_cons_eq] at hb';cases hb'
     refine⟨h0,us++rest,?_,?_,?_,fun i x u hx hu=> ?_,fun k cap he=>by rw[←hsz];exact hq k cap he⟩
     · exact setRow_heap w _ _ _ _ _ ha
     · rw[List.length_append,hr.1];exact Nat.le_add_right _ _
     · intro u hu
       rcases List.mem_append.1 hu with hu|hu
       · exact h1 u hu
       · exact h1r u hu
     · have hlt':=(List.getElem?_eq_some_iff.1 hx).1
       rw[List.getElem?_append_left (by rw[hr.1];exact hlt')] at hu
       exact(hr.2 i x u hx hu).keep hk
   · rw[lookup_cons_ne e] at hb'
     obtain⟨h0',arr',ha',hla',h1a',hra',hq'⟩:=hi.heap.box i b' hb' hn
     refine⟨h0',arr',?_,hla',h1a',fun i x u hx hu=>(hra' i x u hx hu).keep hk,hq'⟩
     rw[setRow_other w _ _ _ (fun e'=>e (hi.heap.bb i id b' b hb' hb hn hbn e'))];exact ha'
 · rcases hi.heap.tok i t ht with hn|⟨g,n,cap,cur,hv,hg,rest⟩
   · exact .inl hn
   · refine .inr ⟨g,n,cap,cur,hv,?_,rest⟩
     rw[setRow_other w _ _ _ (fun e'=>hi.heap.bt id i b t hb hbn ht (by rw[hv];simp[Value.ownBlock,e']))];exact hg
 · have f: ∀(i:Nat) (b1:Box),List.lookup i ((id,⟨b.ty,cs⟩)::st.bx)=some b1→b1.cs≠ [] → ∃b2,st.bx.lookup i=some b2∧b2.cs≠ []:=fun i b1 h hn=>by
    by_cases e:i=id
    · subst e;exact⟨b,hb,hbn⟩
    · rw[lookup_cons_ne e] at h;exact⟨b1,h,hn⟩
   obtain⟨b3,h3,n3⟩:=f i b1 hi' hn
   obtain⟨b4,h4,n4⟩:=f j b2 hj hn'
   exact hi.heap.bb i j b3 b4 h3 h4 n3 n4 he
 · by_cases e:i=id
   · subst e;exact hi.heap.bt i j b t hb hbn hj
   · rw[lookup_cons_ne e] at hi';exact hi.heap.bt i j b1 t hi' hn hj
 · by_cases e:i=id
   · subst e;exact hi.heap.own i b hb hbn
   · rw[lookup_cons_ne e] at hi';exact hi.heap.own i b1 hi' hn
 · exact hi.heap.new b' (by simpa using hb')
 · obtain⟨e1,e2,e3⟩:=hi.heap.ins i hin
   refine⟨e1,e2,?_⟩
   by_cases e:i=id
   · subst e;rw[lookup_cons_eq];rfl
   · rw[lookup_cons_ne e];exact e3
 · refine hi.heap.kept.next rfl rfl rfl (by simp) (fun k hk' hm=> ?_)
   have:k≠E.ρ id:=fun e=>by
    rcases hi.heap.own id b hb hbn with h|h
    · omega
    · rw[←e] at h;exact hm h
   exact setRow_other w _ _ _ this
theorem Inv.growRow(hi:Inv c E st a w){id id':Nat}(hf:st.fresh id'=true){t:Tok}(ht:st.tk.lookup id=some t){g n n' cap:Nat}{cur cur':Array Value}(hv:E.η id= .slice (some ⟨g,0,none⟩) n cap)
 (hg:w.heap[g]?=some (.cells cur t.ty (0,0))) (hφ:E.φ g≤n*t.k) (hs:cap*t.k≤cur'.size) (hsame: ∀o,o<n*t.k→cur'[o]?=cur[o]?) (hn:n≤n') (hc:n'≤cap) (hm:cap≤maxLen):
 Inv c ⟨fun b=>if b=g then n'*t.k else E.φ b,E.ρ,fun i=>if i=id' then .slice (some ⟨g,0,none⟩) n' cap else E.η i⟩ ⟨st.fr,st.bx,(id',t)::delTok id st.tk⟩ a (w.setRow g cur')∧
  Keeps E.φ w (w.setRow g cur')∧ ∀b,E.φ b≤(if b=g then n'*t.k else E.φ b):=by
 have hk:Keeps E.φ w (w.setRow g cur'):=fun b o ho=>by
  by_cases e:b=g
  · subst e
    rw[cell_of_row _ _ _ _ _ _ (setRow_heap w b cur cur' _ _ hg),cell_of_row w _ _ _ _ _ hg]
    exact hsame o (by omega)
  · exact cell_setRow_ne w _ _ _ _ e
 have hle: ∀b,E.φ b≤(if b=g then n'*t.k else E.φ b):=fun b=>by
  split
  · rename_i e;subst e;exact Nat.le_trans hφ (Nat.mul_le_mul_right _ hn)
  · exact Nat.le_refl _
 have hlt:g<w.heap.size:=(Array.getElem?_eq_some_iff.1 hg).1
 have hown:(E.η id).ownBlock=some g:=by rw[hv];rfl
 have hidne:id≠id':=St.fresh_tk hf ht
 have mono: ∀(x:AV) (u:Value),AV.ment id' x=false→RepA E w x u→RepA ⟨fun b=>if b=g then n'*t.k else E.φ b,E.ρ,fun i=>if i=id' then .slice (some ⟨g,0,none⟩) n' cap else E.η i⟩ (w.setRow g cur') x u:=fun x u hm hr=>
  hr.mono hk hle (fun i hi'=>by
    have:i≠id':=fun e=>by subst e;rw[hm] at hi';cases hi'
    exact⟨rfl,by simp[this]⟩)
 refine⟨⟨hi.defers,hi.size,fun s v hv=>mono v _ (St.fresh_fr hf hv) (hi.slot s v hv),?_⟩,hk,hle⟩
 have base:HInv c ⟨fun b=>if b=g then n'*t.k else E.φ b,E.ρ,fun i=>if i=id' then .slice (some ⟨g,0,none⟩) n' cap else E.η i⟩ st.bx (delTok id st.tk) (w.setRow g cur'):=by
  have hη: ∀i,i≠id'→(if i=id' then Value.slice (some ⟨g,0,none⟩) n' cap else E.η i)=E.η i:=fun i h=>by simp[h]
  refine⟨fun i b hb hn=> ?_,fun i t' ht'=> ?_,hi.heap.bb,fun i j t1 t2 g' hi' hj h1 h2=> ?_,fun i j b t1 hb hn hj=> ?_,hi.heap.own,fun j t1 g' hj hg'=> ?_,fun b hb=> ?_,fun b hb=> ?_,fun i hin=> ?_,?_⟩
  · obtain⟨h0,arr,ha,hl,h1,hr,hq⟩:=hi.heap.box i b hb hn
    have hne:E.ρ i≠g:=fun e=>hi.heap.bt i id b t hb hn ht (by rw[hown,e])
    refine⟨by simp only;rw[if_neg hne];exact h0,arr,by rw[setRow_other w _ _ _ hne];exact ha,hl,h1,fun k x u hx hu=>mono x u (AV.ments_false (St.fresh_bx hf hb).2 k x hx) (hr k x u hx hu),fun k cap he=>hq k cap (by simpa only[hη i (St.fresh_bx hf hb).1] using he)⟩
  · obtain⟨hne,hl⟩:=delTok_get ht'
    have hne':=St.fresh_tk hf hl
    rcases hi.heap.tok i t' hl with hn'|⟨g',m,cap',cur1,hv',hg',r1,r2,r3,r4⟩
    · exact .inl (by simp only;rw[hη i hne'];exact hn')
    · have hgg:g'≠g:=fun e=>hne (hi.heap.tt i id t' t g hl ht (by rw[hv',e];rfl) hown)
      exact .inr ⟨g',m,cap',cur1,by simp only;rw[hη i hne'];exact hv',by rw[setRow_other w _ _ _ hgg];exact hg',r1,r2,r3,by simp only;rw[if_neg hgg];exact r4⟩
  · obtain⟨n1,l1⟩:=delTok_get hi'
    obtain⟨n2,l2⟩:=delTok_get hj
    simp only at h1 h2
    rw[hη i (St.fresh_tk hf l1)] at h1
    rw[hη j (St.fresh_tk hf l2)] at h2
    exact hi.heap.tt i j t1 t2 g' l1 l2 h1 h2
  · obtain⟨n2,l2⟩:=delTok_get hj
    simp only
    rw[hη j (St.fresh_tk hf l2)]
    exact hi.heap.bt i j b t1 hb hn l2
  · obtain⟨n2,l2⟩:=delTok_get hj
    simp only at hg'
    rw[hη j (St.fresh_tk hf l2)] at hg'
    exact hi.heap.ownt j t1 g' l2 hg'
  · simp only
    have hb':w.heap.size≤b:=by simpa using hb
    rw[if_neg (by omega)]
    exact hi.heap.new b hb'
  · simp only
    have:c.w0.heap.size≤g:=hi.heap.ownt id t g ht hown
    rw[if_neg (by omega)]
    exact hi.heap.old b hb
  · obtain⟨e1,e2,e3⟩:=hi.heap.ins i hin
    obtain⟨b,hb⟩:=Option.isSome_iff_exists.1 e3
    exact⟨e1,(hη i (St.fresh_bx hf hb).1).trans e2,e3⟩
  · refine hi.heap.kept.next rfl rfl rfl (by simp) (fun k hk' hm=> ?_)
    have:c.w0.heap.size≤g:=hi.heap.ownt id t g ht hown
    exact setRow_other w _ _ _ (by omega)
 have hid:(if id'=id' then Value.slice (some ⟨g,0,none⟩) n' cap else E.η id')= .slice (some ⟨g,0,none⟩) n' cap:=by simp
 refine base.addTok ?_ ?_ ?_ ?_
 · exact .inr ⟨g,n',cap,cur',hid,setRow_heap w g cur cur' _ _ hg,hc,hm,hs,by simp⟩
 · intro j t' g' hne hj hg'
   show(if id'=id' then Value.slice (some ⟨g,0,none⟩) n' cap else E.η id').ownBlock≠some g'
   rw[hid]
   obtain⟨n2,l2⟩:=delTok_get hj
   simp only[hne,if_false] at hg'
   intro e
   simp only[Value.ownBlock,Option.some.injEq] at e
   subst e
   exact n2 (hi.heap.tt j id t' t g l2 ht hg' hown)
 · intro i b hb hn
   show(if id'=id' then Value.slice (some ⟨g,0,none⟩) n' cap else E.η id').ownBlock≠some (E.ρ i)
   rw[hid]
   intro e
   simp only[Value.ownBlock,Option.some.injEq] at e
   exact hi.heap.bt i id b t hb hn ht (by rw[hown,e])
 · intro g' hg'
   have hg2:(if id'=id' then Value.slice (some ⟨g,0,none⟩) n' cap else E.η id').ownBlock=some g':=hg'
   rw[hid] at hg2
   simp only[Value.ownBlock,Option.some.injEq] at hg2
   subst hg2;exact hi.heap.ownt id t g ht hown
end
section
variable {P:Program}{c:Ctx}{st:St}{ops:Array Oper}{Q:Exit→Act→World→Prop}{rest:List Oper}{o:Oper}
def Does(P:Program)(c:Ctx)(st:St)(o:Oper)(bx:List (Nat×Box))(tk:List (Nat×Tok)):Prop:=
 ∀(E:Env) (a:Act) (w:World),Inv c E st a w→ ∃(E':Env) (w':World),(execOp a.eval o).run P w= .ok .skip w'∧Inv c E' ⟨st.fr,bx,tk⟩ a w'
theorem L.does{bx:List (Nat×Box)}{tk:List (Nat×Tok)}(hg:o.guard=none)(hd:o.dst=none)(hy:Does P c st o bx tk)
 (h:L c ⟨st.fr,bx,tk⟩ (wpList P ops Q rest)):L c st (wpList P ops Q (o::rest)):=by
 rintro a w ⟨E,hi⟩
 obtain⟨E',w',hr,hi'⟩:=hy E a w hi
 refine wpList_plain hg (fun K hK=> ?_)
 unfold Oper.wp
 rw[hr]
 simp only[Oper.upon_skip,hd,Act.put]
 exact hK _ _ (h _ _ ⟨E',hi'⟩)
theorem Does.store{t:TypeId}{x y:Operand}{id off k:Nat}{b:Box}{v:AV}{agg:Bool}(ho:o.op= .store t x y)(ht:varOk P t agg k=true)(hx:st.ev x= .ptr id off)(hb:st.bx.lookup id=some b)
 (hy:st.ev y=v) (hv:v.lays=true) (hk:v.cells.length=k) (hle:off+k≤b.cs.length):Does P c st o ((id,⟨b.ty,setA b.cs off v.cells⟩)::st.bx) st.tk:=fun E a w hi=>by
 obtain⟨arr,rest,ha,hr,h1,h1r,hc⟩:=hi.boxCell hb
 have hyv:=hi.ev y
 rw[hy] at hyv
 obtain⟨hrv,h1v⟩:=hyv.lay hv
 have hul:(a.eval y).cells.toList.length=k:=by rw[hrv.1,hk]
 have hnew:RelL E w (setA b.cs off v.cells) (arr.take off++((a.eval y).cells.toList++arr.drop (off+k))):=by
  unfold setA;rw[hk];exact(hr.take off).append (hrv.append (hr.drop (off+k)))
 by_cases hbn:b.cs= []
 ·
  have hk0:k=0:=by rw[hbn] at hle;simp at hle;omega
  have ho0:off=0:=by rw[hbn] at hle;simp at hle;omega
  have he:(a.eval y).cells= #[]:=by
   apply Array.ext';exact List.eq_nil_of_length_eq_zero (by rw[hul,hk0])
  have hv0:v.cells= []:=List.eq_nil_of_length_eq_zero (by rw[hk,hk0])
  refine⟨E,w,?_,?_⟩
  · simp[execOp,ho,hi.ptr hx,Instr.storeAt,Instr.sureAddr,storeVar,(varOk_agg ht w).2,he,hk0,storeCells]
  · have hb':setA b.cs off v.cells=b.cs:=by rw[hbn,hv0,ho0];rfl
    exact⟨hi.defers,hi.size,hi.slot,hi.heap.recell hb rfl (by rw[Box.cs_l,hb'];exact Subs.refl _)⟩
 have hrun:=run_storeCells_at P (E.ρ id) off b.ty (a.eval y).cells.toList 0 (arr++rest).toArray w (ha hbn) (by rw[hul];simp[hr.1];omega) h1v
 refine⟨E,_,?_,hi.setBox hb hbn (ha hbn) h1r (us:=arr.take off++((a.eval y).cells.toList++arr.drop (off+k))) ?_ hnew ?_⟩
 · have hsz:(a.eval y).cells.size=k:=by simpa using hul
   have hrun':(storeCells ⟨E.ρ id,off,none⟩ (a.eval y).cells.toList).run P w= .ok () (w.setRow (E.ρ id) ((arr.take off++((a.eval y).cells.toList++arr.drop (off+k)))++rest).toArray):=by
    have h1:off+k≤arr.length:=by rw[hr.1];exact hle
    rw[hrun];simp only[Nat.add_zero,hul,List.append_assoc]
    rw[List.take_append_of_le_length (by omega),List.drop_append_of_le_length h1]
   simp[execOp,ho,hi.ptr hx,Instr.storeAt,Instr.sureAddr,storeVar,(varOk_agg ht w).2,hsz,hrun']
 · have h1:off+k≤arr.length:=by rw[hr.1];exact hle
   simp only[List.length_append,List.length_take,List.length_drop,hul];omega
 · intro u hu
   rcases List.mem_append.1 hu with hu|hu
   · exact h1 u (List.mem_of_mem_take hu)
   · rcases List.mem_append.1 hu with hu|hu
     · exact h1v u hu
     · exact h1 u (List.mem_of_mem_drop hu)
end
end Go.Abs
