/- Several texts in one, each with its own sentence ahead of it. Conditions: each one says its own. -/
import Derived.Test.YthcjohcakdnmmaaGreatDoorZS8
set_option linter.all false
namespace Go.Abs
variable [Dr]
set_option linter.unusedSectionVars false
open Go.RowKit (Below)
set_option linter.unusedVariables false
theorem flat_take{α:Type}{k:Nat}: ∀(es:List (List α)) (i:Nat),(∀e∈es,e.length=k)→es.flatten.take (i*k)=(es.take i).flatten
 | [],i,_=>by simp
 |e::es,0,_=>by simp
 |e::es,i+1,h=>by
  have he:e.length=k:=h e List.mem_cons_self
  rw[List.flatten_cons,List.take_append,List.take_of_length_le (by rw[he,Nat.add_mul];omega),he,show(i+1)*k - k=i*k by rw[Nat.add_mul];omega,flat_take es i (fun e h'=>h e (List.mem_cons_of_mem _ h'))]
  simp
theorem flat_drop{α:Type}{k:Nat}: ∀(es:List (List α)) (i:Nat),(∀e∈es,e.length=k)→es.flatten.drop (i*k)=(es.drop i).flatten
 | [],i,_=>by simp
 |e::es,0,_=>by simp
 |e::es,i+1,h=>by
  have he:e.length=k:=h e List.mem_cons_self
  rw[List.flatten_cons,List.drop_append,List.drop_eq_nil_of_le (by rw[he,Nat.add_mul];omega),he,show(i+1)*k - k=i*k by rw[Nat.add_mul];omega,flat_drop es i (fun e h'=>h e (List.mem_cons_of_mem _ h'))]
  simp
theorem setA_row{k:Nat}{es news:List (List IV)}{i m:Nat}(hk: ∀e∈es,e.length=k)(hn: ∀e∈news,e.length=k)(hi:i≤es.length):
 setA (es.flatten.map AV.iv++List.replicate m AV.any) (i*k) (news.flatten.map AV.iv)=(es.take i++(news++es.drop (i+news.length))).flatten.map AV.iv++List.replicate (m - (i+news.length - es.length)*k) AV.any:=by
 have hl:=flatten_len es hk
 have hl2:=flatten_len news hn
 have h1:i*k≤es.length*k:=Nat.mul_le_mul_right k hi
 unfold setA
 rw[List.take_append_of_le_length (by rw[List.length_map,hl];exact h1),←List.map_take,flat_take es i hk,List.length_map,hl2,←Nat.add_mul,List.drop_append,←List.map_drop,flat_drop es _ hk,List.drop_replicate,List.length_map,hl,←Nat.sub_mul]
 simp[List.append_assoc]
theorem mem_take_len{k i:Nat}{es:List (List IV)}(h: ∀e∈es,e.length=k): ∀e∈es.take i,e.length=k:=fun e he=>h e (List.mem_of_mem_take he)
theorem mem_drop_len{k i:Nat}{es:List (List IV)}(h: ∀e∈es,e.length=k): ∀e∈es.drop i,e.length=k:=fun e he=>h e (List.mem_of_mem_drop he)
theorem chunks_flat{k:Nat}: ∀(es:List (List IV)),(∀e∈es,e.length=k)→chunks k es.length es.flatten=es
 | [],_=>rfl
 |e::es,h=>by
  have he:e.length=k:=h e List.mem_cons_self
  rw[List.length_cons,chunks,List.flatten_cons,List.take_append_of_le_length (by omega),List.drop_append_of_le_length (by omega),List.take_of_length_le (by omega),List.drop_eq_nil_of_le (by omega),List.nil_append,chunks_flat es (fun e h'=>h e (List.mem_cons_of_mem _ h'))]
theorem flat_at{α:Type}{k:Nat}: ∀(es:List (List α)) (i f:Nat) (e:List α) (x:α),(∀e∈es,e.length=k)→es[i]?=some e→e[f]?=some x→es.flatten[i*k+f]?=some x
 | [],i,f,e,x,_,h,_=>by simp at h
 |a::es,0,f,e,x,h,h1,h2=>by
  simp at h1;subst h1
  have:=(List.getElem?_eq_some_iff.1 h2).1
  rw[Nat.zero_mul,Nat.zero_add,List.flatten_cons,List.getElem?_append_left this];exact h2
 |a::es,i+1,f,e,x,h,h1,h2=>by
  have he:a.length=k:=h a List.mem_cons_self
  rw[List.flatten_cons,List.getElem?_append_right (by rw[he,Nat.add_mul];omega),he,show(i+1)*k+f - k=i*k+f by rw[Nat.add_mul];omega]
  exact flat_at es i f e x (fun e h'=>h e (List.mem_cons_of_mem _ h')) (by simpa using h1) h2
theorem flat_pick{α:Type}{k:Nat}(es:List (List α))(i:Nat)(e:List α)(h: ∀e∈es,e.length=k)(h1:es[i]?=some e):(es.flatten.drop (i*k)).take k=e:=by
 have he:e.length=k:=h e (List.mem_of_getElem? h1)
 rw[flat_drop es i h,List.drop_eq_getElem_cons (List.getElem?_eq_some_iff.1 h1).1,(List.getElem?_eq_some_iff.1 h1).2,List.flatten_cons,List.take_append_of_le_length (by omega),List.take_of_length_le (by omega)]
theorem toIs_iv: ∀xs:List IV,toIs (xs.map AV.iv)=some xs
 | [] =>rfl
 |x::xs=>by simp[toIs,AV.toI,toIs_iv xs]
section
variable {P:Program}{c:Ctx}{st:St}{ops:Array Oper}{Q:Exit→Act→World→Prop}{rest:List Oper}{o:Oper}
theorem Inv.recell{E:Env}{a:Act}{w:World}{fr:List (Nat×AV)}{bx:List (Nat×Box)}{tk:List (Nat×Tok)}{id:Nat}{b b':Box}(h:Inv c E ⟨fr,(id,b)::bx,tk⟩ a w)(ht:b.ty=b'.ty)(hc:Subs b.cs b'.cs):Inv c E ⟨fr,(id,b')::bx,tk⟩ a w:=by
 refine⟨h.defers,h.size,h.slot,HInv.wk (st:=⟨fr,(id,b)::bx,tk⟩) (st':=⟨fr,(id,b')::bx,tk⟩) h.heap ⟨fun i hin=> ?_,fun s v hv=>⟨v,hv,Sub.refl _⟩,fun i b1 hi=> ?_,fun i t h=>h⟩⟩
 · have h3:=(h.heap.ins i hin).2.2
   simp only at h3⊢
   by_cases e:i=id
   · subst e;rw[lookup_cons_eq];rfl
   · rw[lookup_cons_ne e] at h3⊢;exact h3
 · simp only at hi⊢
   by_cases e:i=id
   · subst e;rw[lookup_cons_eq] at hi⊢;cases hi;exact⟨b,rfl,ht,hc⟩
   · rw[lookup_cons_ne e] at hi⊢;exact⟨b1,hi,rfl,Subs.refl _⟩
theorem Makes.recell{v:AV}{id:Nat}{b b':Box}{bx:List (Nat×Box)}{tk:List (Nat×Tok)}(h:Makes P c st o v ((id,b)::bx) tk)(ht:b.ty=b'.ty)(hc:Subs b.cs b'.cs):Makes P c st o v ((id,b')::bx) tk:=fun E a w hi=>by
 obtain⟨u,E',w',h1,h2,h3⟩:=h E a w hi
 exact⟨u,E',w',h1,h2.recell ht hc,h3⟩
theorem Does.recell{id:Nat}{b b':Box}{bx:List (Nat×Box)}{tk:List (Nat×Tok)}(h:Does P c st o ((id,b)::bx) tk)(ht:b.ty=b'.ty)(hc:Subs b.cs b'.cs):Does P c st o ((id,b')::bx) tk:=fun E a w hi=>by
 obtain⟨E',w',h1,h2⟩:=h E a w hi
 exact⟨E',w',h1,h2.recell ht hc⟩
theorem Subs.of_eq{l l':List AV}(h:l=l'):Subs l l':=h▸Subs.refl l
theorem Reads.row{y:Operand}{k id off m cap mm i:Nat}{ty:TypeId}{es:List (List IV)}(hy:st.ev y= .bsl id off m cap)(hb:st.bx.lookup id=some ⟨ty,.r es.flatten mm⟩)(hk: ∀e∈es,e.length=k)(hoff:off=i*k)(hle:(i+m)*k≤es.length*k+mm):
 Reads P c st y k m (((es.flatten.map AV.iv++List.replicate mm AV.any).drop off).take (m*k)):=by
 refine Reads.bsl hy hb rfl ?_
 have hl:=flatten_len es hk
 simp only[Box.cs_r,List.length_take,List.length_drop,List.length_append,List.length_map,List.length_replicate,hl,hoff]
 rw[Nat.add_mul] at hle
 omega
theorem row_news{k off m cnt mm i:Nat}{es:List (List IV)}(hk: ∀e∈es,e.length=k)(hoff:off=i*k)(hcm:cnt≤m)(hin:i+cnt≤es.length):
 (((es.flatten.map AV.iv++List.replicate mm AV.any).drop off).take (m*k)).take (cnt*k)=((es.drop i).take cnt).flatten.map AV.iv:=by
 have hl:=flatten_len es hk
 have h1:(i+cnt)*k≤es.length*k:=Nat.mul_le_mul_right k hin
 have h2:cnt*k≤m*k:=Nat.mul_le_mul_right k hcm
 rw[Nat.add_mul] at h1
 rw[List.take_take,Nat.min_eq_left h2,hoff,List.drop_append_of_le_length (by rw[List.length_map,hl];omega),List.take_append_of_le_length (by rw[List.length_drop,List.length_map,hl];omega),←List.map_drop,←List.map_take,flat_drop es i hk,flat_take _ cnt (mem_drop_len hk)]
theorem Makes.copyRR{t t' e:TypeId}{x y:Operand}{k n cnt id off cap id' off' n' cap' mm mm' i i':Nat}{bt bt':TypeId}{es es':List (List IV)}(ho:o.op= .call {callee:= .builtin .copy,args:= #[x,y],argTypes:= #[t,t']})(hs:sliceOk P t e k=true)
 (hx:st.ev x= .bsl id off n cap) (hb:st.bx.lookup id=some ⟨bt,.r es.flatten mm⟩) (hy:st.ev y= .bsl id' off' n' cap') (hb':st.bx.lookup id'=some ⟨bt',.r es'.flatten mm'⟩) (hk: ∀e∈es,e.length=k) (hk': ∀e∈es',e.length=k) (hk0:0<k)
 (hoff:off=i*k) (hoff':off'=i'*k) (hcnt:Nat.min n' n=cnt) (hpos:0<cnt) (hle':(i'+n')*k≤es'.length*k+mm') (hin:i'+cnt≤es'.length) (hi:i≤es.length) (hm:(i+cnt)*k≤es.length*k+mm):
 Makes P c st o (aI cnt) ((id,⟨bt,.r (es.take i++((es'.drop i').take cnt++es.drop (i+cnt))).flatten (mm - (i+cnt - es.length)*k)⟩)::st.bx) st.tk:=by
 have hcm:cnt≤n':=by rw[←hcnt];exact Nat.min_le_left _ _
 have hl:=flatten_len es hk
 have hnl:((es'.drop i').take cnt).length=cnt:=by rw[List.length_take,List.length_drop];omega
 have h:=Makes.copyB (c:=c) ho hs hx hb (Reads.row hy hb' hk' hoff' hle') hcnt hpos hk0 (by
  rw[Nat.add_mul] at hm
  simp only[Box.cs_r,List.length_append,List.length_map,List.length_replicate,hl,hoff];omega)
 refine h.recell rfl (Subs.of_eq ?_)
 rw[row_news hk' hoff' hcm hin]
 simp only[Box.cs_l,Box.cs_r]
 have:=setA_row (m:=mm) hk (mem_take_len (i:=cnt) (mem_drop_len (i:=i') hk')) hi
 rw[hnl] at this
 rw[hoff];exact this
theorem Makes.copyRP{t t' e:TypeId}{x y:Operand}{k n id off cap mm i:Nat}{bt:TypeId}{es news:List (List IV)}(ho:o.op= .call {callee:= .builtin .copy,args:= #[x,y],argTypes:= #[t,t']})(hs:sliceOk P t e k=true)
 (hx:st.ev x= .bsl id off n cap) (hb:st.bx.lookup id=some ⟨bt,.r es.flatten mm⟩) (hy:(st.ev y).sl?=some news) (hk: ∀e∈es,e.length=k) (hk': ∀e∈news,e.length=k) (hk0:0<k)
 (hoff:off=i*k) (hcnt:news.length≤n) (hne:news≠ []) (hi:i≤es.length) (hm:(i+news.length)*k≤es.length*k+mm):
 Makes P c st o (aI news.length) ((id,⟨bt,.r (es.take i++(news++es.drop (i+news.length))).flatten (mm - (i+news.length - es.length)*k)⟩)::st.bx) st.tk:=by
 have hl:=flatten_len es hk
 have h:=Makes.copyB (c:=c) ho hs hx hb (Reads.pub hy hk' hk0 rfl) (Nat.min_eq_left hcnt) (List.length_pos_iff.2 hne) hk0 (by
  rw[Nat.add_mul] at hm
  simp only[Box.cs_r,List.length_append,List.length_map,List.length_replicate,hl,hoff];omega)
 refine h.recell rfl (Subs.of_eq ?_)
 rw[List.take_of_length_le (by rw[List.length_map,flatten_len news hk'];exact Nat.le_refl _)]
 simp only[Box.cs_l,Box.cs_r]
 rw[hoff];exact setA_row hk hk' hi
theorem Makes.roomRR{t t' e:TypeId}{d:TypeDesc}{x y:Operand}{k n id cap id' off' n' cap' mm mm' i':Nat}{bt bt':TypeId}{es es':List (List IV)}{i:TypeInfo}(ho:o.op= .call {callee:= .builtin .append,args:= #[x,y],argTypes:= #[t,t']})(ht:P.underlying t=some (.slice e))(hi0:P.info? e=some i)(hik:i.size=k)
 (hd:P.underlying t'=some d) (hn:notInt d) (hx:st.ev x= .bsl id 0 n cap) (hb:st.bx.lookup id=some ⟨bt,.r es.flatten mm⟩) (hbn:(⟨bt,.r es.flatten mm⟩:Box).cs≠ []) (hy:st.ev y= .bsl id' off' n' cap') (hb':st.bx.lookup id'=some ⟨bt',.r es'.flatten mm'⟩) (hk: ∀e∈es,e.length=k) (hk': ∀e∈es',e.length=k)
 (hoff':off'=i'*k) (hin:i'+n'≤es'.length) (hc0:0<cap) (hroom:n+n'≤cap) (hi:n≤es.length) (hm:(n+n')*k≤es.length*k+mm):
 Makes P c st o (.bsl id 0 (n+n') cap) ((id,⟨bt,.r (es.take n++((es'.drop i').take n'++es.drop (n+n'))).flatten (mm - (n+n' - es.length)*k)⟩)::st.bx) st.tk:=by
 have hl:=flatten_len es hk
 have hnl:((es'.drop i').take n').length=n':=by rw[List.length_take,List.length_drop];omega
 have hle':(i'+n')*k≤es'.length*k+mm':=Nat.le_trans (Nat.mul_le_mul_right k hin) (Nat.le_add_right _ _)
 have h:=Makes.roomB (c:=c) ho ht hi0 hik hd hn hx hb hbn (Reads.row hy hb' hk' hoff' hle') hc0 hroom (by
  simp only[Box.cs_r,List.length_append,List.length_map,List.length_replicate,hl];exact hm)
 refine h.recell rfl (Subs.of_eq ?_)
 have h2:=row_news (mm:=mm') hk' hoff' (Nat.le_refl n') hin
 rw[List.take_of_length_le (by rw[List.length_take];omega)] at h2
 rw[h2]
 simp only[Box.cs_l,Box.cs_r]
 have:=setA_row (m:=mm) hk (mem_take_len (i:=n') (mem_drop_len (i:=i') hk')) hi
 rw[hnl] at this
 exact this
theorem Makes.roomRP{t t' e:TypeId}{d:TypeDesc}{x y:Operand}{k n id cap mm:Nat}{bt:TypeId}{es news:List (List IV)}{i:TypeInfo}(ho:o.op= .call {callee:= .builtin .append,args:= #[x,y],argTypes:= #[t,t']})(ht:P.underlying t=some (.slice e))(hi0:P.info? e=some i)(hik:i.size=k)
 (hd:P.underlying t'=some d) (hn:notInt d) (hx:st.ev x= .bsl id 0 n cap) (hb:st.bx.lookup id=some ⟨bt,.r es.flatten mm⟩) (hbn:(⟨bt,.r es.flatten mm⟩:Box).cs≠ []) (hy:(st.ev y).sl?=some news) (hk: ∀e∈es,e.length=k) (hk': ∀e∈news,e.length=k) (hk0:0<k)
 (hc0:0<cap) (hroom:n+news.length≤cap) (hi:n≤es.length) (hm:(n+news.length)*k≤es.length*k+mm):
 Makes P c st o (.bsl id 0 (n+news.length) cap) ((id,⟨bt,.r (es.take n++(news++es.drop (n+news.length))).flatten (mm - (n+news.length - es.length)*k)⟩)::st.bx) st.tk:=by
 have hl:=flatten_len es hk
 have h:=Makes.roomB (c:=c) ho ht hi0 hik hd hn hx hb hbn (Reads.pub hy hk' hk0 rfl) hc0 hroom (by
  simp only[Box.cs_r,List.length_append,List.length_map,List.length_replicate,hl];exact hm)
 refine h.recell rfl (Subs.of_eq ?_)
 simp only[Box.cs_l,Box.cs_r]
 exact setA_row hk hk' hi
theorem Adds.row{y:Operand}{k id off n cap mm i:Nat}{ty:TypeId}{es:List (List IV)}(hy:st.ev y= .bsl id off n cap)(hb:st.bx.lookup id=some ⟨ty,.r es.flatten mm⟩)(hk: ∀e∈es,e.length=k)(hk0:0<k)(hoff:off=i*k)(hn0:0<n)(hin:i+n≤es.length):
 Adds P c st y k ((es.drop i).take n):=fun E a w hi=>by
 have h:=hi.ev y;rw[hy] at h
 obtain⟨o',hq,hn,hm,hoo⟩:=h.bsl_inv
 have hoe:=hoo (by omega)
 obtain⟨arr,rst,_,hra,h1,_,hc⟩:=hi.boxCell hb
 have hl:=flatten_len es hk
 have hnl:((es.drop i).take n).length=n:=by rw[List.length_take,List.length_drop];omega
 have hal:arr.length=es.length*k+mm:=by rw[hra.1];simp only[Box.cs_r,List.length_append,List.length_map,List.length_replicate,hl]
 have h2:(i+n)*k≤es.length*k:=Nat.mul_le_mul_right k hin
 rw[Nat.add_mul] at h2
 have hul:((arr.drop off).take (n*k)).length=n*k:=by rw[List.length_take,List.length_drop,hal,hoff];omega
 refine⟨(arr.drop off).take (n*k),?_,by rw[hnl,hul],fun u hu=>h1 u (List.mem_of_mem_drop (List.mem_of_mem_take hu)),fun p e j x v h3 h4 h5=> ?_⟩
 · rw[hq,hnl,hoe]
   exact Src.some hul (fun j v hv=>by
    have hj:=(List.getElem?_eq_some_iff.1 hv).1
    rw[hul] at hj
    rw[List.getElem?_take,if_pos hj,List.getElem?_drop] at hv
    rw[Addr.add_none,hc _ (List.getElem?_eq_some_iff.1 hv).1];exact hv)
 · have hpl:=(List.getElem?_eq_some_iff.1 h3).1
   rw[hnl] at hpl
   rw[List.getElem?_take,if_pos hpl,List.getElem?_drop] at h3
   have hx:=flat_at es (i+p) j e x hk h3 h4
   have hek:e.length=k:=hk e (List.mem_of_getElem? h3)
   have hjk:=(List.getElem?_eq_some_iff.1 h4).1
   have hpj:p*k+j<n*k:=by
    have:(p+1)*k≤n*k:=Nat.mul_le_mul_right k hpl
    rw[Nat.add_mul] at this;omega
   rw[List.getElem?_take,if_pos hpj,List.getElem?_drop] at h5
   have hidx:off+(p*k+j)=(i+p)*k+j:=by rw[hoff,Nat.add_mul];omega
   rw[hidx] at h5
   have hcs:(⟨ty,.r es.flatten mm⟩:Box).cs[(i+p)*k+j]?=some (.iv x):=by
    simp only[Box.cs_r]
    rw[List.getElem?_append_left (by rw[List.length_map];exact(List.getElem?_eq_some_iff.1 hx).1),List.getElem?_map,hx];rfl
   exact(hra.2 _ _ v hcs h5).iv_inv
theorem Makes.growR{t t' e:TypeId}{d:TypeDesc}{x y:Operand}{id id' k bytes:Nat}{i:TypeInfo}{z:Value}{n cap mm:Nat}{bt:TypeId}{es news:List (List IV)}
 (ho:o.op= .call {callee:= .builtin .append,args:= #[x,y],argTypes:= #[t,t']}) (ht:P.underlying t=some (.slice e)) (hi0:P.info? e=some i) (hik:i.size=k) (hib:i.bytes=bytes) (hiz:i.zero=some z) (hzk:z.cells.size=k) (hz1: ∀u∈z.cells.toList,u.oneCell'=true)
 (hd:P.underlying t'=some d) (hn:notInt d) (hk0:0<k) (hx:st.ev x= .bsl id 0 n cap) (hb:st.bx.lookup id=some ⟨bt,.r es.flatten mm⟩) (hk: ∀e∈es,e.length=k) (hi:n≤es.length) (hcap:cap<n+news.length) (hnk: ∀e∈news,e.length=k) (hy:Adds P c st y k news) (hne:news≠ [])
 (hm:n+news.length≤maxLen) (hby:(n+news.length)*bytes≤140737488355328) (hf:st.fresh id'=true):
 Makes P c st o (.bsh id' 0 (n+news.length) k) ((id',⟨e,.r (es.take n++news).flatten 0⟩)::st.bx) st.tk:=by
 have hl:=flatten_len es hk
 have h1:n*k≤es.length*k:=Nat.mul_le_mul_right k hi
 have hold:(((⟨bt,.r es.flatten mm⟩:Box).cs.drop 0).take (n*k))=(es.take n).flatten.map AV.iv:=by
  simp only[Box.cs_r,List.drop_zero]
  rw[List.take_append_of_le_length (by rw[List.length_map,hl];exact h1),←List.map_take,flat_take es n hk]
 have h:=Makes.growB (c:=c) ho ht hi0 hik hib hiz hzk hz1 hd hn hk0 hx hb hold (by rw[List.length_map,flatten_len _ (mem_take_len hk),List.length_take];congr 1;omega) hcap hnk hy hne hm hby hf rfl (ments_iv _ _) (ments_iv _ _)
 exact h.recell rfl (Subs.of_eq (by simp))
theorem Makes.growRZ{t t' e:TypeId}{kd kd':IntKind}{x y:Operand}{m:Nat}{id id' k bytes:Nat}{i:TypeInfo}{z:Value}{n cap mm:Nat}{bt:TypeId}{es:List (List IV)}
 (ho:o.op= .call {callee:= .builtin .append,args:= #[x,y],argTypes:= #[t,t']}) (ht:P.underlying t=some (.slice e)) (hi0:P.info? e=some i) (hik:i.size=k) (hib:i.bytes=bytes) (hiz:i.zero=some z) (hzk:z.cells.size=k) (hz1: ∀u∈z.cells.toList,u.oneCell'=true)
 (hd:P.underlying t'=some (.int kd)) (hk0:0<k) (hx:st.ev x= .bsl id 0 n cap) (hb:st.bx.lookup id=some ⟨bt,.r es.flatten mm⟩) (hk: ∀e∈es,e.length=k) (hi:n≤es.length) (hcap:cap<n+m) (hy:st.ev y= .iv (.im (.int kd' (m:Int)))) (hpos:0<m)
 (hm:n+m≤maxLen) (hby:(n+m)*bytes≤140737488355328) (hf:st.fresh id'=true):
 Makes P c st o (.bsh id' 0 (n+m) k) ((id',⟨e,.r (es.take n).flatten (m*k)⟩)::st.bx) st.tk:=by
 have hl:=flatten_len es hk
 have h1:n*k≤es.length*k:=Nat.mul_le_mul_right k hi
 have hold:(((⟨bt,.r es.flatten mm⟩:Box).cs.drop 0).take (n*k))=(es.take n).flatten.map AV.iv:=by
  simp only[Box.cs_r,List.drop_zero]
  rw[List.take_append_of_le_length (by rw[List.length_map,hl];exact h1),←List.map_take,flat_take es n hk]
 have h:=Makes.growZ (c:=c) ho ht hi0 hik hib hiz hzk hz1 hd hk0 hx hb hold (by rw[List.length_map,flatten_len _ (mem_take_len hk),List.length_take];congr 1;omega) hcap hy hpos hm hby hf (ments_iv _ _)
 exact h.recell rfl (Subs.of_eq (by simp))
theorem Makes.cloneR{t t' e:TypeId}{d:TypeDesc}{x y:Operand}{id id' k off bytes:Nat}{i:TypeInfo}{z:Value}{news:List (List IV)}
 (ho:o.op= .call {callee:= .builtin .append,args:= #[x,y],argTypes:= #[t,t']}) (ht:P.underlying t=some (.slice e)) (hi0:P.info? e=some i) (hik:i.size=k) (hib:i.bytes=bytes) (hiz:i.zero=some z) (hzk:z.cells.size=k) (hz1: ∀u∈z.cells.toList,u.oneCell'=true)
 (hd:P.underlying t'=some d) (hn:notInt d) (hk0:0<k) (hx:st.ev x= .bsl id off 0 0) (hnk: ∀e∈news,e.length=k) (hy:Adds P c st y k news) (hne:news≠ [])
 (hm:news.length≤maxLen) (hby:news.length*bytes≤140737488355328) (hf:st.fresh id'=true):
 Makes P c st o (.bsh id' 0 news.length k) ((id',⟨e,.r news.flatten 0⟩)::st.bx) st.tk:=
 (Makes.cloneB (c:=c) ho ht hi0 hik hib hiz hzk hz1 hd hn hk0 hx hnk hy hne hm hby hf rfl (ments_iv _ _)).recell rfl (Subs.of_eq (by simp))
theorem Makes.nilR{t t' e:TypeId}{d:TypeDesc}{x y:Operand}{id' k bytes:Nat}{i:TypeInfo}{z:Value}{news:List (List IV)}
 (ho:o.op= .call {callee:= .builtin .append,args:= #[x,y],argTypes:= #[t,t']}) (ht:P.underlying t=some (.slice e)) (hi0:P.info? e=some i) (hik:i.size=k) (hib:i.bytes=bytes) (hiz:i.zero=some z) (hzk:z.cells.size=k) (hz1: ∀u∈z.cells.toList,u.oneCell'=true)
 (hd:P.underlying t'=some d) (hn:notInt d) (hk0:0<k) (hx:st.ev x= .nils) (hnk: ∀e∈news,e.length=k) (hy:Adds P c st y k news) (hne:news≠ [])
 (hm:news.length≤maxLen) (hby:news.length*bytes≤140737488355328) (hf:st.fresh id'=true):
 Makes P c st o (.bsh id' 0 news.length k) ((id',⟨e,.r news.flatten 0⟩)::st.bx) st.tk:=
 (Makes.cloneB0 (c:=c) ho ht hi0 hik hib hiz hzk hz1 hd hn hk0 (fun E a w hi=>by
   have h:=hi.ev x;rw[hx] at h
   generalize a.eval x=u at h⊢
   cases h;exact⟨none,rfl⟩) hnk hy hne hm hby hf rfl (ments_iv _ _)).recell rfl (Subs.of_eq (by simp))
theorem Yields.app0{t t' e e':TypeId}{k k':Nat}{x y:Operand}(ho:o.op= .call {callee:= .builtin .append,args:= #[x,y],argTypes:= #[t,t']})(hs:sliceOk P t e k=true)(hs':sliceOk P t' e' k'=true)(hx:(st.ev x).sl?=some [])(hy:(st.ev y).sl?=some []):Yields P c st o (.iv (.sl [])):=fun E a w hi=>by
 obtain⟨hu,inf,hinf,hsz⟩:=sliceOk_run hs
 obtain⟨hu',_⟩:=sliceOk_run hs'
 have h1:RepI E.φ w (.sl []) (a.eval x):=(hi.ev x).sl hx
 have h2:RepI E.φ w (.sl []) (a.eval y):=(hi.ev y).sl hy
 have hy2:(Builtin.lenOf (a.eval y)).run P w= .ok 0 w∧(Builtin.firstCells inf.size 0 (a.eval y)).run P w= .ok #[] w:=by
  generalize a.eval y=uy at h2
  rcases h2.sl_inv with⟨hq,_⟩|⟨ad,cap,hq,_,_,_⟩|⟨b,o',cap,k',f,hq,hc,_⟩
  · rw[hq];exact⟨rfl,by simp[Builtin.firstCells]⟩
  · rw[hq];exact⟨rfl,by simp[Builtin.firstCells,loadCells,loadCellsFrom]⟩
  · rw[hq];exact⟨rfl,by simp[Builtin.firstCells,loadCells,loadCellsFrom]⟩
 have hap:(Builtin.append_ #[t,t'] o.type #[a.eval x,a.eval y]).run P w= .ok (a.eval x) w:=by
  rcases h1.sl_inv with⟨hq,_⟩|⟨ad,cap,hq,_,_,_⟩|⟨b,o',cap,k',f,hq,hc,_⟩
  · rw[hq];simp[Builtin.append_,run_underlying hu,run_underlying hu',sizeOf,typeInfo,hinf,hy2.1,hy2.2]
  · rw[hq];cases ad<;>simp[Builtin.append_,run_underlying hu,run_underlying hu',sizeOf,typeInfo,hinf,hy2.1,hy2.2,storeCells]
  · rw[hq];simp[Builtin.append_,run_underlying hu,run_underlying hu',sizeOf,typeInfo,hinf,hy2.1,hy2.2,storeCells]
 exact⟨a.eval x,by simp[execOp,ho,resolve,invoke,builtin,hap],.iv h1⟩
end
end Go.Abs
namespace Go.Abs
variable [Dr]
set_option linter.unusedSectionVars false
open Go.RowKit (Below)
set_option linter.unusedVariables false
set_option linter.unusedSimpArgs false
theorem row_ne{bt:TypeId}{xs:List IV}{mm:Nat}(h:xs≠ [] ∨0<mm):(⟨bt,.r xs mm⟩:Box).cs≠ []:=fun e=>by
 simp only[Box.cs_r,List.append_eq_nil_iff,List.map_eq_nil_iff,List.replicate_eq_nil_iff] at e
 rcases h with h|h
 · exact h e.1
 · omega
theorem Sub.bsl0(id off cap:Nat):Sub (.bsl id off 0 cap) (.iv (.sl [])):=fun E w u h=>by
 obtain⟨o,rfl,hn,hm,_⟩:=h.bsl_inv
 exact .iv (.emp (fun h=>by cases h) hm)
theorem Sub.bsh0(id off k:Nat):Sub (.bsh id off 0 k) (.iv (.sl [])):=fun E w u h=>by
 obtain⟨cap,o,rfl,hn,hm,_,_⟩:=h.bsh_inv
 exact .iv (.emp (fun h=>by cases h) (by omega))
section
variable {P:Program}{c:Ctx}{st:St}{ops:Array Oper}{Q:Exit→Act→World→Prop}{rest:List Oper}{o:Oper}
theorem Does.storeR{t:TypeId}{x y:Operand}{id off k mm i:Nat}{ty:TypeId}{es:List (List IV)}{e:List IV}{v:AV}{agg:Bool}(ho:o.op= .store t x y)(ht:varOk P t agg k=true)(hx:st.ev x= .ptr id off)(hb:st.bx.lookup id=some ⟨ty,.r es.flatten mm⟩)
 (hy:st.ev y=v) (hv:v.lays=true) (hc:v.cells=e.map .iv) (he:e.length=k) (hk: ∀e∈es,e.length=k) (hoff:off=i*k) (hi:i<es.length):Does P c st o ((id,⟨ty,.r (es.set i e).flatten mm⟩)::st.bx) st.tk:=by
 have hl:=flatten_len es hk
 have h1:(i+1)*k≤es.length*k:=Nat.mul_le_mul_right k hi
 rw[Nat.add_mul] at h1
 have h:=Does.store (c:=c) ho ht hx hb hy hv (by rw[hc,List.length_map,he]) (by simp only[Box.cs_r,List.length_append,List.length_map,List.length_replicate,hl,hoff];omega)
 refine h.recell rfl (Subs.of_eq ?_)
 have:=setA_row (m:=mm) (news:= [e]) (i:=i) hk (by simpa using he) (by omega)
 have hz:i+1 - es.length=0:=by omega
 simp only[List.flatten_cons,List.flatten_nil,List.append_nil,List.length_cons,List.length_nil,Nat.zero_add,hz,Nat.zero_mul,Nat.sub_zero] at this
 simp only[Box.cs_l,Box.cs_r,hc,hoff]
 rw[this,List.set_eq_take_append_cons_drop,if_pos hi]
 simp
theorem Yields.load1R{t:TypeId}{x:Operand}{id off k mm i f:Nat}{ty:TypeId}{es:List (List IV)}{e:List IV}{y:IV}(ho:o.op= .load t x)(ht:varOk P t false 1=true)(hx:st.ev x= .ptr id off)(hb:st.bx.lookup id=some ⟨ty,.r es.flatten mm⟩)
 (hk: ∀e∈es,e.length=k) (hoff:off=i*k+f) (he:es[i]?=some e) (hf:e[f]?=some y):Yields P c st o (.iv y):=by
 refine Yields.load1P ho ht hx hb ?_
 have hx:=flat_at es i f e y hk he hf
 simp only[Box.cs_r,hoff]
 rw[List.getElem?_append_left (by rw[List.length_map];exact(List.getElem?_eq_some_iff.1 hx).1),List.getElem?_map,hx];rfl
theorem Yields.loadAR{t:TypeId}{x:Operand}{id off k mm i:Nat}{ty:TypeId}{es:List (List IV)}{e:List IV}{vs:List AV}(ho:o.op= .load t x)(ht:varOk P t true k=true)(hx:st.ev x= .ptr id off)(hb:st.bx.lookup id=some ⟨ty,.r es.flatten mm⟩)
 (hk: ∀e∈es,e.length=k) (hoff:off=i*k) (he:es[i]?=some e) (hv:e.map AV.iv=vs):Yields P c st o (.agg vs):=by
 have hl:=flatten_len es hk
 have hi:i<es.length:=(List.getElem?_eq_some_iff.1 he).1
 have h1:(i+1)*k≤es.length*k:=Nat.mul_le_mul_right k hi
 rw[Nat.add_mul] at h1
 have hp:(((⟨ty,.r es.flatten mm⟩:Box).cs.drop off).take k)=vs:=by
  simp only[Box.cs_r,hoff]
  rw[List.drop_append_of_le_length (by rw[List.length_map,hl];omega),List.take_append_of_le_length (by rw[List.length_drop,List.length_map,hl];omega),←List.map_drop,←List.map_take,flat_pick es i e hk he,hv]
 have:=Yields.loadAP (c:=c) ho ht hx hb (k:=k) (by rw[hp,←hv,List.length_map];exact hk e (List.mem_of_getElem? he))
 rw[hp] at this;exact this
theorem Yields.slB3{x y z u:Operand}{t e:TypeId}{k id off n cap:Nat}{kd kd' kd'':IntKind}{i j m:Int}(ho:o.op= .slice t x (some y) (some z) (some u))(hx:st.ev x= .bsl id off n cap)(hy:st.ev y= .iv (.im (.int kd i)))(hz':st.ev z= .iv (.im (.int kd' j)))(hu':st.ev u= .iv (.im (.int kd'' m)))
 (hs:sliceOk P t e k=true) (h0:0≤i) (h1:i≤j) (h2:j≤m) (h3:m≤cap):Yields P c st o (.bsl id (off+i.toNat*k) (j.toNat - i.toNat) (m.toNat - i.toNat)):=fun E a w hi=>by
 obtain⟨hu,hz⟩:=sl_facts hs w
 have h:=hi.ev x;rw[hx] at h
 obtain⟨o',hq,hn,hm,hoo⟩:=h.bsl_inv
 refine⟨_,?_,sliced_bsl (E:=E) (w:=w) (id:=id) (s:=k) (by omega:i.toNat≤j.toNat) (by omega:j.toNat≤m.toNat) (by omega:m.toNat≤cap) hm hoo⟩
 have:=run_slice_lhm (P:=P) w t (some ⟨E.ρ id,o',none⟩) n cap hu kd kd' kd'' i j m h0 h1 h2 h3
 simp[execOp,ho,hq,hi.im hy,hi.im hz',hi.im hu',run_sliceAt_slice w t _ _ _ _ hu,this,hz,Result.andThen]
theorem L.clearR{t e:TypeId}{x:Operand}{k n id off cap mm j:Nat}{i:TypeInfo}{z:Value}{bt:TypeId}{es:List (List IV)}(hg:o.guard=none)(hd:o.dst=none)(ho:o.op= .call {callee:= .builtin .clear,args:= #[x],argTypes:= #[t]})(ht:P.underlying t=some (.slice e))
 (hi0:P.info? e=some i) (hiz:i.zero=some z) (hzk:z.cells.size=k) (hz1: ∀u∈z.cells.toList,u.oneCell'=true) (hk0:0<k) (hx:st.ev x= .bsl id off n cap) (hb:st.bx.lookup id=some ⟨bt,.r es.flatten mm⟩) (hk: ∀e∈es,e.length=k) (hoff:off=j*k) (hj:j≤es.length) (hn0:0<n) (hle:(j+n)*k≤es.length*k+mm)
 (h:L c ⟨st.fr,(id,⟨bt,.r (es.take j).flatten (es.length*k+mm - j*k)⟩)::st.bx,st.tk⟩ (wpList P ops Q rest)):L c st (wpList P ops Q (o::rest)):=by
 have hl:=flatten_len es hk
 have h1:j*k≤es.length*k:=Nat.mul_le_mul_right k hj
 rw[Nat.add_mul] at hle
 refine L.clearB hg hd ho ht hi0 hiz hzk hz1 hk0 hx hb hn0 (by simp only[Box.cs_r,List.length_append,List.length_map,List.length_replicate,hl,hoff];exact hle) ?_
 rintro a w ⟨E,hi⟩
 refine h a w ⟨E,hi.recell rfl ?_⟩
 simp only[Box.cs_l,Box.cs_r,hoff]
 have htk:(List.map AV.iv es.flatten++List.replicate mm AV.any).take (j*k)=(es.take j).flatten.map AV.iv:=by
  rw[List.take_append_of_le_length (by rw[List.length_map,hl];exact h1),←List.map_take,flat_take es j hk]
 unfold setA
 rw[htk]
 have hjl:(es.take j).flatten.length=j*k:=by rw[flatten_len _ (mem_take_len hk),List.length_take];congr 1;omega
 refine⟨by simp only[List.length_append,List.length_map,List.length_replicate,List.length_drop,hl,hjl];omega,fun i x y hx hy=> ?_⟩
 rw[List.getElem?_append] at hx hy
 split at hx
 · rename_i hlt
   rw[if_pos hlt] at hy
   rw[hx] at hy;cases hy;exact Sub.refl _
 · rename_i hlt
   rw[if_neg hlt] at hy
   simp only[List.getElem?_replicate] at hy
   split at hy
   · cases hy;exact Sub.any _
   · cases hy
theorem Makes.buildR{t e:TypeId}{n k id:Nat}{parts:Array (Nat×Operand)}{zs:List Value}{cs:List AV}{es:List (List IV)}(ho:o.op= .buildSlice t n parts)(hs:sliceOk P t e k=true)
 (hz:zeroCellsOf P e=some zs) (h1:zs.all (·.oneCell')=true) (hzl:zs.length=k) (hn:n*k≤16777216) (hnk:0<k)
 (hf:fillA (fun i=>some (i*k,k)) ((List.range (n*k)).map fun i=>constCell (zs.getD (i % k) undef)) (parts.toList.map fun x=>(x.1,st.ev x.2))=some cs)
 (hcs:cs=es.flatten.map .iv) (hcl:es.flatten.length=n*k) (hfr:st.fresh id=true):Makes P c st o (.bsl id 0 n n) ((id,⟨e,.r es.flatten 0⟩)::st.bx) st.tk:=
 (Makes.buildBox (c:=c) ho hs hz h1 hzl hn hnk hf (by rw[hcs,List.length_map,hcl]) (by rw[hcs];exact ments_iv _ _) hfr).recell rfl (Subs.of_eq (by simp[hcs]))
theorem Yields.overlapsR{f:FuncId}{x y:Operand}{ats:Array TypeId}{t tr e:TypeId}{k i j offi n cap offj m capj mm mm':Nat}{bt bt':TypeId}{xs ys:List IV}(ho:o.op= .call {callee:= .value (.func f),args:= #[x,y],argTypes:=ats})
 (hok:extOk P f (Extern.SlicesOverlaps.overlaps #[t,t] #[tr])) (hs:sliceOk P t e k=true) (hx:st.ev x= .bsl i offi n cap) (hy:st.ev y= .bsl j offj m capj) (hij:i≠j) (hb:st.bx.lookup i=some ⟨bt,.r xs mm⟩) (hb':st.bx.lookup j=some ⟨bt',.r ys mm'⟩)
 (hoff:cap≠0) (hin:offi<xs.length) (hne:ys≠ []):Yields P c st o (aB false):=
 Yields.overlapsB (c:=c) ho hok hs hx hy hij hb hb' (fun e=>by simp only[Box.cs_r,List.append_eq_nil_iff,List.map_eq_nil_iff] at e;rw[e.1] at hin;simp at hin)
  (fun e=>by simp only[Box.cs_r,List.append_eq_nil_iff,List.map_eq_nil_iff] at e;exact hne e.1) hoff (by simp only[Box.cs_r,List.length_append,List.length_map];omega)
theorem L.pubS(K s:Nat){X:Act→World→Prop}{k n:Nat}{ty:TypeId}{es:List (List IV)}{v v':AV}(hin:c.ins.all (fun i=>(i !=K) && (match st.bx.lookup i with|some b=> !b.cs.isEmpty|none=>false))=true)(hb:st.bx.lookup K=some ⟨ty,.r es.flatten 0⟩)(hk: ∀e∈es,e.length=k)(hk0:0<k)(hne:es≠ [])(hn:es.length=n)
 (hs:st.fr.lookup s=some v) (hp:Pub K n k (.sl es) v v') (h:L c ⟨(s,v')::st.fr,(K,⟨ty,.l []⟩)::st.bx,st.tk⟩ X):L c st X:=by
 subst hn
 refine L.publishS K s hin hb (xs:=es.flatten) (n:=es.length) (k:=k) ?_ ?_ hk0 (List.length_pos_iff.2 hne) hs ?_ h
 · simp only[Box.cs_r,List.replicate_zero,List.append_nil];exact toIs_iv _
 · simp only[Box.cs_r,List.replicate_zero,List.append_nil,List.length_map];exact flatten_len es hk
 · rw[chunks_flat es hk];exact hp
theorem L.pubB(K j:Nat){X:Act→World→Prop}{k n:Nat}{ty:TypeId}{es:List (List IV)}{bj:Box}{cs:List AV}(hin:c.ins.all (fun i=>(i !=K) && (match st.bx.lookup i with|some b=> !b.cs.isEmpty|none=>false))=true)(hb:st.bx.lookup K=some ⟨ty,.r es.flatten 0⟩)(hk: ∀e∈es,e.length=k)(hk0:0<k)(hne:es≠ [])(hn:es.length=n)
 (hj:st.bx.lookup j=some bj) (hjn:bj.cs≠ []) (hjk:(j==K)=false) (hp:Pubs K n k (.sl es) bj.cs cs) (h:L c ⟨st.fr,(j,⟨bj.ty,.l cs⟩)::(K,⟨ty,.l []⟩)::st.bx,st.tk⟩ X):L c st X:=by
 subst hn
 refine L.publishB K j hin hb (xs:=es.flatten) (n:=es.length) (k:=k) ?_ ?_ hk0 (List.length_pos_iff.2 hne) hj hjn hjk ?_ h
 · simp only[Box.cs_r,List.replicate_zero,List.append_nil];exact toIs_iv _
 · simp only[Box.cs_r,List.replicate_zero,List.append_nil,List.length_map];exact flatten_len es hk
 · rw[chunks_flat es hk];exact hp
theorem L.renameR(s N:Nat){id cap m k:Nat}{n:Nat}{ty:TypeId}{es:List (List IV)}{X:Act→World→Prop}(hs:st.fr.lookup s=some (.bsl id 0 n cap))(hb:st.bx.lookup id=some ⟨ty,.r es.flatten m⟩)(hf:st.fresh N=true)(hk: ∀e∈es,e.length=k)(hn:es.length=n)(h0:0<n*k)(hcap:cap*k≤n*k+m)
 (h:L c ⟨(s,.bsh N 0 n k)::st.fr,(N,⟨ty,.r es.flatten 0⟩)::(id,⟨ty,.l []⟩)::st.bx,st.tk⟩ X):L c st X:=by
 have hl:es.flatten.length=n*k:=by rw[flatten_len es hk,hn]
 refine L.rename s N k hs hb hf (.inl (fun e=>by rw[e] at hl;simp at hl;omega)) (by rw[hl];exact hcap) ?_
 rw[List.take_of_length_le (by rw[hl];exact Nat.le_refl _)];exact h
theorem AV.mentsIn_iv(l:List Nat): ∀xs:List IV,AV.mentsIn l (xs.map .iv)=true
 | [] =>rfl
 |x::xs=>by simp[AV.mentsIn,AV.mentIn,mentsIn_iv l xs]
theorem AV.mentsIn_any(l:List Nat): ∀m:Nat,AV.mentsIn l (List.replicate m .any)=true
 |0=>rfl
 |m+1=>by simp[List.replicate_succ,AV.mentsIn,AV.mentIn,mentsIn_any l m]
theorem AV.mentsIn_app(l:List Nat): ∀(a b:List AV),AV.mentsIn l (a++b)=(AV.mentsIn l a && AV.mentsIn l b)
 | [],b=>by simp[AV.mentsIn]
 |x::a,b=>by simp[AV.mentsIn,mentsIn_app l a b,Bool.and_assoc]
theorem fresh_ne{id d:Nat}{b:Box}(hf:st.fresh d=true)(hb:st.bx.lookup id=some b):id≠d:=(St.fresh_bx hf hb).1
theorem L.call01{f:FuncId}{args:Array Operand}{ats:Array TypeId}{zas:List AV}{d k n:Nat}{ty:TypeId}{xs:List IV}(hg:o.guard=none)(hd:o.dst=some d)(hlt:Nat.ble (d+1) c.nt=true)(ho:o.op= .call {callee:= .value (.func f),args:=args,argTypes:=ats})(hok:callOk P f=true)
 (hc:CallA P f zas [] [(1000,⟨ty,.r xs 0⟩)] [] (.bsh 1000 0 n k)) (ha:AV.pub.pubs (args.toList.map st.ev)=zas) (hm:AV.mentsIn [] zas=true) (hf:st.fresh d=true)
 (h:L c ⟨(d,.bsh d 0 n k)::st.fr,(d,⟨ty,.r xs 0⟩)::st.bx,st.tk⟩ (wpList P ops Q rest)):L c st (wpList P ops Q (o::rest)):=by
 have hs:Abs.sws [(1000,d)] 1000=d:=by simp[Abs.sws,sw]
 have h2:=hc.sws [(1000,d)] (AV.rens_id zas hm) (bx2:= []) (bx2':= [(d,⟨ty,.r xs 0⟩)]) (tk2':= []) (res2:= .bsh d 0 n k) rfl (by simp[renB,hs,Box.ren]) rfl (by simp[AV.ren,hs])
 exact L.callN (bxi:= []) [d] hg hd hlt ho hok h2 (.of_pub ha) .nil (by simp[hf]) (by simp[boOk,keys]) rfl (by simp[AV.mentsIn_iv]) (by simp[AV.mentIn]) h
theorem L.call02{f:FuncId}{args:Array Operand}{ats:Array TypeId}{zas:List AV}{d k n k' n':Nat}{ty ty':TypeId}{xs xs':List IV}(hg:o.guard=none)(hd:o.dst=some d)(hlt:Nat.ble (d+1) c.nt=true)(ho:o.op= .call {callee:= .value (.func f),args:=args,argTypes:=ats})(hok:callOk P f=true)
 (hc:CallA P f zas [] [(1000,⟨ty,.r xs 0⟩),(1001,⟨ty',.r xs' 0⟩)] [] (.agg [.bsh 1000 0 n k,.bsh 1001 0 n' k'])) (ha:AV.pub.pubs (args.toList.map st.ev)=zas) (hm:AV.mentsIn [] zas=true) (hf:st.fresh d=true) (hf':st.fresh (d+2000)=true)
 (h:L c ⟨(d,.agg [.bsh d 0 n k,.bsh (d+2000) 0 n' k'])::st.fr,(d,⟨ty,.r xs 0⟩)::(d+2000,⟨ty',.r xs' 0⟩)::st.bx,st.tk⟩ (wpList P ops Q rest)):L c st (wpList P ops Q (o::rest)):=by
 have hs:Abs.sws [(1001,d+2000),(1000,d)] 1000=d:=sws_tl (by decide) (sws_hd _ _ _) (by omega)
 have hs':Abs.sws [(1001,d+2000),(1000,d)] 1001=d+2000:=sws_hd _ _ _
 have h2:=hc.sws [(1001,d+2000),(1000,d)] (AV.rens_id zas hm) (bx2:= []) (bx2':= [(d,⟨ty,.r xs 0⟩),(d+2000,⟨ty',.r xs' 0⟩)]) (tk2':= []) (res2:= .agg [.bsh d 0 n k,.bsh (d+2000) 0 n' k']) rfl (by simp[renB,hs,hs',Box.ren]) rfl (by simp[AV.ren,AV.rens,hs,hs'])
 exact L.callN (bxi:= []) [d,d+2000] hg hd hlt ho hok h2 (.of_pub ha) .nil (by simp[hf,hf']) (by simp[boOk,keys]) rfl (by simp[AV.mentsIn_iv]) (by simp[AV.mentIn,AV.mentsIn]) h
theorem L.call11{f:FuncId}{args:Array Operand}{ats:Array TypeId}{zas:List AV}{d a k n n':Nat}{ty:TypeId}{xs ys:List IV}(hg:o.guard=none)(hd:o.dst=some d)(hlt:Nat.ble (d+1) c.nt=true)(ho:o.op= .call {callee:= .value (.func f),args:=args,argTypes:=ats})(hok:callOk P f=true)
 (hc:CallA P f (.bsh 1000 0 n k::zas) [(1000,⟨ty,.r xs 0⟩)] [(1001,⟨ty,.r ys 0⟩),(1000,⟨ty,.l []⟩)] [] (.bsh 1001 0 n' k)) (ha:AV.pub.pubs (args.toList.map st.ev)= .bsh a 0 n k::zas) (hb:st.bx.lookup a=some ⟨ty,.r xs 0⟩) (hx:xs≠ []) (hm:AV.mentsIn [] zas=true) (hf:st.fresh d=true)
 (h:L c ⟨(d,.bsh d 0 n' k)::st.fr,(d,⟨ty,.r ys 0⟩)::(a,⟨ty,.l []⟩)::st.bx,st.tk⟩ (wpList P ops Q rest)):L c st (wpList P ops Q (o::rest)):=by
 have hne:=fresh_ne hf hb
 have hs:Abs.sws [(1001,d),(1000,a)] 1000=a:=sws_tl (by decide) (sws_hd _ _ _) hne
 have hs':Abs.sws [(1001,d),(1000,a)] 1001=d:=sws_hd _ _ _
 have h2:=hc.sws [(1001,d),(1000,a)] (args2:= .bsh a 0 n k::zas) (bx2:= [(a,⟨ty,.r xs 0⟩)]) (bx2':= [(d,⟨ty,.r ys 0⟩),(a,⟨ty,.l []⟩)]) (tk2':= []) (res2:= .bsh d 0 n' k) (by simp[AV.rens,AV.ren,hs,AV.rens_id zas hm]) (by simp[renB,hs,Box.ren]) (by simp[renB,hs,hs',Box.ren,AV.rens]) rfl (by simp[AV.ren,hs'])
 have hn: ¬(xs= [] ∧True):=fun h=>hx h.1
 exact L.callN (bxi:= [(a,⟨ty,.r xs 0⟩)]) [d] hg hd hlt ho hok h2 (.of_pub ha) (.cons hb rfl (Subs.refl _) .nil) (by simp[hf]) (by simp[boOk,keys,hx]) rfl (by simp[AV.mentsIn_iv,AV.mentsIn]) (by simp[AV.mentIn]) h
theorem L.call10{f:FuncId}{args:Array Operand}{ats:Array TypeId}{zas:List AV}{d a k n:Nat}{ty:TypeId}{xs:List IV}{res:IV}(hg:o.guard=none)(hd:o.dst=some d)(hlt:Nat.ble (d+1) c.nt=true)(ho:o.op= .call {callee:= .value (.func f),args:=args,argTypes:=ats})(hok:callOk P f=true)
 (hc:CallA P f (.bsh 1000 0 n k::zas) [(1000,⟨ty,.r xs 0⟩)] [(1000,⟨ty,.l []⟩)] [] (.iv res)) (ha:AV.pub.pubs (args.toList.map st.ev)= .bsh a 0 n k::zas) (hb:st.bx.lookup a=some ⟨ty,.r xs 0⟩) (hx:xs≠ []) (hm:AV.mentsIn [] zas=true)
 (h:L c ⟨(d,.iv res)::st.fr,(a,⟨ty,.l []⟩)::st.bx,st.tk⟩ (wpList P ops Q rest)):L c st (wpList P ops Q (o::rest)):=by
 have hs:Abs.sws [(1000,a)] 1000=a:=by simp[Abs.sws,sw]
 have h2:=hc.sws [(1000,a)] (args2:= .bsh a 0 n k::zas) (bx2:= [(a,⟨ty,.r xs 0⟩)]) (bx2':= [(a,⟨ty,.l []⟩)]) (tk2':= []) (res2:= .iv res) (by simp[AV.rens,AV.ren,hs,AV.rens_id zas hm]) (by simp[renB,hs,Box.ren]) (by simp[renB,hs,Box.ren,AV.rens]) rfl rfl
 exact L.callN (bxi:= [(a,⟨ty,.r xs 0⟩)]) [] hg hd hlt ho hok h2 (.of_pub ha) (.cons hb rfl (Subs.refl _) .nil) rfl (by simp[boOk,keys,hx]) rfl (by simp[AV.mentsIn]) (by simp[AV.mentIn]) h
theorem L.call21{f:FuncId}{args:Array Operand}{ats:Array TypeId}{i:AV}{d a v k n m n':Nat}{ty ty':TypeId}{xs vs ys:List IV}(hg:o.guard=none)(hd:o.dst=some d)(hlt:Nat.ble (d+1) c.nt=true)(ho:o.op= .call {callee:= .value (.func f),args:=args,argTypes:=ats})(hok:callOk P f=true)
 (hc:CallA P f [.bsh 1000 0 n k,i,.bsl 1001 0 m m] [(1000,⟨ty,.r xs 0⟩),(1001,⟨ty',.r vs 0⟩)] [(1002,⟨ty,.r ys 0⟩),(1000,⟨ty,.l []⟩),(1001,⟨ty',.l []⟩)] [] (.bsh 1002 0 n' k)) (ha:AV.pub.pubs (args.toList.map st.ev)= [.bsh a 0 n k,i,.bsl v 0 m m])
 (hb:st.bx.lookup a=some ⟨ty,.r xs 0⟩) (hb':st.bx.lookup v=some ⟨ty',.r vs 0⟩) (hx:xs≠ []) (hv:vs≠ []) (hav:(a==v)=false) (hm:AV.mentIn [] i=true) (hf:st.fresh d=true)
 (h:L c ⟨(d,.bsh d 0 n' k)::st.fr,(d,⟨ty,.r ys 0⟩)::(a,⟨ty,.l []⟩)::(v,⟨ty',.l []⟩)::st.bx,st.tk⟩ (wpList P ops Q rest)):L c st (wpList P ops Q (o::rest)):=by
 have hne:=fresh_ne hf hb
 have hne':=fresh_ne hf hb'
 have hav':a≠v:=by simpa using hav
 have hs:Abs.sws [(1002,d),(1001,v),(1000,a)] 1000=a:=sws_tl (by decide) (sws_tl (by decide) (sws_hd _ _ _) hav') hne
 have hs1:Abs.sws [(1002,d),(1001,v),(1000,a)] 1001=v:=sws_tl (by decide) (sws_hd _ _ _) hne'
 have hs2:Abs.sws [(1002,d),(1001,v),(1000,a)] 1002=d:=sws_hd _ _ _
 have h2:=hc.sws [(1002,d),(1001,v),(1000,a)] (args2:= [.bsh a 0 n k,i,.bsl v 0 m m]) (bx2:= [(a,⟨ty,.r xs 0⟩),(v,⟨ty',.r vs 0⟩)]) (bx2':= [(d,⟨ty,.r ys 0⟩),(a,⟨ty,.l []⟩),(v,⟨ty',.l []⟩)]) (tk2':= []) (res2:= .bsh d 0 n' k)
  (by simp[AV.rens,AV.ren,hs,hs1,AV.ren_id i hm]) (by simp[renB,hs,hs1,Box.ren]) (by simp[renB,hs,hs1,hs2,Box.ren,AV.rens]) rfl (by simp[AV.ren,hs2])
 exact L.callN (bxi:= [(a,⟨ty,.r xs 0⟩),(v,⟨ty',.r vs 0⟩)]) [d] hg hd hlt ho hok h2 (.of_pub ha) (.cons hb rfl (Subs.refl _) (.cons hb' rfl (Subs.refl _) .nil)) (by simp[hf]) (by simp[boOk,keys,hx,hv]) rfl (by simp[AV.mentsIn_iv,AV.mentsIn]) (by simp[AV.mentIn]) h
end
end Go.Abs
