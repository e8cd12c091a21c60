/- Several texts in one, each with its own sentence ahead of it. Conditions: each one says its own. -/
import Derived.Test.YtadjbegnlimepaaGreatDoorZS10
set_option linter.all false
namespace Go.Abs
variable [Dr]
set_option linter.unusedSectionVars false
open Go.RowKit (Below)
set_option linter.unusedVariables false
theorem flat_take{α:Type}{k:Nat}: ∀(es:List (List α)) (i:Nat),(∀e∈es,e.length=k)→es.flatten.take (i*k)=(es.take i).flatten
 | [],i,_=>by simp
 |e::es,0,_=>by simp
 |e::es,i+1,h=>by
  have he:e.length=k:=h e List.mem_cons_self
  rw[List.flatten_cons,List.take_append,List.take_of_length_le (by rw[he,Nat.add_mul];omega),he,show(i+1)*k - k=i*k by rw[Nat.add_mul];omega,flat_take es i (fun e h'=>h e (List.mem_cons_of_mem _ h'))]
  simp
theorem flat_drop{α:Type}{k:Nat}: ∀(es:List (List α)) (i:Nat),(∀e∈es,e.length=k)→es.flatten.drop (i*k)=(es.drop i).flatten
 | [],i,_=>by simp
 |e::es,0,_=>by simp
 |e::es,i+1,h=>by
  have he:e.length=k:=h e List.mem_cons_self
  rw[List.flatten_cons,List.drop_append,List.drop_eq_nil_of_le (by rw[he,Nat.add_mul];omega),he,show(i+1)*k - k=i*k by rw[Nat.add_mul];omega,flat_drop es i (fun e h'=>h e (List.mem_cons_of_mem _ h'))]
  simp
theorem setA_row{k:Nat}{es news:List (List IV)}{i m:Nat}(hk: ∀e∈es,e.length=k)(hn: ∀e∈news,e.length=k)(hi:i≤es.length):
 setA (es.flatten.map AV.iv++List.replicate m AV.any) (i*k) (news.flatten.map AV.iv)=(es.take i++(news++es.drop (i+news.length))).flatten.map AV.iv++List.replicate (m - (i+news.length - es.length)*k) AV.any:=by
 have hl:=flatten_len es hk
 have hl2:=flatten_len news hn
 have h1:i*k≤es.length*k:=Nat.mul_le_mul_right k hi
 unfold setA
 rw[List.take_append_of_le_length (by rw[List.length_map,hl];exact h1),←List.map_take,flat_take es i hk,List.length_map,hl2,←Nat.add_mul,List.drop_append,←List.map_drop,flat_drop es _ hk,List.drop_replicate,List.length_map,hl,←Nat.sub_mul]
 simp[List.append_assoc]
theorem mem_take_len{k i:Nat}{es:List (List IV)}(h: ∀e∈es,e.length=k): ∀e∈es.take i,e.length=k:=fun e he=>h e (List.mem_of_mem_take he)
theorem mem_drop_len{k i:Nat}{es:List (List IV)}(h: ∀e∈es,e.length=k): ∀e∈es.drop i,e.length=k:=fun e he=>h e (List.mem_of_mem_drop he)
theorem chunks_flat{k:Nat}: ∀(es:List (List IV)),(∀e∈es,e.length=k)→chunks k es.length es.flatten=es
 | [],_=>rfl
 |e::es,h=>by
  have he:e.length=k:=h e List.mem_cons_self
  rw[List.length_cons,chunks,List.flatten_cons,List.take_append_of_le_length (by omega),List.drop_append_of_le_length (by omega),List.take_of_length_le (by omega),List.drop_eq_nil_of_le (by omega),List.nil_append,chunks_flat es (fun e h'=>h e (List.mem_cons_of_mem _ h'))]
theorem flat_at{α:Type}{k:Nat}: ∀(es:List (List α)) (i f:Nat) (e:List α) (x:α),(∀e∈es,e.length=k)→es[i]?=some e→e[f]?=some x→es.flatten[i*k+f]?=some x
 | [],i,f,e,x,_,h,_=>by simp at h
 |a::es,0,f,e,x,h,h1,h2=>by
  simp at h1;subst h1
  have:=(List.getElem?_eq_some_iff.1 h2).1
  rw[Nat.zero_mul,Nat.zero_add,List.flatten_cons,List.getElem?_append_left this];exact h2
 |a::es,i+1,f,e,x,h,h1,h2=>by
  have he:a.length=k:=h a List.mem_cons_self
  rw[List.flatten_cons,List.getElem?_append_right (by rw[he,Nat.add_mul];omega),he,show(i+1)*k+f - k=i*k+f by rw[Nat.add_mul];omega]
  exact flat_at es i f e x (fun e h'=>h e (List.mem_cons_of_mem _ h')) (by simpa using h1) h2
theorem flat_pick{α:Type}{k:Nat}(es:List (List α))(i:Nat)(e:List α)(h: ∀e∈es,e.length=k)(h1:es[i]?=some e):(es.flatten.drop (i*k)).take k=e:=by
 have he:e.length=k:=h e (List.mem_of_getElem? h1)
 rw[flat_drop es i h,List.drop_eq_getElem_cons (List.getElem?_eq_some_iff.1 h1).1,(List.getElem?_eq_some_iff.1 h1).2,List.flatten_cons,List.take_append_of_le_length (by omega),List.take_of_length_le (by omega)]
theorem toIs_iv: ∀xs:List IV,toIs (xs.map AV.iv)=some xs
 | [] =>rfl
 |x::xs=>by simp[toIs,AV.toI,toIs_iv xs]
section
variable {P:Program}{c:Ctx}{st:St}{ops:Array Oper}{Q:Exit→Act→World→Prop}{rest:List Oper}{o:Oper}
theorem Inv.recell{E:Env}{a:Act}{w:World}{fr:List (Nat×AV)}{bx:List (Nat×Box)}{tk:List (Nat×Tok)}{id:Nat}{b b':Box}(h:Inv c E ⟨fr,(id,b)::bx,tk⟩ a w)(ht:b.ty=b'.ty)(hc:Subs b.cs b'.cs):Inv c E ⟨fr,(id,b')::bx,tk⟩ a w:=by
 refine⟨h.defers,h.size,h.slot,HInv.wk (st:=⟨fr,(id,b)::bx,tk⟩) (st':=⟨fr,(id,b')::bx,tk⟩) h.heap ⟨fun i hin=> ?_,fun s v hv=>⟨v,hv,Sub.refl _⟩,fun i b1 hi=> ?_,fun i t h=>h⟩⟩
 · have h3:=(h.heap.ins i hin).2.2
   simp only at h3⊢
   by_cases e:i=id
   · subst e;rw[lookup_cons_eq];rfl
   · rw[lookup_cons_ne e] at h3⊢;exact h3
 · simp only at hi⊢
   by_cases e:i=id
   · subst e;rw[lookup_cons_eq] at hi⊢;cases hi;exact⟨b,rfl,ht,hc⟩
   · rw[lookup_cons_ne e] at hi⊢;exact⟨b1,hi,rfl,Subs.refl _⟩
theorem Makes.recell{v:AV}{id:Nat}{b b':Box}{bx:List (Nat×Box)}{tk:List (Nat×Tok)}(h:Makes P c st o v ((id,b)::bx) tk)(ht:b.ty=b'.ty)(hc:Subs b.cs b'.cs):Makes P c st o v ((id,b')::bx) tk:=fun E a w hi=>by
 obtain⟨u,E',w',h1,h2,h3⟩:=h E a w hi
 exact⟨u,E',w',h1,h2.recell ht hc,h3⟩
theorem Does.recell{id:Nat}{b b':Box}{bx:List (Nat×Box)}{tk:List (Nat×Tok)}(h:Does P c st o ((id,b)::bx) tk)(ht:b.ty=b'.ty)(hc:Subs b.cs b'.cs):Does P c st o ((id,b')::bx) tk:=fun E a w hi=>by
 obtain⟨E',w',h1,h2⟩:=h E a w hi
 exact⟨E',w',h1,h2.recell ht hc⟩
theorem Subs.of_eq{l l':List AV}(h:l=l'):Subs l l':=h▸Subs.refl l
theorem Reads.row{y:Operand}{k id off m cap mm i:Nat}{ty:TypeId}{es:List (List IV)}(hy:st.ev y= .bsl id off m cap)(hb:st.bx.lookup id=some ⟨ty,.r es.flatten mm⟩)(hk: ∀e∈es,e.length=k)(hoff:off=i*k)(hle:(i+m)*k≤es.length*k+mm):
 Reads P c st y k m (((es.flatten.map AV.iv++List.replicate mm AV.any).drop off).take (m*k)):=by
 refine Reads.bsl hy hb rfl ?_
 have hl:=flatten_len es hk
 simp only[Box.cs_r,List.length_take,List.length_drop,List.length_append,List.length_map,List.length_replicate,hl,hoff]
 rw[Nat.add_mul] at hle
 omega
theorem row_news{k off m cnt mm i:Nat}{es:List (List IV)}(hk: ∀e∈es,e.length=k)(hoff:off=i*k)(hcm:cnt≤m)(hin:i+cnt≤es.length):
 (((es.flatten.map AV.iv++List.replicate mm AV.any).drop off).take (m*k)).take (cnt*k)=((es.drop i).take cnt).flatten.map AV.iv:=by
 have hl:=flatten_len es hk
 have h1:(i+cnt)*k≤es.length*k:=Nat.mul_le_mul_right k hin
 have h2:cnt*k≤m*k:=Nat.mul_le_mul_right k hcm
 rw[Nat.add_mul] at h1
 rw[List.take_take,Nat.min_eq_left h2,hoff,List.drop_append_of_le_length (by rw[List.length_map,hl];omega),List.take_append_of_le_length (by rw[List.length_drop,List.length_map,hl];omega),←List.map_drop,←List.map_take,flat_drop es i hk,flat_take _ cnt (mem_drop_len hk)]
theorem Makes.copyRR{t t' e:TypeId}{x y:Operand}{k n cnt id off cap id' off' n' cap' mm mm' i i':Nat}{bt bt':TypeId}{es es':List (List IV)}(ho:o.op= .call {callee:= .builtin .copy,args:= #[x,y],argTypes:= #[t,t']})(hs:sliceOk P t e k=true)
 (hx:st.ev x= .bsl id off n cap) (hb:st.bx.lookup id=some ⟨bt,.r es.flatten mm⟩) (hy:st.ev y= .bsl id' off' n' cap') (hb':st.bx.lookup id'=some ⟨bt',.r es'.flatten mm'⟩) (hk: ∀e∈es,e.length=k) (hk': ∀e∈es',e.length=k) (hk0:0<k)
 (hoff:off=i*k) (hoff':off'=i'*k) (hcnt:Nat.min n' n=cnt) (hpos:0<cnt) (hle':(i'+n')*k≤es'.length*k+mm') (hin:i'+cnt≤es'.length) (hi:i≤es.length) (hm:(i+cnt)*k≤es.length*k+mm):
 Makes P c st o (aI cnt) ((id,⟨bt,.r (es.take i++((es'.drop i').take cnt++es.drop (i+cnt))).flatten (mm - (i+cnt - es.length)*k)⟩)::st.bx) st.tk:=by
 have hcm:cnt≤n':=by rw[←hcnt];exact Nat.min_le_left _ _
 have hl:=flatten_len es hk
 have hnl:((es'.drop i').take cnt).length=cnt:=by rw[List.length_take,List.length_drop];omega
 have h:=Makes.copyB (c:=c) ho hs hx hb (Reads.row hy hb' hk' hoff' hle') hcnt hpos hk0 (by
  rw[Nat.add_mul] at hm
  simp only[Box.cs_r,List.length_append,List.length_map,List.length_replicate,hl,hoff];omega)
 refine h.recell rfl (Subs.of_eq ?_)
 rw[row_news hk' hoff' hcm hin]
 simp only[Box.cs_l,Box.cs_r]
 have:=setA_row (m:=mm) hk (mem_take_len (i:=cnt) (mem_drop_len (i:=i') hk')) hi
 rw[hnl] at this
 rw[hoff];exact this
theorem Makes.copyRP{t t' e:TypeId}{x y:Operand}{k n id off cap mm i:Nat}{bt:TypeId}{es news:List (List IV)}(ho:o.op= .call {callee:= .builtin .copy,args:= #[x,y],argTypes:= #[t,t']})(hs:sliceOk P t e k=true)
 (hx:st.ev x= .bsl id off n cap) (hb:st.bx.lookup id=some ⟨bt,.r es.flatten mm⟩) (hy:(st.ev y).sl?=some news) (hk: ∀e∈es,e.length=k) (hk': ∀e∈news,e.length=k) (hk0:0<k)
 (hoff:off=i*k) (hcnt:news.length≤n) (hne:news≠ []) (hi:i≤es.length) (hm:(i+news.length)*k≤es.length*k+mm):
 Makes P c st o (aI news.length) ((id,⟨bt,.r (es.take i++(news++es.drop (i+news.length))).flatten (mm - (i+news.length - es.length)*k)⟩)::st.bx) st.tk:=by
 have hl:=flatten_len es hk
 have h:=Makes.copyB (c:=c) ho hs hx hb (Reads.pub hy hk' hk0 rfl) (Nat.min_eq_left hcnt) (List.length_pos_iff.2 hne) hk0 (by
  rw[Nat.add_mul] at hm
  simp only[Box.cs_r,List.length_append,List.length_map,List.length_replicate,hl,hoff];omega)
 refine h.recell rfl (Subs.of_eq ?_)
 rw[List.take_of_length_le (by rw[List.length_map,flatten_len news hk'];exact Nat.le_refl _)]
 simp only[Box.cs_l,Box.cs_r]
 rw[hoff];exact setA_row hk hk' hi
theorem Makes.roomRR{t t' e:TypeId}{d:TypeDesc}{x y:Operand}{k n id cap id' off' n' cap' mm mm' i':Nat}{bt bt':TypeId}{es es':List (List IV)}{i:TypeInfo}(ho:o.op= .call {callee:= .builtin .append,args:= #[x,y],argTypes:= #[t,t']})(ht:P.underlying t=some (.slice e))(hi0:P.info? e=some i)(hik:i.size=k)
 (hd:P.underlying t'=some d) (hn:notInt d) (hx:st.ev x= .bsl id 0 n cap) (hb:st.bx.lookup id=some ⟨bt,.r es.flatten mm⟩) (hbn:(⟨bt,.r es.flatten mm⟩:Box).cs≠ []) (hy:st.ev y= .bsl id' off' n' cap') (hb':st.bx.lookup id'=some ⟨bt',.r es'.flatten mm'⟩) (hk: ∀e∈es,e.length=k) (hk': ∀e∈es',e.length=k)
 (hoff':off'=i'*k) (hin:i'+n'≤es'.length) (hc0:0<cap) (hroom:n+n'≤cap) (hi:n≤es.length) (hm:(n+n')*k≤es.length*k+mm):
 Makes P c st o (.bsl id 0 (n+n') cap) ((id,⟨bt,.r (es.take n++((es'.drop i').take n'++es.drop (n+n'))).flatten (mm - (n+n' - es.length)*k)⟩)::st.bx) st.tk:=by
 have hl:=flatten_len es hk
 have hnl:((es'.drop i').take n').length=n':=by rw[List.length_take,List.length_drop];omega
 have hle':(i'+n')*k≤es'.length*k+mm':=Nat.le_trans (Nat.mul_le_mul_right k hin) (Nat.le_add_right _ _)
 have h:=Makes.roomB (c:=c) ho ht hi0 hik hd hn hx hb hbn (Reads.row hy hb' hk' hoff' hle') hc0 hroom (by
  simp only[Box.cs_r,List.length_append,List.length_map,List.length_replicate,hl];exact hm)
 refine h.recell rfl (Subs.of_eq ?_)
 have h2:=row_news (mm:=mm') hk' hoff' (Nat.le_refl n') hin
 rw[List.take_of_length_le (by rw[List.length_take];omega)] at h2
 rw[h2]
 simp only[Box.cs_l,Box.cs_r]
 have:=setA_row (m:=mm) hk (mem_take_len (i:=n') (mem_drop_len (i:=i') hk')) hi
 rw[hnl] at this
 exact this
theorem Makes.roomRP{t t' e:TypeId}{d:TypeDesc}{x y:Operand}{k n id cap mm:Nat}{bt:TypeId}{es news:List (List IV)}{i:TypeInfo}(ho:o.op= .call {callee:= .builtin .append,args:= #[x,y],argTypes:= #[t,t']})(ht:P.underlying t=some (.slice e))(hi0:P.info? e=some i)(hik:i.size=k)
 (hd:P.underlying t'=some d) (hn:notInt d) (hx:st.ev x= .bsl id 0 n cap) (hb:st.bx.lookup id=some ⟨bt,.r es.flatten mm⟩) (hbn:(⟨bt,.r es.flatten mm⟩:Box).cs≠ []) (hy:(st.ev y).sl?=some news) (hk: ∀e∈es,e.length=k) (hk': ∀e∈news,e.length=k) (hk0:0<k)
 (hc0:0<cap) (hroom:n+news.length≤cap) (hi:n≤es.length) (hm:(n+news.length)*k≤es.length*k+mm):
 Makes P c st o (.bsl id 0 (n+news.length) cap) ((id,⟨bt,.r (es.take n++(news++es.drop (n+news.length))).flatten (mm - (n+news.length - es.length)*k)⟩)::st.bx) st.tk:=by
 have hl:=flatten_len es hk
 have h:=Makes.roomB (c:=c) ho ht hi0 hik hd hn hx hb hbn (Reads.pub hy hk' hk0 rfl) hc0 hroom (by
  simp only[Box.cs_r,List.length_append,List.length_map,List.length_replicate,hl];exact hm)
 refine h.recell rfl (Subs.of_eq ?_)
 simp only[Box.cs_l,Box.cs_r]
 exact setA_row hk hk' hi
theorem Adds.row{y:Operand}{k id off n cap mm i:Nat}{ty:TypeId}{es:List (List IV)}(hy:st.ev y= .bsl id off n cap)(hb:st.bx.lookup id=some ⟨ty,.r es.flatten mm⟩)(hk: ∀e∈es,e.length=k)(hk0:0<k)(hoff:off=i*k)(hn0:0<n)(hin:i+n≤es.length):
 Adds P c st y k ((es.drop i).take n):=fun E a w hi=>by
 have h:=hi.ev y;rw[hy] at h
 obtain⟨o',hq,hn,hm,hoo⟩:=h.bsl_inv
 have hoe:=hoo (by omega)
 obtain⟨arr,rst,_,hra,h1,_,hc⟩:=hi.boxCell hb
 have hl:=flatten_len es hk
 have hnl:((es.drop i).take n).length=n:=by rw[List.length_take,List.length_drop];omega
 have hal:arr.length=es.length*k+mm:=by rw[hra.1];simp only[Box.cs_r,List.length_append,List.length_map,List.length_replicate,hl]
 have h2:(i+n)*k≤es.length*k:=Nat.mul_le_mul_right k hin
 rw[Nat.add_mul] at h2
 have hul:((arr.drop off).take (n*k)).length=n*k:=by rw[List.length_take,List.length_drop,hal,hoff];omega
 refine⟨(arr.drop off).take (n*k),?_,by rw[hnl,hul],fun u hu=>h1 u (List.mem_of_mem_drop (List.mem_of_mem_take hu)),fun p e j x v h3 h4 h5=> ?_⟩
 · rw[hq,hnl,hoe]
   exact Src.some hul (fun j v hv=>by
    have hj:=(List.getElem?_eq_some_iff.1 hv).1
    rw[hul] at hj
    rw[List.getElem?_take,if_pos hj,List.getElem?_drop] at hv
    rw[Addr.add_none,hc _ (List.getElem?_eq_some_iff.1 hv).1];exact hv)
 · have hpl:=(List.getElem?_eq_some_iff.1 h3).1
   rw[hnl] at hpl
   rw[List.getElem?_take,if_pos hpl,List.getElem?_drop] at h3
   have hx:=flat_at es (i+p) j e x hk h3 h4
   have hek:e.length=k:=hk e (List.mem_of_getElem? h3)
   have hjk:=(List.getElem?_eq_some_iff.1 h4).1
   have hpj:p*k+j<n*k:=by
    have:(p+1)*k≤n*k:=Nat.mul_le_mul_right k hpl
    rw[Nat.add_mul] at this;omega
   rw[List.getElem?_take,if_pos hpj,List.getElem?_drop] at h5
   have hidx:off+(p*k+j)=(i+p)*k+j:=by rw[hoff,Nat.add_mul];omega
   rw[hidx] at h5
   have hcs:(⟨ty,.r es.flatten mm⟩:Box).cs[(i+p)*k+j]?=some (.iv x):=by
    simp only[Box.cs_r]
    rw[List.getElem?_append_left (by rw[List.length_map];exact(List.getElem?_eq_some_iff.1 hx).1),List.getElem?_map,hx];rfl
   exact(hra.2 _ _ v hcs h5).iv_inv
theorem Makes.growR{t t' e:TypeId}{d:TypeDesc}{x y:Operand}{id id' k bytes:Nat}{i:TypeInfo}{z:Value}{n cap mm:Nat}{bt:TypeId}{es news:List (List IV)}
 (ho:o.op= .call {callee:= .builtin .append,args:= #[x,y],argTypes:= #[t,t']}) (ht:P.underlying t=some (.slice e)) (hi0:P.info? e=some i) (hik:i.size=k) (hib:i.bytes=bytes) (hiz:i.zero=some z) (hzk:z.cells.size=k) (hz1: ∀u∈z.cells.toList,u.oneCell'=true)
 (hd:P.underlying t'=some d) (hn:notInt d) (hk0:0<k) (hx:st.ev x= .bsl id 0 n cap) (hb:st.bx.lookup id=some ⟨bt,.r es.flatten mm⟩) (hk: ∀e∈es,e.length=k) (hi:n≤es.length) (hcap:cap<n+news.length) (hnk: ∀e∈news,e.length=k) (hy:Adds P c st y k news) (hne:news≠ [])
 (hm:n+news.length≤maxLen) (hby:(n+news.length)*bytes≤140737488355328) (hf:st.fresh id'=true):
 Makes P c st o (.bsh id' 0 (n+news.length) k) ((id',⟨e,.r (es.take n++news).flatten 0⟩)::st.bx) st.tk:=by
 have hl:=flatten_len es hk
 have h1:n*k≤es.length*k:=Nat.mul_le_mul_right k hi
 have hold:(((⟨bt,.r es.flatten mm⟩:Box).cs.drop 0).take (n*k))=(es.take n).flatten.map AV.iv:=by
  simp only[Box.cs_r,List.drop_zero]
  rw[List.take_append_of_le_length (by rw[List.length_map,hl];exact h1),←List.map_take,flat_take es n hk]
 have h:=Makes.growB (c:=c) ho ht hi0 hik hib hiz hzk hz1 hd hn hk0 hx hb hold (by rw[List.length_map,flatten_len _ (mem_take_len hk),List.length_take];congr 1;omega) hcap hnk hy hne hm hby hf rfl (ments_iv _ _) (ments_iv _ _)
 exact h.recell rfl (Subs.of_eq (by simp))
theorem Makes.growRZ{t t' e:TypeId}{kd kd':IntKind}{x y:Operand}{m:Nat}{id id' k bytes:Nat}{i:TypeInfo}{z:Value}{n cap mm:Nat}{bt:TypeId}{es:List (List IV)}
 (ho:o.op= .call {callee:= .builtin .append,args:= #[x,y],argTypes:= #[t,t']}) (ht:P.underlying t=some (.slice e)) (hi0:P.info? e=some i) (hik:i.size=k) (hib:i.bytes=bytes) (hiz:i.zero=some z) (hzk:z.cells.size=k) (hz1: ∀u∈z.cells.toList,u.oneCell'=true)
 (hd:P.underlying t'=some (.int kd)) (hk0:0<k) (hx:st.ev x= .bsl id 0 n cap) (hb:st.bx.lookup id=some ⟨bt,.r es.flatten mm⟩) (hk: ∀e∈es,e.length=k) (hi:n≤es.length) (hcap:cap<n+m) (hy:st.ev y= .iv (.im (.int kd' (m:Int)))) (hpos:0<m)
 (hm:n+m≤maxLen) (hby:(n+m)*bytes≤140737488355328) (hf:st.fresh id'=true):
 Makes P c st o (.bsh id' 0 (n+m) k) ((id',⟨e,.r (es.take n).flatten (m*k)⟩)::st.bx) st.tk:=by
 have hl:=flatten_len es hk
 have h1:n*k≤es.length*k:=Nat.mul_le_mul_right k hi
 have hold:(((⟨bt,.r es.flatten mm⟩:Box).cs.drop 0).take (n*k))=(es.take n).flatten.map AV.iv:=by
  simp only[Box.cs_r,List.drop_zero]
  rw[List.take_append_of_le_length (by rw[List.length_map,hl];exact h1),←List.map_take,flat_take es n hk]
 have h:=Makes.growZ (c:=c) ho ht hi0 hik hib hiz hzk hz1 hd hk0 hx hb hold (by rw[List.length_map,flatten_len _ (mem_take_len hk),List.length_take];congr 1;omega) hcap hy hpos hm hby hf (ments_iv _ _)
 exact h.recell rfl (Subs.of_eq (by simp))
theorem Makes.cloneR{t t' e:TypeId}{d:TypeDesc}{x y:Operand}{id id' k off bytes:Nat}{i:TypeInfo}{z:Value}{news:List (List IV)}
 (ho:o.op= .call {callee:= .builtin .append,args:= #[x,y],argTypes:= #[t,t']}) (ht:P.underlying t=some (.slice e)) (hi0:P.info? e=some i) (hik:i.size=k) (hib:i.bytes=bytes) (hiz:i.zero=some z) (hzk:z.cells.size=k) (hz1: ∀u∈z.cells.toList,u.oneCell'=true)
 (hd:P.underlying t'=some d) (hn:notInt d) (hk0:0<k) (hx:st.ev x= .bsl id off 0 0) (hnk: ∀e∈news,e.length=k) (hy:Adds P c st y k news) (hne:news≠ [])
 (hm:news.length≤maxLen) (hby:news.length*bytes≤140737488355328) (hf:st.fresh id'=true):
 Makes P c st o (.bsh id' 0 news.length k) ((id',⟨e,.r news.flatten 0⟩)::st.bx) st.tk:=
 (Makes.cloneB (c:=c) ho ht hi0 hik hib hiz hzk hz1 hd hn hk0 hx hnk hy hne hm hby hf rfl (ments_iv _ _)).recell rfl (Subs.of_eq (by simp))
theorem Makes.nilR{t t' e:TypeId}{d:TypeDesc}{x y:Operand}{id' k bytes:Nat}{i:TypeInfo}{z:Value}{news:List (List IV)}
 (ho:o.op= .call {callee:= .builtin .append,args:= #[x,y],argTypes:= #[t,t']}) (ht:P.underlying t=some (.slice e)) (hi0:P.info? e=some i) (hik:i.size=k) (hib:i.bytes=bytes) (hiz:i.zero=some z) (hzk:z.cells.size=k) (hz1: ∀u∈z.cells.toList,u.oneCell'=true)
 (hd:P.underlying t'=some d) (hn:notInt d) (hk0:0<k) (hx:st.ev x= .nils) (hnk: ∀e∈news,e.length=k) (hy:Adds P c st y k news) (hne:news≠ [])
 (hm:news.length≤maxLen) (hby:news.length*bytes≤140737488355328) (hf:st.fresh id'=true):
 Makes P c st o (.bsh id' 0 news.length k) ((id',⟨e,.r news.flatten 0⟩)::st.bx) st.tk:=
 (Makes.cloneB0 (c:=c) ho ht hi0 hik hib hiz hzk hz1 hd hn hk0 (fun E a w hi=>by
   have h:=hi.ev x;rw[hx] at h
   generalize a.eval x=u at h⊢
   cases h;exact⟨none,rfl⟩) hnk hy hne hm hby hf rfl (ments_iv _ _)).recell rfl (Subs.of_eq (by simp))
theorem Yields.app0{t t' e e':TypeId}{k k':Nat}{x y:Operand}(ho:o.op= .call {callee:= .builtin .append,args:= #[x,y],argTypes:= #[t,t']})(hs:sliceOk P t e k=true)(hs':sliceOk P t' e' k'=true)(hx:(st.ev x).sl?=some [])(hy:(st.ev y).sl?=some []):Yields P c st o (.iv (.sl [])):=fun E a w hi=>by
 obtain⟨hu,inf,hinf,hsz⟩:=sliceOk_run hs
 obtain⟨hu',_⟩:=sliceOk_run hs'
 have h1:RepI E.φ w (.sl []) (a.eval x):=(hi.ev x).sl hx
 have h2:RepI E.φ w (.sl []) (a.eval y):=(hi.ev y).sl hy
 have hy2:(Builtin.lenOf (a.eval y)).run P w= .ok 0 w∧(Builtin.firstCells inf.size 0 (a.eval y)).run P w= .ok #[] w:=by
  generalize a.eval y=uy at h2
  rcases h2.sl_inv with⟨hq,_⟩|⟨ad,cap,hq,_,_,_⟩|⟨b,o',cap,k',f,hq,hc,_⟩
  · rw[hq];exact⟨rfl,by simp[Builtin.firstCells]⟩
  · rw[hq];exact⟨rfl,by simp[Builtin.firstCells,loadCells,loadCellsFrom]⟩
  · rw[hq];exact⟨rfl,by simp[Builtin.firstCells,loadCells,loadCellsFrom]⟩
 have hap:(Builtin.append_ #[t,t'] o.type #[a.eval x,a.eval y]).run P w= .ok (a.eval x) w:=by
  rcases h1.sl_inv with⟨hq,_⟩|⟨ad,cap,hq,_,_,_⟩|⟨b,o',cap,k',f,hq,hc,_⟩
  · rw[hq];simp[Builtin.append_,run_underlying hu,run_underlying hu',sizeOf,typeInfo,hinf,hy2.1,hy2.2]
  · rw[hq];cases ad<;>simp[Builtin.append_,run_underlying hu,run_underlying hu',sizeOf,typeInfo,hinf,hy2.1,hy2.2,storeCells]
  · rw[hq];simp[Builtin.append_,run_underlying hu,run_underlying hu',sizeOf,typeInfo,hinf,hy2.1,hy2.2,storeCells]
 exact⟨a.eval x,by simp[execOp,ho,resolve,invoke,builtin,hap],.iv h1⟩
end
end Go.Abs
