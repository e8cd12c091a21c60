/- Several texts in one, each with its own sentence ahead of it. Conditions: each one says its own. -/
import Derived.Test.YtadjbegnlimepaaGreatDoorZS8
set_option linter.all false
namespace Go.Abs
variable [Dr]
set_option linter.unusedSectionVars false
open Go.RowKit (Below)
set_option linter.unusedVariables false
section
variable {P:Program}{c:Ctx}{st:St}{ops:Array Oper}{Q:Exit→Act→World→Prop}{rest:List Oper}{o:Oper}
def Reads(P:Program)(c:Ctx)(st:St)(y:Operand)(k m:Nat)(new:List AV):Prop:=
 ∀(E:Env) (a:Act) (w:World),Inv c E st a w→ ∃us:List Value,(Builtin.lenOf (a.eval y)).run P w= .ok m w∧(∀j,j≤m→(Builtin.firstCells k j (a.eval y)).run P w= .ok (us.take (j*k)).toArray w)∧RelL E w new us∧us.length=m*k∧ ∀u∈us,u.oneCell'=true
theorem Reads.bsl{y:Operand}{k id off m cap:Nat}{b:Box}{new:List AV}(hy:st.ev y= .bsl id off m cap)(hb:st.bx.lookup id=some b)(hn:(b.cs.drop off).take (m*k)=new)(hl:new.length=m*k):Reads P c st y k m new:=fun E a w hi=>by
 have h:=hi.ev y;rw[hy] at h
 obtain⟨o',hq,hn',hm,hoo⟩:=h.bsl_inv
 obtain⟨arr,rest,_,hr,h1,_,hc⟩:=hi.boxCell hb
 refine⟨(arr.drop off).take (m*k),by rw[hq];rfl,fun j hj=> ?_,by rw[←hn];exact(hr.drop off).take _,by rw[((hr.drop off).take (m*k)).1,hn,hl],fun u hu=>h1 u (List.mem_of_mem_drop (List.mem_of_mem_take hu))⟩
 have hlen:((arr.drop off).take (m*k)).length=m*k:=by rw[((hr.drop off).take (m*k)).1,hn,hl]
 have hjk:j*k≤m*k:=Nat.mul_le_mul_right k hj
 have hl2:(((arr.drop off).take (m*k)).take (j*k)).length=j*k:=by rw[List.length_take,hlen];omega
 rw[hq]
 refine run_firstCells_some w k j _ m cap _ hl2 (fun p v hv=> ?_)
 have hp:=(List.getElem?_eq_some_iff.1 hv).1
 rw[hl2] at hp
 have hcap:cap≠0:=fun e=>by
  have:m=0:=by omega
  subst this;simp at hjk;omega
 rw[hoo hcap]
 rw[List.getElem?_take,if_pos hp,List.getElem?_take,if_pos (by omega),List.getElem?_drop] at hv
 simp only[Addr.add_none]
 rw[hc _ (List.getElem?_eq_some_iff.1 hv).1]
 exact hv
theorem Makes.copyB{t t' e:TypeId}{x y:Operand}{k n m cnt id off cap:Nat}{b:Box}{new:List AV}(ho:o.op= .call {callee:= .builtin .copy,args:= #[x,y],argTypes:= #[t,t']})(hs:sliceOk P t e k=true)
 (hx:st.ev x= .bsl id off n cap) (hb:st.bx.lookup id=some b) (hy:Reads P c st y k m new) (hcnt:Nat.min m n=cnt) (hpos:0<cnt) (hk0:0<k) (hle:off+cnt*k≤b.cs.length):
 Makes P c st o (aI cnt) ((id,⟨b.ty,setA b.cs off (new.take (cnt*k))⟩)::st.bx) st.tk:=fun E a w hi=>by
 obtain⟨hu,inf,hinf,hsz⟩:=sliceOk_run hs
 have h:=hi.ev x;rw[hx] at h
 obtain⟨o',hq,hn',hm,hoo⟩:=h.bsl_inv
 have hcm:cnt≤m:=by rw[←hcnt];exact Nat.min_le_left _ _
 have hcn:cnt≤n:=by rw[←hcnt];exact Nat.min_le_right _ _
 have hoe:=hoo (by omega)
 subst hoe
 have hck:0<cnt*k:=Nat.mul_pos hpos hk0
 have hbn:b.cs≠ []:=fun e=>by rw[e] at hle;simp at hle;omega
 obtain⟨us,hlen,hf,hr,hul,h1u⟩:=hy E a w hi
 obtain⟨arr,rst,ha,hra,h1,h1r,hc⟩:=hi.boxCell hb
 have hfc:=hf cnt hcm
 have hrn:=hr.take (cnt*k)
 have hmk:cnt*k≤m*k:=Nat.mul_le_mul_right k hcm
 have hul':(us.take (cnt*k)).length=cnt*k:=by rw[List.length_take,hul];omega
 have hnl:(new.take (cnt*k)).length=cnt*k:=by rw[←hrn.1,hul']
 have h1v: ∀u∈us.take (cnt*k),u.oneCell'=true:=fun u hu=>h1u u (List.mem_of_mem_take hu)
 have hal:o'+cnt*k≤arr.length:=by rw[hra.1];exact hle
 have hrun:=run_storeCells_at P (E.ρ id) o' b.ty (us.take (cnt*k)) 0 (arr++rst).toArray w (ha hbn) (by rw[hul'];simp;omega) h1v
 have hnew:RelL E w (setA b.cs o' (new.take (cnt*k))) (arr.take o'++(us.take (cnt*k)++arr.drop (o'+cnt*k))):=by
  unfold setA;rw[hnl];exact(hra.take o').append (hrn.append (hra.drop (o'+cnt*k)))
 have hrun':(storeCells ⟨E.ρ id,o',none⟩ (us.take (cnt*k))).run P w= .ok () (w.setRow (E.ρ id) ((arr.take o'++(us.take (cnt*k)++arr.drop (o'+cnt*k)))++rst).toArray):=by
  rw[hrun];simp only[Nat.add_zero,hul',List.append_assoc]
  rw[List.take_append_of_le_length (by omega),List.drop_append_of_le_length hal]
 refine⟨.int .i64 cnt,E,_,?_,hi.setBox hb hbn (ha hbn) h1r (us:=arr.take o'++(us.take (cnt*k)++arr.drop (o'+cnt*k))) ?_ hnew ?_,.iv (.im rfl)⟩
 · simp[execOp,ho,resolve,invoke,builtin,Builtin.copy_,run_underlying hu,hq,hlen,hcnt,sizeOf,typeInfo,hinf,hsz,hfc,hrun',goInt]
 · simp only[List.length_append,List.length_take,List.length_drop,hul];omega
 · intro u hu
   rcases List.mem_append.1 hu with hu|hu
   · exact h1 u (List.mem_of_mem_take hu)
   · rcases List.mem_append.1 hu with hu|hu
     · exact h1v u hu
     · exact h1 u (List.mem_of_mem_drop hu)
theorem app_room2{P:Program}{w:World}{t t' ty e:TypeId}{d:TypeDesc}{i:TypeInfo}{x:Value}{m:Nat}{news:List Value}(ht:P.underlying t=some (.slice e))(hd:P.underlying t'=some d)(hn:notInt d)(hi:P.info? e=some i)
 (hs1:(Builtin.lenOf x).run P w= .ok m w) (hs2:(Builtin.firstCells i.size m x).run P w= .ok news.toArray w) {g n cap:Nat} {cur:Array Value} {ty0:TypeId} (hg:w.heap[g]?=some (.cells cur ty0 (0,0))) (h1: ∀u∈news,u.oneCell'=true) (hroom:n+m≤cap)
 (hfit:n*i.size+news.length≤cur.size):
 (Builtin.append_ #[t,t'] ty #[.slice (some ⟨g,0,none⟩) n cap,x]).run P w=
   .ok (.slice (some ⟨g,0,none⟩) (n+m) cap) (w.setRow g (cur.toList.take (n*i.size)++news++cur.toList.drop (n*i.size+news.length)).toArray):=by
 have hst:=run_storeCells_at P g (n*i.size) ty0 news 0 cur w hg (by simpa using hfit) h1
 simp only[Nat.add_zero] at hst
 rcases hn with⟨e',rfl⟩|rfl<;>simp[Builtin.append_,run_underlying ht,run_underlying hd,sizeOf,typeInfo,hi,hs1,hroom,hs2,Addr.add_none,hst]
theorem Makes.roomB{t t' e:TypeId}{d:TypeDesc}{x y:Operand}{k n m id cap:Nat}{i:TypeInfo}{b:Box}{new:List AV}(ho:o.op= .call {callee:= .builtin .append,args:= #[x,y],argTypes:= #[t,t']})(ht:P.underlying t=some (.slice e))(hi0:P.info? e=some i)(hik:i.size=k)
 (hd:P.underlying t'=some d) (hn:notInt d) (hx:st.ev x= .bsl id 0 n cap) (hb:st.bx.lookup id=some b) (hbn:b.cs≠ []) (hy:Reads P c st y k m new) (hc0:0<cap) (hroom:n+m≤cap) (hle:(n+m)*k≤b.cs.length):
 Makes P c st o (.bsl id 0 (n+m) cap) ((id,⟨b.ty,setA b.cs (n*k) new⟩)::st.bx) st.tk:=fun E a w hi=>by
 subst hik
 have h:=hi.ev x;rw[hx] at h
 obtain⟨o',hq,hn',hm,hoo⟩:=h.bsl_inv
 have hoe:o'=0:=hoo (by omega)
 rw[hoe] at hq
 obtain⟨us,hlen,hf,hr,hul,h1u⟩:=hy E a w hi
 obtain⟨arr,rst,ha,hra,h1,h1r,hc⟩:=hi.boxCell hb
 have hfc:=hf m (Nat.le_refl _)
 rw[List.take_of_length_le (by rw[hul];exact Nat.le_refl _)] at hfc
 have hal:n*i.size+m*i.size≤arr.length:=by rw[hra.1,←Nat.add_mul];exact hle
 have hnl:new.length=m*i.size:=by rw[←hr.1,hul]
 have hrun:=app_room2 (ty:=o.type) ht hd hn hi0 hlen hfc (ha hbn) h1u hroom (n:=n) (by rw[hul];simp;omega)
 have hnew:RelL E w (setA b.cs (n*i.size) new) (arr.take (n*i.size)++(us++arr.drop (n*i.size+m*i.size))):=by
  unfold setA;rw[hnl];exact(hra.take _).append (hr.append (hra.drop _))
 have hw:(((arr++rst).toArray.toList.take (n*i.size)++us++(arr++rst).toArray.toList.drop (n*i.size+us.length)).toArray)=((arr.take (n*i.size)++(us++arr.drop (n*i.size+m*i.size)))++rst).toArray:=by
  simp only[hul,List.append_assoc]
  rw[List.take_append_of_le_length (by omega),List.drop_append_of_le_length hal]
 rw[hw] at hrun
 refine⟨_,E,_,?_,hi.setBox hb hbn (ha hbn) h1r (us:=arr.take (n*i.size)++(us++arr.drop (n*i.size+m*i.size))) ?_ hnew ?_,.bsl (o:=0) hroom hm (fun _=>rfl) rfl⟩
 · simp[execOp,ho,resolve,invoke,builtin,hq,hrun]
 · simp only[List.length_append,List.length_take,List.length_drop,hul];omega
 · intro u hu
   rcases List.mem_append.1 hu with hu|hu
   · exact h1 u (List.mem_of_mem_take hu)
   · rcases List.mem_append.1 hu with hu|hu
     · exact h1u u hu
     · exact h1 u (List.mem_of_mem_drop hu)
theorem Reads.pub{y:Operand}{k:Nat}{news:List (List IV)}{cs:List AV}(hy:(st.ev y).sl?=some news)(hk: ∀e∈news,e.length=k)(hk0:0<k)(hcs:news.flatten.map .iv=cs):Reads P c st y k news.length cs:=fun E a w hi=>by
 obtain⟨us,hl,h1,hr,hc⟩:=((hi.ev y).sl hy).cellsOf hk hk0
 have hcl:cs.length=news.length*k:=by rw[←hcs,List.length_map,flatten_len news hk]
 have hrel:RelL E w cs us:=⟨by rw[hl,hcl],fun p x u hx hu=>by
  rw[←hcs,List.getElem?_map,Option.map_eq_some_iff] at hx
  obtain⟨x',hx',rfl⟩:=hx
  obtain⟨e',h2,h3⟩:=flatten_get hk0 news p x' hk hx'
  have hp:p / k*k+p % k=p:=by rw[Nat.mul_comm];exact Nat.div_add_mod p k
  exact .iv (hr _ e' _ x' u h2 h3 (by rw[hp];exact hu))⟩
 rcases hc with⟨hq,rfl⟩|⟨ad,cap,hq,_,rfl⟩|⟨b,o,cap,hq,_,_,hcell⟩
 · refine⟨us,by rw[hq];rfl,fun j hj=> ?_,hrel,hl,h1⟩
   have:j=0:=by simpa using hj
   subst this;rw[hq];simp[Builtin.firstCells]
 · refine⟨us,by rw[hq];rfl,fun j hj=> ?_,hrel,hl,h1⟩
   have:j=0:=by simpa using hj
   subst this;rw[hq];simp[Builtin.firstCells,loadCells,loadCellsFrom]
 · refine⟨us,by rw[hq];rfl,fun j hj=> ?_,hrel,hl,h1⟩
   have hjk:j*k≤news.length*k:=Nat.mul_le_mul_right k hj
   have hl2:(us.take (j*k)).length=j*k:=by rw[List.length_take,hl];omega
   rw[hq]
   refine run_firstCells_some w k j _ news.length cap _ hl2 (fun p v hv=> ?_)
   have hp:=(List.getElem?_eq_some_iff.1 hv).1
   rw[hl2] at hp
   rw[List.getElem?_take,if_pos hp] at hv
   simp only[Addr.add_none]
   rw[(hcell p (by omega)).1];exact hv
theorem L.clearB{t e:TypeId}{x:Operand}{k n id off cap:Nat}{i:TypeInfo}{z:Value}{b:Box}(hg:o.guard=none)(hd:o.dst=none)(ho:o.op= .call {callee:= .builtin .clear,args:= #[x],argTypes:= #[t]})(ht:P.underlying t=some (.slice e))
 (hi0:P.info? e=some i) (hiz:i.zero=some z) (hzk:z.cells.size=k) (hz1: ∀u∈z.cells.toList,u.oneCell'=true) (hk0:0<k) (hx:st.ev x= .bsl id off n cap) (hb:st.bx.lookup id=some b) (hn0:0<n) (hle:off+n*k≤b.cs.length)
 (h:L c ⟨st.fr,(id,⟨b.ty,setA b.cs off (List.replicate (n*k) .any)⟩)::st.bx,st.tk⟩ (wpList P ops Q rest)):L c st (wpList P ops Q (o::rest)):=by
 rintro a w ⟨E,hi⟩
 have hv:=hi.ev x;rw[hx] at hv
 obtain⟨o',hq,hn',hm,hoo⟩:=hv.bsl_inv
 have hoe:o'=off:=hoo (by omega)
 rw[hoe] at hq
 have hnk:0<n*k:=Nat.mul_pos hn0 hk0
 have hbn:b.cs≠ []:=fun e=>by rw[e] at hle;simp at hle;omega
 obtain⟨arr,rst,ha,hra,h1,h1r,hc⟩:=hi.boxCell hb
 have hal:off+n*k≤arr.length:=by rw[hra.1];exact hle
 have hzl:(Builtin.zeroCells z.cells n).toList.length=n*k:=by rw[Array.length_toList,size_zeroCells,hzk]
 have hz2: ∀u∈(Builtin.zeroCells z.cells n).toList,u.oneCell'=true:=fun u hu=>by
  simp only[Builtin.zeroCells,Array.toList_map,Array.toList_range,List.mem_map,List.mem_range] at hu
  obtain⟨p,_,rfl⟩:=hu
  have hlt:p % z.cells.size<z.cells.size:=Nat.mod_lt _ (by rw[hzk];exact hk0)
  rw[getElem!_pos z.cells _ hlt]
  exact hz1 _ (by simp)
 have hrun:=run_storeCells_at P (E.ρ id) off b.ty (Builtin.zeroCells z.cells n).toList 0 (arr++rst).toArray w (ha hbn) (by rw[hzl];simp;omega) hz2
 have hrun':(storeCells ⟨E.ρ id,off,none⟩ (Builtin.zeroCells z.cells n).toList).run P w= .ok () (w.setRow (E.ρ id) ((arr.take off++((Builtin.zeroCells z.cells n).toList++arr.drop (off+n*k)))++rst).toArray):=by
  rw[hrun];simp only[Nat.add_zero,hzl,List.append_assoc]
  rw[List.take_append_of_le_length (by omega),List.drop_append_of_le_length hal]
 have hany:RelL E w (List.replicate (n*k) .any) (Builtin.zeroCells z.cells n).toList:=⟨by rw[hzl,List.length_replicate],fun p x u hx hu=>by
  simp only[List.getElem?_replicate] at hx
  split at hx
  · cases hx;exact .any
  · cases hx⟩
 have hnew:RelL E w (setA b.cs off (List.replicate (n*k) .any)) (arr.take off++((Builtin.zeroCells z.cells n).toList++arr.drop (off+n*k))):=by
  unfold setA;rw[List.length_replicate];exact(hra.take off).append (hany.append (hra.drop _))
 have hex:(execOp a.eval o).run P w= .ok (.value (.tuple #[])) (w.setRow (E.ρ id) ((arr.take off++((Builtin.zeroCells z.cells n).toList++arr.drop (off+n*k)))++rst).toArray):=by
  obtain⟨n',rfl⟩: ∃n',n=n'+1:=⟨n - 1,by omega⟩
  simp[execOp,ho,resolve,invoke,builtin,Builtin.clear_,run_underlying ht,hq,zeroValue,typeInfo,hi0,hiz,hrun']
 refine wpList_plain hg (fun K hK=>Oper.wp_value hex (hK _ _ ?_))
 rw[hd]
 refine h _ _ ⟨E,hi.setBox hb hbn (ha hbn) h1r (us:=arr.take off++((Builtin.zeroCells z.cells n).toList++arr.drop (off+n*k))) ?_ hnew ?_⟩
 · simp only[List.length_append,List.length_take,List.length_drop,hzl];omega
 · intro u hu
   rcases List.mem_append.1 hu with hu|hu
   · exact h1 u (List.mem_of_mem_take hu)
   · rcases List.mem_append.1 hu with hu|hu
     · exact hz2 u hu
     · exact h1 u (List.mem_of_mem_drop hu)
theorem growB_core{E:Env}{a:Act}{w:World}(hi:Inv c E st a w){o':Nat}{t t' e:TypeId}{d:TypeDesc}{x y:Operand}{id id' k off bytes:Nat}{i:TypeInfo}{z:Value}{n cap:Nat}{b:Box}{news:List (List IV)}{old cs:List AV}
 (ho:o.op= .call {callee:= .builtin .append,args:= #[x,y],argTypes:= #[t,t']}) (ht:P.underlying t=some (.slice e)) (hi0:P.info? e=some i) (hik:i.size=k) (hib:i.bytes=bytes) (hiz:i.zero=some z) (hzk:z.cells.size=k) (hz1: ∀u∈z.cells.toList,u.oneCell'=true)
 (hd:P.underlying t'=some d) (hn:notInt d) (hk0:0<k) (hq:a.eval x= .slice (some ⟨E.ρ id,o',none⟩) n cap) (hoo:cap≠0→o'=off) (hn1:n≤cap) (hb:st.bx.lookup id=some b) (hold:(b.cs.drop off).take (n*k)=old) (hol:old.length=n*k) (hcap:cap<n+news.length) (hnk: ∀e∈news,e.length=k) (hy:Adds P c st y k news) (hne:news≠ [])
 (hm:n+news.length≤maxLen) (hby:(n+news.length)*bytes≤140737488355328) (hf:st.fresh id'=true) (hcs:news.flatten.map .iv=cs) (hmo':AV.ments id' old=false) (hmo:AV.ments id' cs=false):
 ∃(u:Value) (E':Env) (w':World),(execOp a.eval o).run P w= .ok (.value u) w'∧Inv c E' ⟨st.fr,(id',⟨e,old++cs⟩)::st.bx,st.tk⟩ a w'∧RepA E' w' (.bsh id' 0 (n+news.length) k) u:=by
 subst hik;subst hib
 obtain⟨us,hsrc,hul,hu1,hur⟩:=hy E a w hi
 have hpos:0<news.length:=List.length_pos_iff.2 hne
 have hexec:(execOp a.eval o).run P w=((Builtin.append_ #[t,t'] o.type #[a.eval x,a.eval y]).run P w).andThen fun v w'=> .ok (.value v) w':=by
  simp[execOp,ho,resolve,invoke,builtin]
 obtain⟨arr,rst,_,hra,h1a,_,hc⟩:=hi.boxCell hb
 have hro:RelL E w old ((arr.drop off).take (n*i.size)):=by rw[←hold];exact(hra.drop off).take _
 generalize hod:(arr.drop off).take (n*i.size)=olds at hro
 have hol2:olds.length=n*i.size:=by rw[hro.1,hol]
 have hfc:(Builtin.firstCells i.size n (.slice (some ⟨E.ρ id,o',none⟩) n cap)).run P w.drew= .ok olds.toArray w.drew:=by
  refine run_firstCells_some w.drew i.size n _ n cap olds hol2 (fun p v hv=> ?_)
  have hp:=(List.getElem?_eq_some_iff.1 hv).1
  rw[hol2] at hp
  have hn0:n≠0:=fun e=>by rw[e] at hp;simp at hp
  rw[hoo (by omega)]
  rw[←hod,List.getElem?_take,if_pos hp,List.getElem?_drop] at hv
  simp only[Addr.add_none]
  show w.cell? _=_
  rw[hc _ (List.getElem?_eq_some_iff.1 hv).1];exact hv
 have hrun:=app_grow (ty:=o.type) ht hd hn hi0 hiz hsrc hfc hcap (by simp only[maxLen] at hm;omega) (growslice_fits hcap hby)
 have hge:n+news.length≤grownCap w (n+news.length) cap e:=grownCap_ge _ _ _ _
 have hcm:=grownCap_le_maxLen w (n+news.length) cap e hm
 have hlen:(olds++(us++(Builtin.zeroCells z.cells (grownCap w (n+news.length) cap e - (n+news.length))).toList)).length=grownCap w (n+news.length) cap e*i.size:=by
  simp only[List.length_append,hul,hol2,Array.length_toList,size_zeroCells,hzk]
  rw[←Nat.add_mul,←Nat.add_mul];congr 1;omega
 have hcl:cs.length=news.length*i.size:=by rw[←hcs,List.length_map,flatten_len news hnk]
 have hrn:RelL E w cs us:=⟨by rw[hul,hcl],fun p x u hx hu=>by
  rw[←hcs,List.getElem?_map,Option.map_eq_some_iff] at hx
  obtain⟨x',hx',rfl⟩:=hx
  obtain⟨e',h2,h3⟩:=flatten_get hk0 news p x' hnk hx'
  have hp:p / i.size*i.size+p % i.size=p:=by rw[Nat.mul_comm];exact Nat.div_add_mod p i.size
  exact .iv (hur _ e' _ x' u h2 h3 (by rw[hp];exact hu))⟩
 have hrel:=RelL.keep (E:=E) (w:=w) (w':=w.drew) (fun _ _ _=>rfl) (hro.append hrn)
 have hi':=hi.drew.newRoom hf (ty:=e) (cs:=old++cs) (us:=olds++(us++(Builtin.zeroCells z.cells (grownCap w (n+news.length) cap e - (n+news.length))).toList)) (capV i.size (grownCap w (n+news.length) cap e))
  (by rw[hlen,List.length_append,hol,hcl,←Nat.add_mul];exact Nat.mul_le_mul_right _ hge)
  (fun p x u hx hu=>by
    have hlt:=(List.getElem?_eq_some_iff.1 hx).1
    rw[←List.append_assoc,List.getElem?_append_left (by rw[hrel.1];exact hlt)] at hu
    exact hrel.2 p x u hx hu)
  (fun u hu=>by
    rcases List.mem_append.1 hu with hu|hu
    · rw[←hod] at hu;exact h1a u (List.mem_of_mem_drop (List.mem_of_mem_take hu))
    rcases List.mem_append.1 hu with hu|hu
    · exact hu1 u hu
    · simp only[Builtin.zeroCells,Array.toList_map,Array.toList_range,List.mem_map,List.mem_range] at hu
      obtain⟨p,_,rfl⟩:=hu
      have hlt:p % z.cells.size<z.cells.size:=Nat.mod_lt _ (by rw[hzk];exact hk0)
      rw[getElem!_pos z.cells _ hlt]
      exact hz1 _ (by simp))
  (ments_app hmo' hmo) (fun k' cap' he=>by
    obtain⟨rfl,rfl⟩:=capV_inj he
    exact Nat.le_of_eq hlen.symm)
 refine⟨_,_,_,?_,hi',.bsh (cap:=grownCap w (n+news.length) cap e) (o:=0) (by omega) hcm (by simp[Env.upd]) (fun _=>by simp) rfl⟩
 rw[hexec,hq,hrun]
 simp[Env.upd]
theorem Makes.growB{t t' e:TypeId}{d:TypeDesc}{x y:Operand}{id id' k off bytes:Nat}{i:TypeInfo}{z:Value}{n cap:Nat}{b:Box}{news:List (List IV)}{old cs:List AV}
 (ho:o.op= .call {callee:= .builtin .append,args:= #[x,y],argTypes:= #[t,t']}) (ht:P.underlying t=some (.slice e)) (hi0:P.info? e=some i) (hik:i.size=k) (hib:i.bytes=bytes) (hiz:i.zero=some z) (hzk:z.cells.size=k) (hz1: ∀u∈z.cells.toList,u.oneCell'=true)
 (hd:P.underlying t'=some d) (hn:notInt d) (hk0:0<k) (hx:st.ev x= .bsl id off n cap) (hb:st.bx.lookup id=some b) (hold:(b.cs.drop off).take (n*k)=old) (hol:old.length=n*k) (hcap:cap<n+news.length) (hnk: ∀e∈news,e.length=k) (hy:Adds P c st y k news) (hne:news≠ [])
 (hm:n+news.length≤maxLen) (hby:(n+news.length)*bytes≤140737488355328) (hf:st.fresh id'=true) (hcs:news.flatten.map .iv=cs) (hmo':AV.ments id' old=false) (hmo:AV.ments id' cs=false):
 Makes P c st o (.bsh id' 0 (n+news.length) k) ((id',⟨e,old++cs⟩)::st.bx) st.tk:=fun E a w hi=>by
 have h:=hi.ev x;rw[hx] at h
 obtain⟨o',hq,hn1,hm1,hoo⟩:=h.bsl_inv
 exact growB_core hi ho ht hi0 hik hib hiz hzk hz1 hd hn hk0 hq hoo hn1 hb hold hol hcap hnk hy hne hm hby hf hcs hmo' hmo
end
end Go.Abs
