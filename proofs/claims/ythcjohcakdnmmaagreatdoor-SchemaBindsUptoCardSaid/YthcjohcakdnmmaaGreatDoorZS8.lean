/- Several texts in one, each with its own sentence ahead of it. Conditions: each one says its own. -/
import Derived.Lib.AppendZerosOnto
import Derived.Lib.Overlaps
import Derived.Test.YthcjohcakdnmmaaGreatDoorZS7
set_option linter.all false
namespace Go.Abs
variable [Dr]
set_option linter.unusedSectionVars false
open Go.RowKit (Below)
set_option linter.unusedVariables false
section
variable {P:Program}{c:Ctx}{st:St}{ops:Array Oper}{Q:Exit→Act→World→Prop}{rest:List Oper}{o:Oper}
def Reads(P:Program)(c:Ctx)(st:St)(y:Operand)(k m:Nat)(new:List AV):Prop:=
 ∀(E:Env) (a:Act) (w:World),Inv c E st a w→ ∃us:List Value,(Builtin.lenOf (a.eval y)).run P w= .ok m w∧(∀j,j≤m→(Builtin.firstCells k j (a.eval y)).run P w= .ok (us.take (j*k)).toArray w)∧RelL E w new us∧us.length=m*k∧ ∀u∈us,u.oneCell'=true
theorem Reads.bsl{y:Operand}{k id off m cap:Nat}{b:Box}{new:List AV}(hy:st.ev y= .bsl id off m cap)(hb:st.bx.lookup id=some b)(hn:(b.cs.drop off).take (m*k)=new)(hl:new.length=m*k):Reads P c st y k m new:=fun E a w hi=>by
 have h:=hi.ev y;rw[hy] at h
 obtain⟨o',hq,hn',hm,hoo⟩:=h.bsl_inv
 obtain⟨arr,rest,_,hr,h1,_,hc⟩:=hi.boxCell hb
 refine⟨(arr.drop off).take (m*k),by rw[hq];rfl,fun j hj=> ?_,by rw[←hn];exact(hr.drop off).take _,by rw[((hr.drop off).take (m*k)).1,hn,hl],fun u hu=>h1 u (List.mem_of_mem_drop (List.mem_of_mem_take hu))⟩
 have hlen:((arr.drop off).take (m*k)).length=m*k:=by rw[((hr.drop off).take (m*k)).1,hn,hl]
 have hjk:j*k≤m*k:=Nat.mul_le_mul_right k hj
 have hl2:(((arr.drop off).take (m*k)).take (j*k)).length=j*k:=by rw[List.length_take,hlen];omega
 rw[hq]
 refine run_firstCells_some w k j _ m cap _ hl2 (fun p v hv=> ?_)
 have hp:=(List.getElem?_eq_some_iff.1 hv).1
 rw[hl2] at hp
 have hcap:cap≠0:=fun e=>by
  have:m=0:=by omega
  subst this;simp at hjk;omega
 rw[hoo hcap]
 rw[List.getElem?_take,if_pos hp,List.getElem?_take,if_pos (by omega),List.getElem?_drop] at hv
 simp only[Addr.add_none]
 rw[hc _ (List.getElem?_eq_some_iff.1 hv).1]
 exact hv
theorem Makes.copyB{t t' e:TypeId}{x y:Operand}{k n m cnt id off cap:Nat}{b:Box}{new:List AV}(ho:o.op= .call {callee:= .builtin .copy,args:= #[x,y],argTypes:= #[t,t']})(hs:sliceOk P t e k=true)
 (hx:st.ev x= .bsl id off n cap) (hb:st.bx.lookup id=some b) (hy:Reads P c st y k m new) (hcnt:Nat.min m n=cnt) (hpos:0<cnt) (hk0:0<k) (hle:off+cnt*k≤b.cs.length):
 Makes P c st o (aI cnt) ((id,⟨b.ty,setA b.cs off (new.take (cnt*k))⟩)::st.bx) st.tk:=fun E a w hi=>by
 obtain⟨hu,inf,hinf,hsz⟩:=sliceOk_run hs
 have h:=hi.ev x;rw[hx] at h
 obtain⟨o',hq,hn',hm,hoo⟩:=h.bsl_inv
 have hcm:cnt≤m:=by rw[←hcnt];exact Nat.min_le_left _ _
 have hcn:cnt≤n:=by rw[←hcnt];exact Nat.min_le_right _ _
 have hoe:=hoo (by omega)
 subst hoe
 have hck:0<cnt*k:=Nat.mul_pos hpos hk0
 have hbn:b.cs≠ []:=fun e=>by rw[e] at hle;simp at hle;omega
 obtain⟨us,hlen,hf,hr,hul,h1u⟩:=hy E a w hi
 obtain⟨arr,rst,ha,hra,h1,h1r,hc⟩:=hi.boxCell hb
 have hfc:=hf cnt hcm
 have hrn:=hr.take (cnt*k)
 have hmk:cnt*k≤m*k:=Nat.mul_le_mul_right k hcm
 have hul':(us.take (cnt*k)).length=cnt*k:=by rw[List.length_take,hul];omega
 have hnl:(new.take (cnt*k)).length=cnt*k:=by rw[←hrn.1,hul']
 have h1v: ∀u∈us.take (cnt*k),u.oneCell'=true:=fun u hu=>h1u u (List.mem_of_mem_take hu)
 have hal:o'+cnt*k≤arr.length:=by rw[hra.1];exact hle
 have hrun:=run_storeCells_at P (E.ρ id) o' b.ty (us.take (cnt*k)) 0 (arr++rst).toArray w (ha hbn) (by rw[hul'];simp;omega) h1v
 have hnew:RelL E w (setA b.cs o' (new.take (cnt*k))) (arr.take o'++(us.take (cnt*k)++arr.drop (o'+cnt*k))):=by
  unfold setA;rw[hnl];exact(hra.take o').append (hrn.append (hra.drop (o'+cnt*k)))
 have hrun':(storeCells ⟨E.ρ id,o',none⟩ (us.take (cnt*k))).run P w= .ok () (w.setRow (E.ρ id) ((arr.take o'++(us.take (cnt*k)++arr.drop (o'+cnt*k)))++rst).toArray):=by
  rw[hrun];simp only[Nat.add_zero,hul',List.append_assoc]
  rw[List.take_append_of_le_length (by omega),List.drop_append_of_le_length hal]
 refine⟨.int .i64 cnt,E,_,?_,hi.setBox hb hbn (ha hbn) h1r (us:=arr.take o'++(us.take (cnt*k)++arr.drop (o'+cnt*k))) ?_ hnew ?_,.iv (.im rfl)⟩
 · simp[execOp,ho,resolve,invoke,builtin,Builtin.copy_,run_underlying hu,hq,hlen,hcnt,sizeOf,typeInfo,hinf,hsz,hfc,hrun',goInt]
 · simp only[List.length_append,List.length_take,List.length_drop,hul];omega
 · intro u hu
   rcases List.mem_append.1 hu with hu|hu
   · exact h1 u (List.mem_of_mem_take hu)
   · rcases List.mem_append.1 hu with hu|hu
     · exact h1v u hu
     · exact h1 u (List.mem_of_mem_drop hu)
theorem app_room2{P:Program}{w:World}{t t' ty e:TypeId}{d:TypeDesc}{i:TypeInfo}{x:Value}{m:Nat}{news:List Value}(ht:P.underlying t=some (.slice e))(hd:P.underlying t'=some d)(hn:notInt d)(hi:P.info? e=some i)
 (hs1:(Builtin.lenOf x).run P w= .ok m w) (hs2:(Builtin.firstCells i.size m x).run P w= .ok news.toArray w) {g n cap:Nat} {cur:Array Value} {ty0:TypeId} (hg:w.heap[g]?=some (.cells cur ty0 (0,0))) (h1: ∀u∈news,u.oneCell'=true) (hroom:n+m≤cap)
 (hfit:n*i.size+news.length≤cur.size):
 (Builtin.append_ #[t,t'] ty #[.slice (some ⟨g,0,none⟩) n cap,x]).run P w=
   .ok (.slice (some ⟨g,0,none⟩) (n+m) cap) (w.setRow g (cur.toList.take (n*i.size)++news++cur.toList.drop (n*i.size+news.length)).toArray):=by
 have hst:=run_storeCells_at P g (n*i.size) ty0 news 0 cur w hg (by simpa using hfit) h1
 simp only[Nat.add_zero] at hst
 rcases hn with⟨e',rfl⟩|rfl<;>simp[Builtin.append_,run_underlying ht,run_underlying hd,sizeOf,typeInfo,hi,hs1,hroom,hs2,Addr.add_none,hst]
theorem Makes.roomB{t t' e:TypeId}{d:TypeDesc}{x y:Operand}{k n m id cap:Nat}{i:TypeInfo}{b:Box}{new:List AV}(ho:o.op= .call {callee:= .builtin .append,args:= #[x,y],argTypes:= #[t,t']})(ht:P.underlying t=some (.slice e))(hi0:P.info? e=some i)(hik:i.size=k)
 (hd:P.underlying t'=some d) (hn:notInt d) (hx:st.ev x= .bsl id 0 n cap) (hb:st.bx.lookup id=some b) (hbn:b.cs≠ []) (hy:Reads P c st y k m new) (hc0:0<cap) (hroom:n+m≤cap) (hle:(n+m)*k≤b.cs.length):
 Makes P c st o (.bsl id 0 (n+m) cap) ((id,⟨b.ty,setA b.cs (n*k) new⟩)::st.bx) st.tk:=fun E a w hi=>by
 subst hik
 have h:=hi.ev x;rw[hx] at h
 obtain⟨o',hq,hn',hm,hoo⟩:=h.bsl_inv
 have hoe:o'=0:=hoo (by omega)
 rw[hoe] at hq
 obtain⟨us,hlen,hf,hr,hul,h1u⟩:=hy E a w hi
 obtain⟨arr,rst,ha,hra,h1,h1r,hc⟩:=hi.boxCell hb
 have hfc:=hf m (Nat.le_refl _)
 rw[List.take_of_length_le (by rw[hul];exact Nat.le_refl _)] at hfc
 have hal:n*i.size+m*i.size≤arr.length:=by rw[hra.1,←Nat.add_mul];exact hle
 have hnl:new.length=m*i.size:=by rw[←hr.1,hul]
 have hrun:=app_room2 (ty:=o.type) ht hd hn hi0 hlen hfc (ha hbn) h1u hroom (n:=n) (by rw[hul];simp;omega)
 have hnew:RelL E w (setA b.cs (n*i.size) new) (arr.take (n*i.size)++(us++arr.drop (n*i.size+m*i.size))):=by
  unfold setA;rw[hnl];exact(hra.take _).append (hr.append (hra.drop _))
 have hw:(((arr++rst).toArray.toList.take (n*i.size)++us++(arr++rst).toArray.toList.drop (n*i.size+us.length)).toArray)=((arr.take (n*i.size)++(us++arr.drop (n*i.size+m*i.size)))++rst).toArray:=by
  simp only[hul,List.append_assoc]
  rw[List.take_append_of_le_length (by omega),List.drop_append_of_le_length hal]
 rw[hw] at hrun
 refine⟨_,E,_,?_,hi.setBox hb hbn (ha hbn) h1r (us:=arr.take (n*i.size)++(us++arr.drop (n*i.size+m*i.size))) ?_ hnew ?_,.bsl (o:=0) hroom hm (fun _=>rfl) rfl⟩
 · simp[execOp,ho,resolve,invoke,builtin,hq,hrun]
 · simp only[List.length_append,List.length_take,List.length_drop,hul];omega
 · intro u hu
   rcases List.mem_append.1 hu with hu|hu
   · exact h1 u (List.mem_of_mem_take hu)
   · rcases List.mem_append.1 hu with hu|hu
     · exact h1u u hu
     · exact h1 u (List.mem_of_mem_drop hu)
theorem Reads.pub{y:Operand}{k:Nat}{news:List (List IV)}{cs:List AV}(hy:(st.ev y).sl?=some news)(hk: ∀e∈news,e.length=k)(hk0:0<k)(hcs:news.flatten.map .iv=cs):Reads P c st y k news.length cs:=fun E a w hi=>by
 obtain⟨us,hl,h1,hr,hc⟩:=((hi.ev y).sl hy).cellsOf hk hk0
 have hcl:cs.length=news.length*k:=by rw[←hcs,List.length_map,flatten_len news hk]
 have hrel:RelL E w cs us:=⟨by rw[hl,hcl],fun p x u hx hu=>by
  rw[←hcs,List.getElem?_map,Option.map_eq_some_iff] at hx
  obtain⟨x',hx',rfl⟩:=hx
  obtain⟨e',h2,h3⟩:=flatten_get hk0 news p x' hk hx'
  have hp:p / k*k+p % k=p:=by rw[Nat.mul_comm];exact Nat.div_add_mod p k
  exact .iv (hr _ e' _ x' u h2 h3 (by rw[hp];exact hu))⟩
 rcases hc with⟨hq,rfl⟩|⟨ad,cap,hq,_,rfl⟩|⟨b,o,cap,hq,_,_,hcell⟩
 · refine⟨us,by rw[hq];rfl,fun j hj=> ?_,hrel,hl,h1⟩
   have:j=0:=by simpa using hj
   subst this;rw[hq];simp[Builtin.firstCells]
 · refine⟨us,by rw[hq];rfl,fun j hj=> ?_,hrel,hl,h1⟩
   have:j=0:=by simpa using hj
   subst this;rw[hq];simp[Builtin.firstCells,loadCells,loadCellsFrom]
 · refine⟨us,by rw[hq];rfl,fun j hj=> ?_,hrel,hl,h1⟩
   have hjk:j*k≤news.length*k:=Nat.mul_le_mul_right k hj
   have hl2:(us.take (j*k)).length=j*k:=by rw[List.length_take,hl];omega
   rw[hq]
   refine run_firstCells_some w k j _ news.length cap _ hl2 (fun p v hv=> ?_)
   have hp:=(List.getElem?_eq_some_iff.1 hv).1
   rw[hl2] at hp
   rw[List.getElem?_take,if_pos hp] at hv
   simp only[Addr.add_none]
   rw[(hcell p (by omega)).1];exact hv
theorem L.clearB{t e:TypeId}{x:Operand}{k n id off cap:Nat}{i:TypeInfo}{z:Value}{b:Box}(hg:o.guard=none)(hd:o.dst=none)(ho:o.op= .call {callee:= .builtin .clear,args:= #[x],argTypes:= #[t]})(ht:P.underlying t=some (.slice e))
 (hi0:P.info? e=some i) (hiz:i.zero=some z) (hzk:z.cells.size=k) (hz1: ∀u∈z.cells.toList,u.oneCell'=true) (hk0:0<k) (hx:st.ev x= .bsl id off n cap) (hb:st.bx.lookup id=some b) (hn0:0<n) (hle:off+n*k≤b.cs.length)
 (h:L c ⟨st.fr,(id,⟨b.ty,setA b.cs off (List.replicate (n*k) .any)⟩)::st.bx,st.tk⟩ (wpList P ops Q rest)):L c st (wpList P ops Q (o::rest)):=by
 rintro a w ⟨E,hi⟩
 have hv:=hi.ev x;rw[hx] at hv
 obtain⟨o',hq,hn',hm,hoo⟩:=hv.bsl_inv
 have hoe:o'=off:=hoo (by omega)
 rw[hoe] at hq
 have hnk:0<n*k:=Nat.mul_pos hn0 hk0
 have hbn:b.cs≠ []:=fun e=>by rw[e] at hle;simp at hle;omega
 obtain⟨arr,rst,ha,hra,h1,h1r,hc⟩:=hi.boxCell hb
 have hal:off+n*k≤arr.length:=by rw[hra.1];exact hle
 have hzl:(Builtin.zeroCells z.cells n).toList.length=n*k:=by rw[Array.length_toList,size_zeroCells,hzk]
 have hz2: ∀u∈(Builtin.zeroCells z.cells n).toList,u.oneCell'=true:=fun u hu=>by
  simp only[Builtin.zeroCells,Array.toList_map,Array.toList_range,List.mem_map,List.mem_range] at hu
  obtain⟨p,_,rfl⟩:=hu
  have hlt:p % z.cells.size<z.cells.size:=Nat.mod_lt _ (by rw[hzk];exact hk0)
  rw[getElem!_pos z.cells _ hlt]
  exact hz1 _ (by simp)
 have hrun:=run_storeCells_at P (E.ρ id) off b.ty (Builtin.zeroCells z.cells n).toList 0 (arr++rst).toArray w (ha hbn) (by rw[hzl];simp;omega) hz2
 have hrun':(storeCells ⟨E.ρ id,off,none⟩ (Builtin.zeroCells z.cells n).toList).run P w= .ok () (w.setRow (E.ρ id) ((arr.take off++((Builtin.zeroCells z.cells n).toList++arr.drop (off+n*k)))++rst).toArray):=by
  rw[hrun];simp only[Nat.add_zero,hzl,List.append_assoc]
  rw[List.take_append_of_le_length (by omega),List.drop_append_of_le_length hal]
 have hany:RelL E w (List.replicate (n*k) .any) (Builtin.zeroCells z.cells n).toList:=⟨by rw[hzl,List.length_replicate],fun p x u hx hu=>by
  simp only[List.getElem?_replicate] at hx
  split at hx
  · cases hx;exact .any
  · cases hx⟩
 have hnew:RelL E w (setA b.cs off (List.replicate (n*k) .any)) (arr.take off++((Builtin.zeroCells z.cells n).toList++arr.drop (off+n*k))):=by
  unfold setA;rw[List.length_replicate];exact(hra.take off).append (hany.append (hra.drop _))
 have hex:(execOp a.eval o).run P w= .ok (.value (.tuple #[])) (w.setRow (E.ρ id) ((arr.take off++((Builtin.zeroCells z.cells n).toList++arr.drop (off+n*k)))++rst).toArray):=by
  obtain⟨n',rfl⟩: ∃n',n=n'+1:=⟨n - 1,by omega⟩
  simp[execOp,ho,resolve,invoke,builtin,Builtin.clear_,run_underlying ht,hq,zeroValue,typeInfo,hi0,hiz,hrun']
 refine wpList_plain hg (fun K hK=>Oper.wp_value hex (hK _ _ ?_))
 rw[hd]
 refine h _ _ ⟨E,hi.setBox hb hbn (ha hbn) h1r (us:=arr.take off++((Builtin.zeroCells z.cells n).toList++arr.drop (off+n*k))) ?_ hnew ?_⟩
 · simp only[List.length_append,List.length_take,List.length_drop,hzl];omega
 · intro u hu
   rcases List.mem_append.1 hu with hu|hu
   · exact h1 u (List.mem_of_mem_take hu)
   · rcases List.mem_append.1 hu with hu|hu
     · exact hz2 u hu
     · exact h1 u (List.mem_of_mem_drop hu)
theorem growB_core{E:Env}{a:Act}{w:World}(hi:Inv c E st a w){o':Nat}{t t' e:TypeId}{d:TypeDesc}{x y:Operand}{id id' k off bytes:Nat}{i:TypeInfo}{z:Value}{n cap:Nat}{b:Box}{news:List (List IV)}{old cs:List AV}
 (ho:o.op= .call {callee:= .builtin .append,args:= #[x,y],argTypes:= #[t,t']}) (ht:P.underlying t=some (.slice e)) (hi0:P.info? e=some i) (hik:i.size=k) (hib:i.bytes=bytes) (hiz:i.zero=some z) (hzk:z.cells.size=k) (hz1: ∀u∈z.cells.toList,u.oneCell'=true)
 (hd:P.underlying t'=some d) (hn:notInt d) (hk0:0<k) (hq:a.eval x= .slice (some ⟨E.ρ id,o',none⟩) n cap) (hoo:cap≠0→o'=off) (hn1:n≤cap) (hb:st.bx.lookup id=some b) (hold:(b.cs.drop off).take (n*k)=old) (hol:old.length=n*k) (hcap:cap<n+news.length) (hnk: ∀e∈news,e.length=k) (hy:Adds P c st y k news) (hne:news≠ [])
 (hm:n+news.length≤maxLen) (hby:(n+news.length)*bytes≤140737488355328) (hf:st.fresh id'=true) (hcs:news.flatten.map .iv=cs) (hmo':AV.ments id' old=false) (hmo:AV.ments id' cs=false):
 ∃(u:Value) (E':Env) (w':World),(execOp a.eval o).run P w= .ok (.value u) w'∧Inv c E' ⟨st.fr,(id',⟨e,old++cs⟩)::st.bx,st.tk⟩ a w'∧RepA E' w' (.bsh id' 0 (n+news.length) k) u:=by
 subst hik;subst hib
 obtain⟨us,hsrc,hul,hu1,hur⟩:=hy E a w hi
 have hpos:0<news.length:=List.length_pos_iff.2 hne
 have hexec:(execOp a.eval o).run P w=((Builtin.append_ #[t,t'] o.type #[a.eval x,a.eval y]).run P w).andThen fun v w'=> .ok (.value v) w':=by
  simp[execOp,ho,resolve,invoke,builtin]
 obtain⟨arr,rst,_,hra,h1a,_,hc⟩:=hi.boxCell hb
 have hro:RelL E w old ((arr.drop off).take (n*i.size)):=by rw[←hold];exact(hra.drop off).take _
 generalize hod:(arr.drop off).take (n*i.size)=olds at hro
 have hol2:olds.length=n*i.size:=by rw[hro.1,hol]
 have hfc:(Builtin.firstCells i.size n (.slice (some ⟨E.ρ id,o',none⟩) n cap)).run P w.drew= .ok olds.toArray w.drew:=by
  refine run_firstCells_some w.drew i.size n _ n cap olds hol2 (fun p v hv=> ?_)
  have hp:=(List.getElem?_eq_some_iff.1 hv).1
  rw[hol2] at hp
  have hn0:n≠0:=fun e=>by rw[e] at hp;simp at hp
  rw[hoo (by omega)]
  rw[←hod,List.getElem?_take,if_pos hp,List.getElem?_drop] at hv
  simp only[Addr.add_none]
  show w.cell? _=_
  rw[hc _ (List.getElem?_eq_some_iff.1 hv).1];exact hv
 have hrun:=app_grow (ty:=o.type) ht hd hn hi0 hiz hsrc hfc hcap (by simp only[maxLen] at hm;omega) (growslice_fits hcap hby)
 have hge:n+news.length≤grownCap w (n+news.length) cap e:=grownCap_ge _ _ _ _
 have hcm:=grownCap_le_maxLen w (n+news.length) cap e hm
 have hlen:(olds++(us++(Builtin.zeroCells z.cells (grownCap w (n+news.length) cap e - (n+news.length))).toList)).length=grownCap w (n+news.length) cap e*i.size:=by
  simp only[List.length_append,hul,hol2,Array.length_toList,size_zeroCells,hzk]
  rw[←Nat.add_mul,←Nat.add_mul];congr 1;omega
 have hcl:cs.length=news.length*i.size:=by rw[←hcs,List.length_map,flatten_len news hnk]
 have hrn:RelL E w cs us:=⟨by rw[hul,hcl],fun p x u hx hu=>by
  rw[←hcs,List.getElem?_map,Option.map_eq_some_iff] at hx
  obtain⟨x',hx',rfl⟩:=hx
  obtain⟨e',h2,h3⟩:=flatten_get hk0 news p x' hnk hx'
  have hp:p / i.size*i.size+p % i.size=p:=by rw[Nat.mul_comm];exact Nat.div_add_mod p i.size
  exact .iv (hur _ e' _ x' u h2 h3 (by rw[hp];exact hu))⟩
 have hrel:=RelL.keep (E:=E) (w:=w) (w':=w.drew) (fun _ _ _=>rfl) (hro.append hrn)
 have hi':=hi.drew.newRoom hf (ty:=e) (cs:=old++cs) (us:=olds++(us++(Builtin.zeroCells z.cells (grownCap w (n+news.length) cap e - (n+news.length))).toList)) (capV i.size (grownCap w (n+news.length) cap e))
  (by rw[hlen,List.length_append,hol,hcl,←Nat.add_mul];exact Nat.mul_le_mul_right _ hge)
  (fun p x u hx hu=>by
    have hlt:=(List.getElem?_eq_some_iff.1 hx).1
    rw[←List.append_assoc,List.getElem?_append_left (by rw[hrel.1];exact hlt)] at hu
    exact hrel.2 p x u hx hu)
  (fun u hu=>by
    rcases List.mem_append.1 hu with hu|hu
    · rw[←hod] at hu;exact h1a u (List.mem_of_mem_drop (List.mem_of_mem_take hu))
    rcases List.mem_append.1 hu with hu|hu
    · exact hu1 u hu
    · simp only[Builtin.zeroCells,Array.toList_map,Array.toList_range,List.mem_map,List.mem_range] at hu
      obtain⟨p,_,rfl⟩:=hu
      have hlt:p % z.cells.size<z.cells.size:=Nat.mod_lt _ (by rw[hzk];exact hk0)
      rw[getElem!_pos z.cells _ hlt]
      exact hz1 _ (by simp))
  (ments_app hmo' hmo) (fun k' cap' he=>by
    obtain⟨rfl,rfl⟩:=capV_inj he
    exact Nat.le_of_eq hlen.symm)
 refine⟨_,_,_,?_,hi',.bsh (cap:=grownCap w (n+news.length) cap e) (o:=0) (by omega) hcm (by simp[Env.upd]) (fun _=>by simp) rfl⟩
 rw[hexec,hq,hrun]
 simp[Env.upd]
theorem Makes.growB{t t' e:TypeId}{d:TypeDesc}{x y:Operand}{id id' k off bytes:Nat}{i:TypeInfo}{z:Value}{n cap:Nat}{b:Box}{news:List (List IV)}{old cs:List AV}
 (ho:o.op= .call {callee:= .builtin .append,args:= #[x,y],argTypes:= #[t,t']}) (ht:P.underlying t=some (.slice e)) (hi0:P.info? e=some i) (hik:i.size=k) (hib:i.bytes=bytes) (hiz:i.zero=some z) (hzk:z.cells.size=k) (hz1: ∀u∈z.cells.toList,u.oneCell'=true)
 (hd:P.underlying t'=some d) (hn:notInt d) (hk0:0<k) (hx:st.ev x= .bsl id off n cap) (hb:st.bx.lookup id=some b) (hold:(b.cs.drop off).take (n*k)=old) (hol:old.length=n*k) (hcap:cap<n+news.length) (hnk: ∀e∈news,e.length=k) (hy:Adds P c st y k news) (hne:news≠ [])
 (hm:n+news.length≤maxLen) (hby:(n+news.length)*bytes≤140737488355328) (hf:st.fresh id'=true) (hcs:news.flatten.map .iv=cs) (hmo':AV.ments id' old=false) (hmo:AV.ments id' cs=false):
 Makes P c st o (.bsh id' 0 (n+news.length) k) ((id',⟨e,old++cs⟩)::st.bx) st.tk:=fun E a w hi=>by
 have h:=hi.ev x;rw[hx] at h
 obtain⟨o',hq,hn1,hm1,hoo⟩:=h.bsl_inv
 exact growB_core hi ho ht hi0 hik hib hiz hzk hz1 hd hn hk0 hq hoo hn1 hb hold hol hcap hnk hy hne hm hby hf hcs hmo' hmo
end
end Go.Abs
namespace Go.Abs
variable [Dr]
set_option linter.unusedSectionVars false
open Go.RowKit (Below)
set_option linter.unusedVariables false
section
variable {P:Program}{c:Ctx}{st:St}{ops:Array Oper}{Q:Exit→Act→World→Prop}{rest:List Oper}{o:Oper}
theorem Makes.growZ{t t' e:TypeId}{kd kd':IntKind}{x y:Operand}{m:Nat}{id id' k off bytes:Nat}{i:TypeInfo}{z:Value}{n cap:Nat}{b:Box}{old:List AV}
 (ho:o.op= .call {callee:= .builtin .append,args:= #[x,y],argTypes:= #[t,t']}) (ht:P.underlying t=some (.slice e)) (hi0:P.info? e=some i) (hik:i.size=k) (hib:i.bytes=bytes) (hiz:i.zero=some z) (hzk:z.cells.size=k) (hz1: ∀u∈z.cells.toList,u.oneCell'=true)
 (hd:P.underlying t'=some (.int kd)) (hk0:0<k) (hx:st.ev x= .bsl id off n cap) (hb:st.bx.lookup id=some b) (hold:(b.cs.drop off).take (n*k)=old) (hol:old.length=n*k) (hcap:cap<n+m) (hy:st.ev y= .iv (.im (.int kd' (m:Int)))) (hpos:0<m)
 (hm:n+m≤maxLen) (hby:(n+m)*bytes≤140737488355328) (hf:st.fresh id'=true) (hmo':AV.ments id' old=false):
 Makes P c st o (.bsh id' 0 (n+m) k) ((id',⟨e,.l (old++List.replicate (m*k) .any)⟩)::st.bx) st.tk:=fun E a w hi=>by
 subst hik;subst hib
 have hyq:=hi.im hy
 have h:=hi.ev x;rw[hx] at h
 obtain⟨o',hq,hn1,hm1,hoo⟩:=h.bsl_inv
 have hexec:(execOp a.eval o).run P w=((Builtin.append_ #[t,t'] o.type #[a.eval x,a.eval y]).run P w).andThen fun v w'=> .ok (.value v) w':=by
  simp[execOp,ho,resolve,invoke,builtin]
 obtain⟨arr,rst,_,hra,h1a,_,hc⟩:=hi.boxCell hb
 have hro:RelL E w old ((arr.drop off).take (n*i.size)):=by rw[←hold];exact(hra.drop off).take _
 generalize hod:(arr.drop off).take (n*i.size)=olds at hro
 have hol2:olds.length=n*i.size:=by rw[hro.1,hol]
 have hfc:(Builtin.firstCells i.size n (.slice (some ⟨E.ρ id,o',none⟩) n cap)).run P w.drew= .ok olds.toArray w.drew:=by
  refine run_firstCells_some w.drew i.size n _ n cap olds hol2 (fun p v hv=> ?_)
  have hp:=(List.getElem?_eq_some_iff.1 hv).1
  rw[hol2] at hp
  have hn0:n≠0:=fun e=>by rw[e] at hp;simp at hp
  rw[hoo (by omega)]
  rw[←hod,List.getElem?_take,if_pos hp,List.getElem?_drop] at hv
  simp only[Addr.add_none]
  show w.cell? _=_
  rw[hc _ (List.getElem?_eq_some_iff.1 hv).1];exact hv
 have hrun:=Lib.run_append_grow_zeros w t t' o.type e i z kd' kd ht hd hi0 hiz (some ⟨E.ρ id,o',none⟩) n cap olds hfc m hpos hk0 hcap (by simp only[maxLen] at hm;omega) (Nat.le_trans (Nat.le_trans (Nat.mul_le_mul_right _ (Nat.le_add_left m n)) hby) (by omega)) (growslice_fits hcap hby)
 have hge:n+m≤grownCap w (n+m) cap e:=grownCap_ge _ _ _ _
 have hcm:=grownCap_le_maxLen w (n+m) cap e hm
 have hlen:(olds++((Builtin.zeroCells z.cells m).toList++(Builtin.zeroCells z.cells (grownCap w (n+m) cap e - (n+m))).toList)).length=grownCap w (n+m) cap e*i.size:=by
  simp only[List.length_append,hol2,Array.length_toList,size_zeroCells,hzk]
  rw[←Nat.add_mul,←Nat.add_mul];congr 1;omega
 have hul:(Builtin.zeroCells z.cells m).toList.length=m*i.size:=by rw[Array.length_toList,size_zeroCells,hzk]
 have hz0: ∀(q:Nat) (u:Value),u∈(Builtin.zeroCells z.cells q).toList→u.oneCell'=true:=fun q u hu=>by
  simp only[Builtin.zeroCells,Array.toList_map,Array.toList_range,List.mem_map,List.mem_range] at hu
  obtain⟨p,_,rfl⟩:=hu
  have hlt:p % z.cells.size<z.cells.size:=Nat.mod_lt _ (by rw[hzk];exact hk0)
  rw[getElem!_pos z.cells _ hlt]
  exact hz1 _ (by simp)
 have hrn:RelL E w (List.replicate (m*i.size) .any) (Builtin.zeroCells z.cells m).toList:=⟨by rw[hul,List.length_replicate],fun p x u hx hu=>by
  simp only[List.getElem?_replicate] at hx
  split at hx
  · cases hx;exact .any
  · cases hx⟩
 have hma:AV.ments id' (List.replicate (m*i.size) .any)=false:=by
  generalize m*i.size=q
  induction q with
  |zero=>rfl
  |succ q ih=>simpa[List.replicate_succ,AV.ments,AV.ment] using ih
 have hrel:=RelL.keep (E:=E) (w:=w) (w':=w.drew) (fun _ _ _=>rfl) (hro.append hrn)
 have hi':=hi.drew.newRoom hf (ty:=e) (cs:=old++List.replicate (m*i.size) .any) (us:=olds++((Builtin.zeroCells z.cells m).toList++(Builtin.zeroCells z.cells (grownCap w (n+m) cap e - (n+m))).toList)) (capV i.size (grownCap w (n+m) cap e))
  (by rw[hlen,List.length_append,hol,List.length_replicate,←Nat.add_mul];exact Nat.mul_le_mul_right _ hge)
  (fun p x u hx hu=>by
    have hlt:=(List.getElem?_eq_some_iff.1 hx).1
    rw[←List.append_assoc,List.getElem?_append_left (by rw[hrel.1];exact hlt)] at hu
    exact hrel.2 p x u hx hu)
  (fun u hu=>by
    rcases List.mem_append.1 hu with hu|hu
    · rw[←hod] at hu;exact h1a u (List.mem_of_mem_drop (List.mem_of_mem_take hu))
    rcases List.mem_append.1 hu with hu|hu
    · exact hz0 _ u hu
    · exact hz0 _ u hu)
  (ments_app hmo' hma) (fun k' cap' he=>by
    obtain⟨rfl,rfl⟩:=capV_inj he
    exact Nat.le_of_eq hlen.symm)
 refine⟨_,_,_,?_,hi',.bsh (cap:=grownCap w (n+m) cap e) (o:=0) (by omega) hcm (by simp[Env.upd]) (fun _=>by simp) rfl⟩
 rw[hexec,hq,hyq,hrun]
 simp[Env.upd]
 congr 2
 apply Array.ext'
 simp
end
end Go.Abs
namespace Go.Abs
variable [Dr]
set_option linter.unusedSectionVars false
open Go.RowKit (Below)
set_option linter.unusedVariables false
section
variable {P:Program}{c:Ctx}{st:St}{ops:Array Oper}{Q:Exit→Act→World→Prop}{rest:List Oper}{o:Oper}
theorem Yields.overlapsB{f:FuncId}{x y:Operand}{ats:Array TypeId}{t tr e:TypeId}{k i j offi n cap offj m capj:Nat}{b b':Box}(ho:o.op= .call {callee:= .value (.func f),args:= #[x,y],argTypes:=ats})
 (hok:extOk P f (Extern.SlicesOverlaps.overlaps #[t,t] #[tr])) (hs:sliceOk P t e k=true) (hx:st.ev x= .bsl i offi n cap) (hy:st.ev y= .bsl j offj m capj) (hij:i≠j) (hb:st.bx.lookup i=some b) (hb':st.bx.lookup j=some b') (hbn:b.cs≠ []) (hbn':b'.cs≠ [])
 (hoff:cap≠0) (hin:offi<b.cs.length):Yields P c st o (aB false):=
 .im rfl fun E a w hi=>by
   obtain⟨fn,hf,h1,h2,h3,h4⟩:=hok
   obtain⟨hu,inf,hinf,hsz⟩:=sliceOk_run hs
   have hv:=hi.ev x;rw[hx] at hv
   obtain⟨ox,hqx,_,_,hox⟩:=hv.bsl_inv
   have hv':=hi.ev y;rw[hy] at hv'
   obtain⟨oy,hqy,_⟩:=hv'.bsl_inv
   obtain⟨_,arr,ha,hl,_⟩:=hi.heap.box i b hb hbn
   obtain⟨_,arr',ha',hl',_⟩:=hi.heap.box j b' hb' hbn'
   have hne:E.ρ i≠E.ρ j:=fun e=>hij (hi.heap.bb i j b b' hb hb' hbn hbn' e)
   have hp':arr'.length≠0:=fun e=>hbn' (List.eq_nil_of_length_eq_zero (by omega))
   have hrun:=run_callFunc_extern hf h1 h2 h3 h4 #[.slice (some ⟨E.ρ i,ox,none⟩) n cap,.slice (some ⟨E.ρ j,oy,none⟩) m capj] w
   rw[Lib.run_overlaps_apart w t tr e hu k (fun w=>by simp[sizeOf,typeInfo,hinf,hsz]) ⟨E.ρ i,ox,none⟩ ⟨E.ρ j,oy,none⟩ n cap m capj hne b.ty b'.ty arr.length arr'.length
    (by simp[World.shape?,ha]) (by simp[World.shape?,ha']) hp' (by simp[World.frozen?,ha]) (by simp[World.frozen?,ha])] at hrun
   have:(execOp a.eval o).run P w=(callFunc f #[a.eval x,a.eval y]).run P w:=by
    simp[execOp,ho,resolve,Deferred.ofValue,Act.eval,invoke]
   rw[this,hqx,hqy,hrun]
   simp[Result.andThen]
end
end Go.Abs
namespace Go.Abs
variable [Dr]
set_option linter.unusedSectionVars false
open Go.RowKit (Below)
set_option linter.unusedVariables false
inductive Pub (K n k:Nat) (x:IV):AV→AV→Prop
 |same {v:AV}:Pub K n k x v v
 |here:Pub K n k x (.bsh K 0 n k) (.iv x)
inductive Pubs (K n k:Nat) (x:IV):List AV→List AV→Prop
 |nil:Pubs K n k x [] []
 |cons {v v':AV} {l l':List AV} (h:Pub K n k x v v') (t:Pubs K n k x l l'):Pubs K n k x (v::l) (v'::l')
theorem Pubs.get{K n k:Nat}{x:IV}{l l':List AV}(h:Pubs K n k x l l'):l'.length=l.length∧ ∀(i:Nat) (v:AV),l'[i]?=some v→ ∃v0,l[i]?=some v0∧Pub K n k x v0 v:=by
 induction h with
 |nil=>exact⟨rfl,fun i v h=>by simp at h⟩
 |cons h _ ih=>
  refine⟨by simp[ih.1],fun i v hv=> ?_⟩
  cases i with
  |zero=>simp at hv;subst hv;exact⟨_,rfl,h⟩
  |succ i=>exact ih.2 i v (by simpa using hv)
theorem lookup_map{β:Type}(f:β→β): ∀(l:List (Nat×β)) (s:Nat),(l.map (fun p=>(p.1,f p.2))).lookup s=(l.lookup s).map f
 | [],s=>rfl
 |(t,v)::l,s=>by
  by_cases e:s=t
  · subst e;simp[List.lookup]
  · have e':(s==t)=false:=by simpa using e
    simpa[List.lookup,e'] using lookup_map f l s
theorem publish_core(K:Nat){c:Ctx}{st:St}{n k:Nat}{b:Box}{xs:List IV}(hin:c.ins.all (fun i=>(i !=K) && (match st.bx.lookup i with|some b=> !b.cs.isEmpty|none=>false))=true)(hb:st.bx.lookup K=some b)(hx:toIs b.cs=some xs)(hl:b.cs.length=n*k)(hk0:0<k)(hpos:0<n){E:Env}{a:Act}{w:World}(hi:Inv c E st a w):
 ∃E2:Env,Inv c E2 ⟨st.fr,(K,⟨b.ty,.l []⟩)::st.bx,st.tk⟩ a w∧(∀(v:AV) (u:Value),RepA E w v u→RepA E2 w v u)∧(∀u,RepA E w (.bsh K 0 n k) u→RepA E2 w (.iv (.sl (chunks k n xs))) u)∧E2.ρ=E.ρ∧E2.η=E.η∧E2.φ (E.ρ K)=n*k:=by
 have hnk:0<n*k:=Nat.mul_pos hpos hk0
 have hbn:b.cs≠ []:=fun e=>by rw[e] at hl;simp at hl;omega
 obtain⟨h0,arr,ha,hla,h1,hr,hη⟩:=hi.heap.box K b hb hbn
 obtain⟨hxl,hxg⟩:=toIs_get hx
 have hlt:E.ρ K<w.heap.size:=(Array.getElem?_eq_some_iff.1 ha).1
 have hown:c.w0.heap.size≤E.ρ K:=by
  rcases hi.heap.own K b hb hbn with h|⟨id,hid,hid2,_⟩
  · exact h
  · exfalso
    have h1:=List.all_eq_true.1 hin id hid
    simp only[Bool.and_eq_true,bne_iff_ne,ne_eq] at h1
    obtain⟨h1,h2⟩:=h1
    cases hbi:st.bx.lookup id with
    |none=>rw[hbi] at h2;cases h2
    |some bi=>
     rw[hbi] at h2
     exact h1 (hi.heap.bb id K bi b hbi hb (fun e=>by simp[e] at h2) hbn ((hi.heap.ins id hid).1.trans hid2))
 have hφ: ∀g,E.φ g≤(if g=E.ρ K then n*k else E.φ g):=fun g=>by
  split
  · rename_i e;rw[e,h0];exact Nat.zero_le _
  · exact Nat.le_refl _
 have hp: ∀u,RepA E w (.bsh K 0 n k) u→RepI (fun g=>if g=E.ρ K then n*k else E.φ g) w (.sl (chunks k n xs)) u:=fun u hu=>by
  obtain⟨cap,o,rfl,hn,hm,_,hoo⟩:=hu.bsh_inv
  rw[hoo (by omega)]
  have hidx: ∀(i:Nat) (e:List IV) (j:Nat) (x:IV),(chunks k n xs)[i]?=some e→e[j]?=some x→i*k+j<n*k∧xs[i*k+j]?=some x:=fun i e j x h2 h3=>by
   rw[chunks_get k n xs i e h2,List.getElem?_take] at h3
   split at h3
   · rw[List.getElem?_drop] at h3
     have:=(List.getElem?_eq_some_iff.1 h3).1
     exact⟨by omega,h3⟩
   · cases h3
  have hres:=RepI.sl (φ:=fun g=>if g=E.ρ K then n*k else E.φ g) (w:=w) (es:=chunks k n xs) (b:=E.ρ K) (o:=0) (cap:=cap) (k:=k) (fun i j=>arr.getD (i*k+j) undef) (by rw[chunks_length];omega) hm
   (fun i e he=>by
     have hlt':=(List.getElem?_eq_some_iff.1 he).1
     rw[chunks_length] at hlt'
     rw[chunks_get k n xs i e he,List.length_take,List.length_drop,hxl,hl]
     have:(i+1)*k≤n*k:=Nat.mul_le_mul_right k hlt'
     rw[Nat.add_mul,Nat.one_mul] at this
     omega)
   (fun i e j x h2 h3=>by simp only[if_true];have:=(hidx i e j x h2 h3).1;omega)
   (fun i e j x h2 h3=>by
     have:=(hidx i e j x h2 h3).1
     rw[cell_of_row w _ _ _ _ _ ha,Nat.zero_add]
     have hlt':i*k+j<arr.length:=by omega
     simp[hlt'])
   (fun i e j x h2 h3=>by
     obtain⟨h4,h5⟩:=hidx i e j x h2 h3
     have hlt':i*k+j<arr.length:=by omega
     have hcs:i*k+j<b.cs.length:=by omega
     have hu:arr[i*k+j]?=some (arr.getD (i*k+j) undef):=by simp[List.getElem?_eq_getElem hlt']
     exact((hr _ _ _ (List.getElem?_eq_getElem hcs) hu).toI (hxg _ _ x (List.getElem?_eq_getElem hcs) h5)).mono (fun _ _ _=>rfl) hφ)
  rw[chunks_length] at hres
  simpa using hres
 have hmap: ∀(i:Nat) (b1:Box),List.lookup i ((K,(⟨b.ty,.l []⟩:Box))::st.bx)=some b1→b1.cs≠ [] →i≠K∧st.bx.lookup i=some b1:=fun i b1 h hn=>by
  by_cases e:i=K
  · subst e;rw[lookup_cons_eq] at h;cases h;exact(hn rfl).elim
  · rw[lookup_cons_ne e] at h;exact⟨e,h⟩
 have pub: ∀{v:AV} {u:Value},RepA E w v u→RepA ⟨fun g=>if g=E.ρ K then n*k else E.φ g,E.ρ,E.η⟩ w v u:=fun hv=>hv.mono (E':=⟨fun g=>if g=E.ρ K then n*k else E.φ g,E.ρ,E.η⟩) (fun _ _ _=>rfl) hφ (fun _ _=>⟨rfl,rfl⟩)
 refine⟨⟨fun g=>if g=E.ρ K then n*k else E.φ g,E.ρ,E.η⟩,⟨hi.defers,hi.size,fun s v hv=>pub (hi.slot s v hv),⟨fun i b1 hi1 hn=> ?_,fun i t ht=> ?_,fun i j b1 b2 h2 h3 hn hn' he=> ?_,hi.heap.tt,fun i j b1 t h2 hn hj=> ?_,fun i b1 h2 hn=> ?_,hi.heap.ownt,fun g hg=> ?_,fun g hg=> ?_,fun i hi1=> ?_,hi.heap.kept⟩⟩,fun v u hv=>pub hv,fun u hu=> .iv (hp u hu),rfl,rfl,by simp⟩
 · obtain⟨hne,h2⟩:=hmap i b1 hi1 hn
   obtain⟨g0,arr',ha',hl',h1',hr',hη'⟩:=hi.heap.box i b1 h2 hn
   refine⟨?_,arr',ha',hl',h1',fun p x u hx hu=>pub (hr' p x u hx hu),hη'⟩
   have:E.ρ i≠E.ρ K:=fun e=>hne (hi.heap.bb i K b1 b h2 hb hn hbn e)
   simp only[if_neg this];exact g0
 · rcases hi.heap.tok i t ht with hn|⟨g,n',cap,cur,hv,hg,r1,r2,r3,r4⟩
   · exact .inl hn
   · have:g≠E.ρ K:=fun e=>hi.heap.bt K i b t hb hbn ht (by rw[hv,e];rfl)
     exact .inr ⟨g,n',cap,cur,hv,hg,r1,r2,r3,by simp only[if_neg this];exact r4⟩
 · exact hi.heap.bb i j b1 b2 (hmap i b1 h2 hn).2 (hmap j b2 h3 hn').2 hn hn' he
 · exact hi.heap.bt i j b1 t (hmap i b1 h2 hn).2 hn hj
 · exact hi.heap.own i b1 (hmap i b1 h2 hn).2 hn
 · simp only;rw[if_neg (by omega)];exact hi.heap.new g hg
 · simp only;rw[if_neg (by omega)];exact hi.heap.old g hg
 · have h1:=List.all_eq_true.1 hin _ hi1
   simp only[Bool.and_eq_true,bne_iff_ne,ne_eq] at h1
   obtain⟨g1,g2,g3⟩:=hi.heap.ins _ hi1
   exact⟨g1,g2,by rw[lookup_cons_ne h1.1];exact g3⟩
theorem L.publishS(K s:Nat){c:Ctx}{st:St}{X:Act→World→Prop}{n k:Nat}{b:Box}{xs:List IV}{v v':AV}(hin:c.ins.all (fun i=>(i !=K) && (match st.bx.lookup i with|some b=> !b.cs.isEmpty|none=>false))=true)(hb:st.bx.lookup K=some b)(hx:toIs b.cs=some xs)(hl:b.cs.length=n*k)(hk0:0<k)(hpos:0<n)
 (hs:st.fr.lookup s=some v) (hp:Pub K n k (.sl (chunks k n xs)) v v') (h:L c ⟨(s,v')::st.fr,(K,⟨b.ty,.l []⟩)::st.bx,st.tk⟩ X):L c st X:=by
 rintro a w ⟨E,hi⟩
 obtain⟨E2,hi2,hm,hpub,_,_⟩:=publish_core K hin hb hx hl hk0 hpos hi
 refine h a w ⟨E2,hi2.defers,hi2.size,fun s' u hu=> ?_,hi2.heap⟩
 by_cases e:s'=s
 · subst e
   simp only[lookup_cons_eq,Option.some.injEq] at hu
   subst hu
   have:=hi.slot s' v hs
   cases hp with
   |same=>exact hm _ _ this
   |here=>exact hpub _ this
 · simp only[lookup_cons_ne e] at hu;exact hi2.slot s' u hu
theorem L.publishB(K j:Nat){c:Ctx}{st:St}{X:Act→World→Prop}{n k:Nat}{b bj:Box}{xs:List IV}{cs:List AV}(hin:c.ins.all (fun i=>(i !=K) && (match st.bx.lookup i with|some b=> !b.cs.isEmpty|none=>false))=true)(hb:st.bx.lookup K=some b)(hx:toIs b.cs=some xs)(hl:b.cs.length=n*k)(hk0:0<k)(hpos:0<n)
 (hj:st.bx.lookup j=some bj) (hjn:bj.cs≠ []) (hjk:(j==K)=false) (hp:Pubs K n k (.sl (chunks k n xs)) bj.cs cs) (h:L c ⟨st.fr,(j,⟨bj.ty,.l cs⟩)::(K,⟨b.ty,.l []⟩)::st.bx,st.tk⟩ X):L c st X:=by
 rintro a w ⟨E,hi⟩
 obtain⟨E2,hi2,hm,hpub,hρ,_⟩:=publish_core K hin hb hx hl hk0 hpos hi
 have hne:j≠K:=by simpa using hjk
 have hj2:List.lookup j ((K,(⟨b.ty,.l []⟩:Box))::st.bx)=some bj:=by rw[lookup_cons_ne hne];exact hj
 refine h a w ⟨E2,hi2.defers,hi2.size,hi2.slot,HInv.reBox hi2.heap hj2 hjn (fun hn=> ?_)⟩
 obtain⟨_,arr0,ha0,hl0,_,hr0,_⟩:=hi.heap.box j bj hj hjn
 obtain⟨g0,arr,ha,hla,h1,hr,hη⟩:=hi2.heap.box j bj hj2 hjn
 have harr:arr=arr0:=by
  rw[hρ] at ha;rw[ha] at ha0
  simp only[Option.some.injEq,Obj.cells.injEq] at ha0
  exact congrArg Array.toList ha0.1
 subst harr
 obtain⟨e1,e2⟩:=hp.get
 refine⟨g0,arr,ha,by simpa[e1] using hla,h1,fun i x u hx hu=> ?_,hη⟩
 simp only[Box.cs_l] at hx
 obtain⟨v0,hv0,hp0⟩:=e2 i x hx
 cases hp0 with
 |same=>exact hr i x u hv0 hu
 |here=>
  exact hpub u (hr0 i _ u hv0 hu)
end Go.Abs
namespace Go.Abs
variable [Dr]
set_option linter.unusedSectionVars false
open Go.RowKit (Below)
set_option linter.unusedVariables false
mutual
def AV.ren(π:Nat→Nat):AV→AV
 | .row i es=> .row (π i) es
 | .ptr i o=> .ptr (π i) o
 | .bsl i o n c=> .bsl (π i) o n c
 | .bsh i o n k=> .bsh (π i) o n k
 | .agg cs=> .agg (AV.rens π cs)
 | .tup cs=> .tup (AV.rens π cs)
 | .fn f cs=> .fn f (AV.rens π cs)
 | .opt b v=> .opt b (AV.ren π v)
 | .any=> .any
 | .iv x=> .iv x
 | .nils=> .nils
 | .emp=> .emp
 | .el cs=> .el cs
def AV.rens(π:Nat→Nat):List AV→List AV
 | [] => []
 |c::cs=>AV.ren π c::AV.rens π cs
end
theorem AV.rens_map{π:Nat→Nat}: ∀cs:List AV,AV.rens π cs=cs.map (AV.ren π)
 | [] =>by simp[AV.rens]
 |c::cs=>by simp[AV.rens,AV.rens_map cs]
def Env.of(π:Nat→Nat)(E:Env):Env:=⟨E.φ,fun i=>E.ρ (π i),fun i=>E.η (π i)⟩
mutual
theorem RepA.unren{π:Nat→Nat}{E:Env}{w:World}: ∀(v:AV) {u:Value},RepA E w (v.ren π) u→RepA (E.of π) w v u
 | .any,u,_=> .any
 | .iv x,u,h=>by simp only[AV.ren] at h;cases h with|iv h=>exact .iv h
 | .nils,u,h=>by simp only[AV.ren] at h;cases h;exact .nils
 | .emp,u,h=>by simp only[AV.ren] at h;cases h with|emp hu=>exact .emp hu
 | .el cs,u,h=>by simp only[AV.ren] at h;cases h with|el f hc hr=>exact .el f hc hr
 | .row i es,u,h=>by simp only[AV.ren] at h;cases h with|row hu h=>exact .row hu h
 | .ptr i o,u,h=>by simp only[AV.ren] at h;cases h with|ptr hu=>exact .ptr hu
 | .bsl i o n c,u,h=>by simp only[AV.ren] at h;cases h with|bsl hn hm ho hu=>exact .bsl hn hm ho hu
 | .bsh i o n k,u,h=>by simp only[AV.ren] at h;cases h with|bsh hn hm he ho hu=>exact .bsh hn hm he ho hu
 | .agg cs,u,h=>by
   simp only[AV.ren] at h
   cases h with
   |agg hl h1 h=>obtain⟨e1,e2⟩:=RepA.unrens cs hl h;exact .agg e1 h1 e2
 | .tup cs,u,h=>by
   simp only[AV.ren] at h
   cases h with
   |tup hl h=>obtain⟨e1,e2⟩:=RepA.unrens cs hl h;exact .tup e1 e2
 | .fn f cs,u,h=>by
   simp only[AV.ren] at h
   cases h with
   |fn hl h=>obtain⟨e1,e2⟩:=RepA.unrens cs hl h;exact .fn e1 e2
 | .opt b v,u,h=>by
   simp only[AV.ren] at h
   cases h with
   |optT h=>exact .optT (RepA.unren v h)
   |optF=>exact .optF
theorem RepA.unrens{π:Nat→Nat}{E:Env}{w:World}: ∀(cs:List AV) {us:List Value},us.length=(AV.rens π cs).length→(∀(i:Nat) (c:AV) (u:Value),(AV.rens π cs)[i]?=some c→us[i]?=some u→RepA E w c u)→
 us.length=cs.length∧ ∀(i:Nat) (c:AV) (u:Value),cs[i]?=some c→us[i]?=some u→RepA (E.of π) w c u
 | [],us,hl,h=>⟨by simpa[AV.rens] using hl,fun i c u hc=>by simp at hc⟩
 |c::cs,[],hl,h=>by simp[AV.rens] at hl
 |c::cs,u::us,hl,h=>by
  obtain⟨e1,e2⟩:=RepA.unrens cs (us:=us) (by simpa[AV.rens] using hl) (fun i c u hc hu=>h (i+1) c u (by simpa[AV.rens] using hc) (by simpa using hu))
  refine⟨by simp[e1],fun i c' u' hc hu=> ?_⟩
  cases i with
  |zero=>simp at hc hu;subst hc;subst hu;exact RepA.unren c (h 0 _ u (by simp[AV.rens]) rfl)
  |succ i=>exact e2 i c' u' (by simpa using hc) (by simpa using hu)
end
mutual
theorem RepA.doren{π:Nat→Nat}{E:Env}{w:World}: ∀(v:AV) {u:Value},RepA (E.of π) w v u→RepA E w (v.ren π) u
 | .any,u,_=> .any
 | .iv x,u,h=>by simp only[AV.ren];cases h with|iv h=>exact .iv h
 | .nils,u,h=>by simp only[AV.ren];cases h;exact .nils
 | .emp,u,h=>by simp only[AV.ren];cases h with|emp hu=>exact .emp hu
 | .el cs,u,h=>by simp only[AV.ren];cases h with|el f hc hr=>exact .el f hc hr
 | .row i es,u,h=>by simp only[AV.ren];cases h with|row hu h=>exact .row hu h
 | .ptr i o,u,h=>by simp only[AV.ren];cases h with|ptr hu=>exact .ptr hu
 | .bsl i o n c,u,h=>by simp only[AV.ren];cases h with|bsl hn hm ho hu=>exact .bsl hn hm ho hu
 | .bsh i o n k,u,h=>by simp only[AV.ren];cases h with|bsh hn hm he ho hu=>exact .bsh hn hm he ho hu
 | .agg cs,u,h=>by
   simp only[AV.ren]
   cases h with
   |agg hl h1 h=>obtain⟨e1,e2⟩:=RepA.dorens cs hl h;exact .agg e1 h1 e2
 | .tup cs,u,h=>by
   simp only[AV.ren]
   cases h with
   |tup hl h=>obtain⟨e1,e2⟩:=RepA.dorens cs hl h;exact .tup e1 e2
 | .fn f cs,u,h=>by
   simp only[AV.ren]
   cases h with
   |fn hl h=>obtain⟨e1,e2⟩:=RepA.dorens cs hl h;exact .fn e1 e2
 | .opt b v,u,h=>by
   simp only[AV.ren]
   cases h with
   |optT h=>exact .optT (RepA.doren v h)
   |optF=>exact .optF
theorem RepA.dorens{π:Nat→Nat}{E:Env}{w:World}: ∀(cs:List AV) {us:List Value},us.length=cs.length→(∀(i:Nat) (c:AV) (u:Value),cs[i]?=some c→us[i]?=some u→RepA (E.of π) w c u)→
 us.length=(AV.rens π cs).length∧ ∀(i:Nat) (c:AV) (u:Value),(AV.rens π cs)[i]?=some c→us[i]?=some u→RepA E w c u
 | [],us,hl,h=>⟨by simpa[AV.rens] using hl,fun i c u hc=>by simp[AV.rens] at hc⟩
 |c::cs,[],hl,h=>by simp at hl
 |c::cs,u::us,hl,h=>by
  obtain⟨e1,e2⟩:=RepA.dorens cs (us:=us) (by simpa using hl) (fun i c u hc hu=>h (i+1) c u (by simpa using hc) (by simpa using hu))
  refine⟨by simp[AV.rens,e1],fun i c' u' hc hu=> ?_⟩
  cases i with
  |zero=>simp[AV.rens] at hc hu;subst hc;subst hu;exact RepA.doren c (h 0 _ u rfl rfl)
  |succ i=>exact e2 i c' u' (by simpa[AV.rens] using hc) (by simpa using hu)
end
def Box.ren(π:Nat→Nat)(b:Box):Box:=
 match b.c with
 | .l cs=>⟨b.ty,.l (AV.rens π cs)⟩
 | .r xs m=>⟨b.ty,.r xs m⟩
theorem Box.ren_ty{π:Nat→Nat}(b:Box):(b.ren π).ty=b.ty:=by obtain⟨ty,c⟩:=b;cases c<;>rfl
theorem rens_iv{π:Nat→Nat}: ∀xs:List IV,AV.rens π (xs.map .iv)=xs.map .iv
 | [] =>by simp[AV.rens]
 |x::xs=>by simp[AV.rens,AV.ren,rens_iv xs]
theorem rens_any{π:Nat→Nat}: ∀m:Nat,AV.rens π (List.replicate m .any)=List.replicate m .any
 |0=>by simp[AV.rens]
 |m+1=>by simp[List.replicate_succ,AV.rens,AV.ren,rens_any m]
theorem rens_app{π:Nat→Nat}(l m:List AV):AV.rens π (l++m)=AV.rens π l++AV.rens π m:=by simp[AV.rens_map]
theorem Box.ren_cs{π:Nat→Nat}(b:Box):(b.ren π).cs=AV.rens π b.cs:=by
 obtain⟨ty,c⟩:=b
 cases c with
 |l cs=>rfl
 |r xs m=>simp only[Box.ren,Box.cs_r,rens_app,rens_iv,rens_any]
theorem Box.ren_ne{π:Nat→Nat}{b:Box}:(b.ren π).cs≠ [] ↔b.cs≠ []:=by
 rw[Box.ren_cs,AV.rens_map];simp
theorem BoxOk.unren{π:Nat→Nat}{E:Env}{w:World}{id:Nat}{b:Box}(h:BoxOk E w (π id) (b.ren π)):BoxOk (E.of π) w id b:=by
 obtain⟨h0,arr,ha,hl,h1,hr,hη⟩:=h
 rw[Box.ren_ty] at ha
 rw[Box.ren_cs] at hl hr
 refine⟨h0,arr,ha,by simpa[AV.rens_map] using hl,h1,fun i c u hc hu=> ?_,hη⟩
 exact RepA.unren c (hr i _ u (by rw[AV.rens_map,List.getElem?_map,hc];rfl) hu)
theorem BoxOk.doren{π:Nat→Nat}{E:Env}{w:World}{id:Nat}{b:Box}(h:BoxOk (E.of π) w id b):BoxOk E w (π id) (b.ren π):=by
 obtain⟨h0,arr,ha,hl,h1,hr,hη⟩:=h
 refine⟨h0,arr,by rw[Box.ren_ty];exact ha,by rw[Box.ren_cs];simpa[AV.rens_map] using hl,h1,fun i c u hc hu=> ?_,hη⟩
 rw[Box.ren_cs,AV.rens_map,List.getElem?_map,Option.map_eq_some_iff] at hc
 obtain⟨c0,hc0,rfl⟩:=hc
 exact RepA.doren c0 (hr i c0 u hc0 hu)
def renB(π:Nat→Nat)(bx:List (Nat×Box)):List (Nat×Box):=bx.map (fun p=>(π p.1,p.2.ren π))
def renT(π:Nat→Nat)(tk:List (Nat×Tok)):List (Nat×Tok):=tk.map (fun p=>(π p.1,p.2))
theorem lookup_ren{β γ:Type}{π σ:Nat→Nat}(hσ: ∀n,σ (π n)=n)(f:β→γ): ∀(l:List (Nat×β)) (i:Nat),(l.map (fun p=>(π p.1,f p.2))).lookup (π i)=(l.lookup i).map f
 | [],i=>rfl
 |(t,v)::l,i=>by
  by_cases e:i=t
  · subst e;simp[List.lookup]
  · have e1:(i==t)=false:=by simpa using e
    have e2:(π i==π t)=false:=by
     have:π i≠π t:=fun h=>e (by rw[←hσ i,h,hσ])
     simpa using this
    simpa[List.lookup,e1,e2] using lookup_ren hσ f l i
theorem lookup_ren'{β γ:Type}{π σ:Nat→Nat}(hσ: ∀n,σ (π n)=n)(hπ: ∀n,π (σ n)=n)(f:β→γ)(l:List (Nat×β))(i:Nat):(l.map (fun p=>(π p.1,f p.2))).lookup i=(l.lookup (σ i)).map f:=by
 rw[←hπ i,lookup_ren hσ f l (σ i),hσ]
theorem CallG.ren{gs:Globs}{P:Program}{f:FuncId}{args:List AV}{bx bx':List (Nat×Box)}{tk':List (Nat×Tok)}{res:AV}(π σ:Nat→Nat)(hσ: ∀n,σ (π n)=n)(hπ: ∀n,π (σ n)=n)(h:CallG gs P f args bx bx' tk' res):
 CallG gs P f (AV.rens π args) (renB π bx) (renB π bx') (renT π tk') (res.ren π):=by
 intro E w us hrel hh hG
 have hπσ: ∀i,π i=i∨True:=fun _=> .inr trivial
 have hlk: ∀(i:Nat) (b:Box),bx.lookup i=some b→(renB π bx).lookup (π i)=some (b.ren π):=fun i b hb=>by
  unfold renB;rw[lookup_ren hσ (Box.ren π),hb];rfl
 have hlu: ∀(i:Nat) (b:Box),(renB π bx').lookup i=some b→ ∃b0,bx'.lookup (σ i)=some b0∧b0.ren π=b:=fun i b hb=>by
  unfold renB at hb;rw[lookup_ren' hσ hπ (Box.ren π),Option.map_eq_some_iff] at hb;exact hb
 have hlt: ∀(i:Nat) (t:Tok),(renT π tk').lookup i=some t→tk'.lookup (σ i)=some t:=fun i t ht=>by
  unfold renT at ht
  have:=lookup_ren' hσ hπ (fun t:Tok=>t) tk' i
  rw[this] at ht;simpa using ht
 have hargs:RelL (E.of π) w args us:=by
  obtain⟨e1,e2⟩:=RepA.unrens args hrel.1 hrel.2
  exact⟨e1,e2⟩
 have hM: ∀g,Ctx.M ⟨0,w,E.of π,keys bx⟩ g↔Ctx.M ⟨0,w,E,keys (renB π bx)⟩ g:=fun g=>by
  constructor
  · rintro ⟨id,hid,e1,e2⟩
    refine⟨π id,?_,e1,e2⟩
    simp only[keys,renB,List.map_map,List.mem_map] at hid⊢
    obtain⟨p,hp,rfl⟩:=hid
    exact⟨p,hp,rfl⟩
  · rintro ⟨id,hid,e1,e2⟩
    simp only[keys,renB,List.map_map,List.mem_map] at hid
    obtain⟨p,hp,rfl⟩:=hid
    exact⟨p.1,List.mem_map.2 ⟨p,hp,rfl⟩,e1,e2⟩
 have hin:HInv ⟨0,w,E.of π,keys bx⟩ (E.of π) bx [] w:=by
  refine⟨fun i b hb hn=> ?_,fun i t ht=>by simp at ht,fun i j b b' hi hj hn hn' he=> ?_,fun i j t t' g hi=>by simp at hi,fun i j b t hi hn hj=>by simp at hj,fun i b hb hn=> ?_,fun j t g hj=>by simp at hj,hh.new,fun _ _=>rfl,fun i hi=>⟨rfl,rfl,?_⟩,KeptBut.refl _ _⟩
  · exact(hh.box (π i) _ (hlk i b hb) (Box.ren_ne.2 hn)).unren
  · have:=hh.bb (π i) (π j) _ _ (hlk i b hi) (hlk j b' hj) (Box.ren_ne.2 hn) (Box.ren_ne.2 hn') he
    rw[←hσ i,this,hσ]
  · rcases hh.own (π i) _ (hlk i b hb) (Box.ren_ne.2 hn) with h|h
    · exact .inl h
    · exact .inr ((hM _).2 h)
  · obtain⟨b,hb⟩:=mem_keys hi;show(List.lookup i bx).isSome=true;rw[hb];rfl
 refine(h (E.of π) w us hargs hin hG).mono ?_
 rintro e w' ⟨u,E1,he,hu,ho⟩
 have hE:(Env.of π ⟨E1.φ,fun i=>E1.ρ (σ i),fun i=>E1.η (σ i)⟩)=E1:=by simp[Env.of,hσ]
 have hEof: ∀i,(⟨E1.φ,fun i=>E1.ρ (σ i),fun i=>E1.η (σ i)⟩:Env).ρ (π i)=E1.ρ i:=fun i=>by simp[hσ]
 refine⟨u,⟨E1.φ,fun i=>E1.ρ (σ i),fun i=>E1.η (σ i)⟩,he,RepA.doren res (by rw[hE];exact hu),?_⟩
 refine⟨fun i b hb hn=> ?_,fun i t ht=> ?_,fun i j b b' hi hj hn hn' he=> ?_,fun i j t t' g hi hj h1 h2=> ?_,fun i j b t hi hn hj=> ?_,fun i b hb hn=> ?_,fun j t g hj hg=> ?_,ho.new,fun b hb=>ho.old b hb,fun i hi=> ?_,?_⟩
 · obtain⟨b0,h0,rfl⟩:=hlu i b hb
   have:=BoxOk.doren (π:=π) (E:=⟨E1.φ,fun i=>E1.ρ (σ i),fun i=>E1.η (σ i)⟩) (by rw[hE];exact ho.box (σ i) b0 h0 (Box.ren_ne.1 hn))
   rw[hπ] at this;exact this
 · exact ho.tok (σ i) t (hlt i t ht)
 · obtain⟨b0,h0,rfl⟩:=hlu i b hi
   obtain⟨b1,h1,rfl⟩:=hlu j b' hj
   have:=ho.bb (σ i) (σ j) b0 b1 h0 h1 (Box.ren_ne.1 hn) (Box.ren_ne.1 hn') he
   rw[←hπ i,this,hπ]
 · have:=ho.tt (σ i) (σ j) t t' g (hlt i t hi) (hlt j t' hj) h1 h2
   rw[←hπ i,this,hπ]
 · obtain⟨b0,h0,rfl⟩:=hlu i b hi
   exact ho.bt (σ i) (σ j) b0 t h0 (Box.ren_ne.1 hn) (hlt j t hj)
 · obtain⟨b0,h0,rfl⟩:=hlu i b hb
   rcases ho.own (σ i) b0 h0 (Box.ren_ne.1 hn) with h|h
   · exact .inl h
   · exact .inr ((hM _).1 h)
 · exact ho.ownt (σ j) t g (hlt j t hj) hg
 · simp only[keys,renB,List.map_map,List.mem_map] at hi
   obtain⟨p,hp,rfl⟩:=hi
   obtain⟨e1,e2,e3⟩:=ho.ins p.1 (List.mem_map.2 ⟨p,hp,rfl⟩)
   refine⟨by simpa[hσ,Env.of] using e1,by simpa[hσ,Env.of] using e2,?_⟩
   obtain⟨b,hb⟩:=Option.isSome_iff_exists.1 e3
   show(List.lookup (π p.1) (renB π bx')).isSome=true
   unfold renB;rw[lookup_ren hσ (Box.ren π),hb];rfl
 · exact⟨ho.kept.os,ho.kept.tape,ho.kept.output,ho.kept.size,fun k hk hm=>ho.kept.block k hk (fun hM'=>hm ((hM k).1 hM')),ho.kept.drawn⟩
theorem CallA.ren{P:Program}{f:FuncId}{args:List AV}{bx bx':List (Nat×Box)}{tk':List (Nat×Tok)}{res:AV}(π σ:Nat→Nat)(hσ: ∀n,σ (π n)=n)(hπ: ∀n,π (σ n)=n)(h:CallA P f args bx bx' tk' res):
 CallA P f (AV.rens π args) (renB π bx) (renB π bx') (renT π tk') (res.ren π):=(CallG.ren π σ hσ hπ h.toG).toA
def sw(a b n:Nat):Nat:=if n=a then b else if n=b then a else n
theorem sw_sw(a b n:Nat):sw a b (sw a b n)=n:=by
 unfold sw;split<;>split<;>(try split)<;>omega
def sws:List (Nat×Nat)→Nat→Nat
 | [],n=>n
 |(a,b)::r,n=>sw (sws r a) b (sws r n)
def swsI:List (Nat×Nat)→Nat→Nat
 | [],n=>n
 |(a,b)::r,n=>swsI r (sw (sws r a) b n)
theorem swsI_sws: ∀(l:List (Nat×Nat)) (n:Nat),swsI l (sws l n)=n
 | [],n=>rfl
 |(a,b)::r,n=>by simp only[sws,swsI,sw_sw,swsI_sws r n]
theorem sws_swsI: ∀(l:List (Nat×Nat)) (n:Nat),sws l (swsI l n)=n
 | [],n=>rfl
 |(a,b)::r,n=>by simp only[sws,swsI,sws_swsI r,sw_sw]
theorem sws_hd(a b:Nat)(r:List (Nat×Nat)):sws ((a,b)::r) a=b:=by simp[sws,sw]
theorem sws_tl{a b n m:Nat}{r:List (Nat×Nat)}(hn:n≠a)(h:sws r n=m)(hb:m≠b):sws ((a,b)::r) n=m:=by
 have:sws r n≠sws r a:=fun e=>hn (by rw[←swsI_sws r n,e,swsI_sws])
 rw[h] at this
 simp only[sws,sw,h]
 rw[if_neg this,if_neg hb]
theorem CallA.sws{P:Program}{f:FuncId}{args args2:List AV}{bx bx' bx2 bx2':List (Nat×Box)}{tk' tk2':List (Nat×Tok)}{res res2:AV}(l:List (Nat×Nat))(h:CallA P f args bx bx' tk' res)
 (h1:AV.rens (Abs.sws l) args=args2) (h2:renB (Abs.sws l) bx=bx2) (h3:renB (Abs.sws l) bx'=bx2') (h4:renT (Abs.sws l) tk'=tk2') (h5:res.ren (Abs.sws l)=res2):CallA P f args2 bx2 bx2' tk2' res2:=by
 subst h1;subst h2;subst h3;subst h4;subst h5
 exact h.ren _ _ (swsI_sws l) (sws_swsI l)
theorem CallG.sws{gs:Globs}{P:Program}{f:FuncId}{args args2:List AV}{bx bx' bx2 bx2':List (Nat×Box)}{tk' tk2':List (Nat×Tok)}{res res2:AV}(l:List (Nat×Nat))(h:CallG gs P f args bx bx' tk' res)
 (h1:AV.rens (Abs.sws l) args=args2) (h2:renB (Abs.sws l) bx=bx2) (h3:renB (Abs.sws l) bx'=bx2') (h4:renT (Abs.sws l) tk'=tk2') (h5:res.ren (Abs.sws l)=res2):CallG gs P f args2 bx2 bx2' tk2' res2:=by
 subst h1;subst h2;subst h3;subst h4;subst h5
 exact h.ren _ _ (swsI_sws l) (sws_swsI l)
mutual
theorem AV.ren_id{π:Nat→Nat}: ∀v:AV,AV.mentIn [] v=true→v.ren π=v
 | .any,_=>rfl
 | .iv _,_=>rfl
 | .nils,_=>rfl
 | .emp,_=>rfl
 | .el _,_=>rfl
 | .row i _,h=>by simp[AV.mentIn] at h
 | .ptr i _,h=>by simp[AV.mentIn] at h
 | .bsl i _ _ _,h=>by simp[AV.mentIn] at h
 | .bsh i _ _ _,h=>by simp[AV.mentIn] at h
 | .agg cs,h=>by rw[AV.ren,AV.rens_id cs (by simpa[AV.mentIn] using h)]
 | .tup cs,h=>by rw[AV.ren,AV.rens_id cs (by simpa[AV.mentIn] using h)]
 | .fn _ cs,h=>by rw[AV.ren,AV.rens_id cs (by simpa[AV.mentIn] using h)]
 | .opt _ v,h=>by rw[AV.ren,AV.ren_id v (by simpa[AV.mentIn] using h)]
theorem AV.rens_id{π:Nat→Nat}: ∀vs:List AV,AV.mentsIn [] vs=true→AV.rens π vs=vs
 | [],_=>rfl
 |v::vs,h=>by
  simp only[AV.mentsIn,Bool.and_eq_true] at h
  rw[AV.rens,AV.ren_id v h.1,AV.rens_id vs h.2]
end
end Go.Abs
