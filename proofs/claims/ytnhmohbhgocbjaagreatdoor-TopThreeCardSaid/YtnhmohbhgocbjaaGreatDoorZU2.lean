/- Lemmas towards the law. Conditions: each one says its own. -/
import Derived.Test.YtnhmohbhgocbjaaGreatDoorZU1
import Derived.Lib.AppendZerosOnto
import Derived.Lib.Overlaps
set_option linter.all false
set_option maxHeartbeats 64000000
set_option maxRecDepth 100000
namespace Go.Abs
variable [Dr]
open Go.RowKit (Below)
section
variable {P:Program}{c:C7}{st:St}{ops:Array Oper}{Q:Exit->Act->World->Prop}{rest:List Oper}{o:Oper}
def Reads(P:Program)(c:C7)(st:St)(y:Operand)(k m:Nat)(new:List AV):Prop:=
 ∀(E:B9) (a:Act) (w:World),Inv c E st a w-> ∃us:List Value,(Builtin.lenOf (a.eval y)).run P w= .ok m w/\(∀j,j<=m->(Builtin.firstCells k j (a.eval y)).run P w= .ok (us.take (j*k)).toArray w)/\RelL E w new us/\us.length=m*k/\ ∀u∈us,u.oneCell'=true
section
variable {b:A5}{cap id k m n off:Nat}{d:TypeDesc}{e t t':TypeId}{i:TypeInfo}{new:List AV}{w:World}{x y:Operand}{z:Value}
def Reads.bsl(hy:st.ev y= .bsl id off m cap)(hb:st.bx.lookup id=some b)(hn:(b.cs.drop off).take (m*k)=new)(hl:new.length=m*k):Reads P c st y k m new:=fun E a w hi=>by
 have h:=hi.ev y;rw[hy] at h;obtain⟨o',hq,a1,hm,aR⟩:=h.bsl_inv;obtain⟨arr,rest,_,hr,h1,_,hc⟩:=hi.boxCell hb;refine⟨(arr.drop off).take (m*k),by rw[hq];rfl,fun j hj=> ?_,by rw[<-hn];exact(hr.drop off).take _,by rw[((hr.drop off).take (m*k)).1,hn,hl],fun u hu=>h1 u (mD (mT hu))⟩;have T:((arr.drop off).take (m*k)).length=m*k:=by rw[((hr.drop off).take (m*k)).1,hn,hl]
 have a0:j*k<=m*k:=mR k hj;have ad:(((arr.drop off).take (m*k)).take (j*k)).length=j*k:=by rw[lT,T];omega
 rw[hq];refine run_firstCells_some w k j _ m cap _ ad (fun p v hv=> ?_);have hp:=(gS hv).1;rw[ad] at hp;have ar:cap≠0:=fun e=>by
  have:m=0:=C;subst this;simp at a0;omega
 rw[aR ar];rw[List.getElem?_take,if_pos hp,List.getElem?_take,if_pos C,List.getElem?_drop] at hv;simp only[aK];rw[hc _ (gS hv).1];exact hv
def Makes.copyB{cnt:Nat}(ho:o.op= .call {callee:= .builtin .copy,args:= #[x,y],argTypes:= #[t,t']})(hs:bH P t e k=true)
 (hx:st.ev x= .bsl id off n cap) (hb:st.bx.lookup id=some b) (hy:Reads P c st y k m new) (T:Nat.min m n=cnt) (a2:0<cnt) (bi:0<k) (ar:off+cnt*k<=b.cs.length):
 Makes P c st o (aI cnt) ((id,⟨b.ty,lX b.cs off (new.take (cnt*k))⟩)::st.bx) st.tk:=fun E a w hi=>by
 obtain⟨hu,b2,a3,bl⟩:=aH hs;have h:=hi.ev x;rw[hx] at h;obtain⟨o',hq,b3,hm,bm⟩:=h.bsl_inv;have a4:cnt<=m:=by rw[<-T];exact Nat.min_le_left _ _
 have b4:cnt<=n:=by rw[<-T];exact Nat.min_le_right _ _
 have bp:=bm C;subst bp;have b5:0<cnt*k:=Nat.mul_pos a2 bi;have aR:b.cs≠ []:=fun e=>by rw[e] at ar;simp at ar;omega
 obtain⟨us,a5,hf,hr,a6,bP⟩:=hy E a w hi;obtain⟨arr,a7,ha,a0,h1,bR,hc⟩:=hi.boxCell hb;have bS:=hf cnt a4;have a8:=hr.take (cnt*k);have b6:cnt*k<=m*k:=mR k a4;have ad:(us.take (cnt*k)).length=cnt*k:=by rw[lT,a6];omega
 have bW:(new.take (cnt*k)).length=cnt*k:=by rw[<-a8.1,ad]
 have a9: ∀u∈us.take (cnt*k),u.oneCell'=true:=fun u hu=>bP u (mT hu)
 have b1:o'+cnt*k<=arr.length:=by rw[a0.1];exact ar
 have ba:=run_storeCells_at P (E.ρ id) o' b.ty (us.take (cnt*k)) 0 (arr++a7).toArray w (ha aR) (by rw[ad];simp;omega) a9;have bh:RelL E w (lX b.cs o' (new.take (cnt*k))) (arr.take o'++(us.take (cnt*k)++arr.drop (o'+cnt*k))):=by
  unfold lX;rw[bW];exact(a0.take o').append (a8.append (a0.drop (o'+cnt*k)))
 have a1:(storeCells ⟨E.ρ id,o',none⟩ (us.take (cnt*k))).run P w= .ok () (w.setRow (E.ρ id) ((arr.take o'++(us.take (cnt*k)++arr.drop (o'+cnt*k)))++a7).toArray):=by
  rw[ba];simp only[Nat.add_zero,ad,List.append_assoc];rw[tA C,List.drop_append_of_le_length b1]
 refine⟨.int .i64 cnt,E,_,?_,hi.setBox hb aR (ha aR) bR (us:=arr.take o'++(us.take (cnt*k)++arr.drop (o'+cnt*k))) ?_ bh ?_,.iv (.im U)⟩
 · simp[execOp,ho,resolve,invoke,builtin,Builtin.copy_,run_underlying hu,hq,a5,T,sizeOf,typeInfo,a3,bl,bS,a1,goInt]
 · simp only[gV,lT,lD,a6];omega
 · intro u hu;rcases mA hu with hu|hu
   · exact h1 u (mT hu)
   · rcases mA hu with hu|hu
     · exact a9 u hu
     · exact h1 u (mD hu)
def yk{P:Program}{ty:TypeId}{x:Value}{news:List Value}(ht:P.underlying t=some (.slice e))(hd:P.underlying t'=some d)(hn:gB d)(hi:P.info? e=some i)
 (a0:(Builtin.lenOf x).run P w= .ok m w) (a1:(Builtin.firstCells i.size m x).run P w= .ok news.toArray w) {g n cap:Nat} {cur:Array Value} {ad:TypeId} (hg:w.heap[g]?=some (.cells cur ad (0,0))) (h1: ∀u∈news,u.oneCell'=true) (T:n+m<=cap)
 (ar:n*i.size+news.length<=cur.size):
 (Builtin.append_ #[t,t'] ty #[.slice (some ⟨g,0,none⟩) n cap,x]).run P w=
   .ok (.slice (some ⟨g,0,none⟩) (n+m) cap) (w.setRow g (cur.toList.take (n*i.size)++news++cur.toList.drop (n*i.size+news.length)).toArray):=by
 have aR:=run_storeCells_at P g (n*i.size) ad news 0 cur w hg (by simpa using ar) h1;simp only[Nat.add_zero] at aR;rcases hn with⟨e',rfl⟩|rfl<;>simp[Builtin.append_,run_underlying ht,run_underlying hd,sizeOf,typeInfo,hi,a0,T,a1,aK,aR]
def Makes.roomB(ho:o.op= .call {callee:= .builtin .append,args:= #[x,y],argTypes:= #[t,t']})(ht:P.underlying t=some (.slice e))(a6:P.info? e=some i)(a7:i.size=k)
 (hd:P.underlying t'=some d) (hn:gB d) (hx:st.ev x= .bsl id 0 n cap) (hb:st.bx.lookup id=some b) (aR:b.cs≠ []) (hy:Reads P c st y k m new) (bm:0<cap) (T:n+m<=cap) (a8:(n+m)*k<=b.cs.length):
 Makes P c st o (.bsl id 0 (n+m) cap) ((id,⟨b.ty,lX b.cs (n*k) new⟩)::st.bx) st.tk:=fun E a w hi=>by
 subst a7;have h:=hi.ev x;rw[hx] at h;obtain⟨o',hq,bp,hm,a9⟩:=h.bsl_inv;have ba:o'=0:=a9 C;rw[ba] at hq;obtain⟨us,a2,hf,hr,ad,a3⟩:=hy E a w hi;obtain⟨arr,a0,ha,a1,h1,bh,hc⟩:=hi.boxCell hb;have a4:=hf m nR;rw[tL (by rw[ad];exact Nat.le_refl _)] at a4;have bi:n*i.size+m*i.size<=arr.length:=by rw[a1.1,<-Nat.add_mul];exact a8
 have bl:new.length=m*i.size:=by rw[<-hr.1,ad]
 have ar:=yk (ty:=o.type) ht hd hn a6 a2 a4 (ha aR) a3 T (n:=n) (by rw[ad];simp;omega);have a5:RelL E w (lX b.cs (n*i.size) new) (arr.take (n*i.size)++(us++arr.drop (n*i.size+m*i.size))):=by
  unfold lX;rw[bl];exact(a1.take _).append (hr.append (a1.drop _))
 have hw:(((arr++a0).toArray.toList.take (n*i.size)++us++(arr++a0).toArray.toList.drop (n*i.size+us.length)).toArray)=((arr.take (n*i.size)++(us++arr.drop (n*i.size+m*i.size)))++a0).toArray:=by
  simp only[ad,List.append_assoc];rw[tA C,List.drop_append_of_le_length bi]
 rw[hw] at ar;refine⟨_,E,_,?_,hi.setBox hb aR (ha aR) bh (us:=arr.take (n*i.size)++(us++arr.drop (n*i.size+m*i.size))) ?_ a5 ?_,.bsl (o:=0) T hm (fun _=>rfl) U⟩
 · simp[execOp,ho,resolve,invoke,builtin,hq,ar]
 · simp only[gV,lT,lD,ad];omega
 · intro u hu;rcases mA hu with hu|hu
   · exact h1 u (mT hu)
   · rcases mA hu with hu|hu
     · exact a3 u hu
     · exact h1 u (mD hu)
def L.clearB(hg:o.guard=none)(hd:o.dst=none)(ho:o.op= .call {callee:= .builtin .clear,args:= #[x],argTypes:= #[t]})(ht:P.underlying t=some (.slice e))
 (a8:P.info? e=some i) (a9:i.zero=some z) (a2:z.cells.size=k) (ba: ∀u∈z.cells.toList,u.oneCell'=true) (a3:0<k) (hx:st.ev x= .bsl id off n cap) (hb:st.bx.lookup id=some b) (bh:0<n) (ad:off+n*k<=b.cs.length)
 (h:L c ⟨st.fr,(id,⟨b.ty,lX b.cs off (List.replicate (n*k) .any)⟩)::st.bx,st.tk⟩ (wpList P ops Q rest)):L c st (wpList P ops Q (o::rest)):=by
 rintro a w ⟨E,hi⟩;have hv:=hi.ev x;rw[hx] at hv;obtain⟨o',hq,bS,hm,bi⟩:=hv.bsl_inv;have bl:o'=off:=bi C;rw[bl] at hq;have bW:0<n*k:=Nat.mul_pos bh a3;have ar:b.cs≠ []:=fun e=>by rw[e] at ad;simp at ad;omega
 obtain⟨arr,aR,ha,a0,h1,bm,hc⟩:=hi.boxCell hb;have bp:off+n*k<=arr.length:=by rw[a0.1];exact ad
 have T:(Builtin.zeroCells z.cells n).toList.length=n*k:=by rw[Array.length_toList,size_zeroCells,a2]
 have a4: ∀u∈(Builtin.zeroCells z.cells n).toList,u.oneCell'=true:=fun u hu=>by
  simp only[Builtin.zeroCells,Array.toList_map,Array.toList_range,List.mem_map,List.mem_range] at hu;obtain⟨p,_,rfl⟩:=hu;have bP:p % z.cells.size<z.cells.size:=Nat.mod_lt _ (by rw[a2];exact a3);rw[getElem!_pos z.cells _ bP];exact ba _ sP
 have a5:=run_storeCells_at P (E.ρ id) off b.ty (Builtin.zeroCells z.cells n).toList 0 (arr++aR).toArray w (ha ar) (by rw[T];simp;omega) a4;have a1:(storeCells ⟨E.ρ id,off,none⟩ (Builtin.zeroCells z.cells n).toList).run P w= .ok () (w.setRow (E.ρ id) ((arr.take off++((Builtin.zeroCells z.cells n).toList++arr.drop (off+n*k)))++aR).toArray):=by
  rw[a5];simp only[Nat.add_zero,T,List.append_assoc];rw[tA C,List.drop_append_of_le_length bp]
 have a6:RelL E w (List.replicate (n*k) .any) (Builtin.zeroCells z.cells n).toList:=⟨by rw[T,List.length_replicate],fun p x u hx hu=>by
  simp only[List.getElem?_replicate] at hx;split at hx
  · cases hx;exact .any
  · cases hx⟩
 have a7:RelL E w (lX b.cs off (List.replicate (n*k) .any)) (arr.take off++((Builtin.zeroCells z.cells n).toList++arr.drop (off+n*k))):=by
  unfold lX;rw[List.length_replicate];exact(a0.take off).append (a6.append (a0.drop _))
 have bR:(execOp a.eval o).run P w= .ok (.value (.tuple #[])) (w.setRow (E.ρ id) ((arr.take off++((Builtin.zeroCells z.cells n).toList++arr.drop (off+n*k)))++aR).toArray):=by
  obtain⟨n',rfl⟩: ∃n',n=n'+1:=⟨n - 1,by omega⟩
  simp[execOp,ho,resolve,invoke,builtin,Builtin.clear_,run_underlying ht,hq,zeroValue,typeInfo,a8,a9,a1]
 refine wpList_plain hg (fun K hK=>ek bR (hK _ _ ?_));rw[hd];refine h _ _ ⟨E,hi.setBox hb ar (ha ar) bm (us:=arr.take off++((Builtin.zeroCells z.cells n).toList++arr.drop (off+n*k))) ?_ a7 ?_⟩
 · simp only[gV,lT,lD,T];omega
 · intro u hu;rcases mA hu with hu|hu
   · exact h1 u (mT hu)
   · rcases mA hu with hu|hu
     · exact a4 u hu
     · exact h1 u (mD hu)
def vp{E:B9}{a:Act}(hi:Inv c E st a w){o':Nat}{t t' e:TypeId}{d:TypeDesc}{x y:Operand}{id id' k off bytes:Nat}{i:TypeInfo}{z:Value}{n cap:Nat}{b:A5}{news:List (List IV)}{old cs:List AV}
 (ho:o.op= .call {callee:= .builtin .append,args:= #[x,y],argTypes:= #[t,t']}) (ht:P.underlying t=some (.slice e)) (bp:P.info? e=some i) (bP:i.size=k) (bR:i.bytes=bytes) (bS:i.zero=some z) (a3:z.cells.size=k) (bW: ∀u∈z.cells.toList,u.oneCell'=true)
 (hd:P.underlying t'=some d) (hn:gB d) (a4:0<k) (hq:a.eval x= .slice (some ⟨E.ρ id,o',none⟩) n cap) (b1:cap≠0->o'=off) (c3:n<=cap) (hb:st.bx.lookup id=some b) (a5:(b.cs.drop off).take (n*k)=old) (a6:old.length=n*k) (ad:cap<n+news.length) (a7: ∀e∈news,e.length=k) (hy:Adds P c st y k news) (b2:news≠ [])
 (hm:n+news.length<=maxLen) (b3:(n+news.length)*bytes<=140737488355328) (hf:st.fresh id'=true) (a8:news.flatten.map .iv=cs) (a9:AV.ments id' old=false) (b4:AV.ments id' cs=false):
 ∃(u:Value) (E':B9) (w':World),(execOp a.eval o).run P w= .ok (.value u) w'/\Inv c E' ⟨st.fr,(id',⟨e,old++cs⟩)::st.bx,st.tk⟩ a w'/\A6 E' w' (.bsh id' 0 (n+news.length) k) u:=by
 subst bP;subst bR;obtain⟨us,ba,bh,b5,b6⟩:=hy E a w hi;have cX:0<news.length:=gU b2;have a0:(execOp a.eval o).run P w=((Builtin.append_ #[t,t'] o.type #[a.eval x,a.eval y]).run P w).andThen fun v w'=> .ok (.value v) w':=by
  simp[execOp,ho,resolve,invoke,builtin]
 obtain⟨arr,c4,_,b7,b8,_,hc⟩:=hi.boxCell hb;have a1:RelL E w old ((arr.drop off).take (n*i.size)):=by rw[<-a5];exact(b7.drop off).take _
 generalize bi:(arr.drop off).take (n*i.size)=olds at a1;have T:olds.length=n*i.size:=by rw[a1.1,a6]
 have b9:(Builtin.firstCells i.size n (.slice (some ⟨E.ρ id,o',none⟩) n cap)).run P w.drew= .ok olds.toArray w.drew:=by
  refine run_firstCells_some w.drew i.size n _ n cap olds T (fun p v hv=> ?_);have hp:=(gS hv).1;rw[T] at hp;have c5:n≠0:=fun e=>by rw[e] at hp;simp at hp
  rw[b1 C];rw[<-bi,List.getElem?_take,if_pos hp,List.getElem?_drop] at hv;simp only[aK];show w.cell? _=_;rw[hc _ (gS hv).1];exact hv
 have bl:=wd (ty:=o.type) ht hd hn bp bS ba b9 ad (by simp only[maxLen] at hm;omega) (growslice_fits ad b3);have cb:n+news.length<=grownCap w (n+news.length) cap e:=grownCap_ge _ _ _ _;have cc:=grownCap_le_maxLen w (n+news.length) cap e hm;have ar:(olds++(us++(Builtin.zeroCells z.cells (grownCap w (n+news.length) cap e - (n+news.length))).toList)).length=grownCap w (n+news.length) cap e*i.size:=by
  simp only[gV,bh,T,Array.length_toList,size_zeroCells,a3];rw[<-Nat.add_mul,<-Nat.add_mul];congr 1;omega
 have bm:cs.length=news.length*i.size:=by rw[<-a8,lM,ao news a7]
 have ch:RelL E w cs us:=⟨by rw[bh,bm],fun p x u hx hu=>by
  rw[<-a8,gP,Option.map_eq_some_iff] at hx;obtain⟨x',cR,rfl⟩:=hx;obtain⟨e',h2,h3⟩:=lJ a4 news p x' a7 cR;have hp:p / i.size*i.size+p % i.size=p:=by rw[Nat.mul_comm];exact Nat.div_add_mod p i.size
  exact .iv (b6 _ e' _ x' u h2 h3 (by rw[hp];exact hu))⟩
 have aR:=RelL.keep (E:=E) (w:=w) (w':=w.drew) (fun _ _ _=>rfl) (a1.append ch);have cS:=hi.drew.newRoom hf (ty:=e) (cs:=old++cs) (us:=olds++(us++(Builtin.zeroCells z.cells (grownCap w (n+news.length) cap e - (n+news.length))).toList)) (ri i.size (grownCap w (n+news.length) cap e))
  (by rw[ar,gV,a6,bm,<-Nat.add_mul];exact mR _ cb)
  (fun p x u hx hu=>by
    have a2:=(gS hx).1;rw[<-List.append_assoc,gL (by rw[aR.1];exact a2)] at hu;exact aR.2 p x u hx hu)
  (fun u hu=>by
    rcases mA hu with hu|hu
    · rw[<-bi] at hu;exact b8 u (mD (mT hu))
    rcases mA hu with hu|hu
    · exact b5 u hu
    · simp only[Builtin.zeroCells,Array.toList_map,Array.toList_range,List.mem_map,List.mem_range] at hu;obtain⟨p,_,rfl⟩:=hu;have a2:p % z.cells.size<z.cells.size:=Nat.mod_lt _ (by rw[a3];exact a4);rw[getElem!_pos z.cells _ a2];exact bW _ sP)
  (pp a9 b4) (fun k' cap' he=>by
    obtain⟨rfl,rfl⟩:=mV he;exact Nat.le_of_eq ar.symm)
 refine⟨_,_,_,?_,cS,.bsh (cap:=grownCap w (n+news.length) cap e) (o:=0) C cc (by simp[B9.upd]) (fun _=>by simp) U⟩;rw[a0,hq,bl];simp[B9.upd]
def Makes.growB{id' bytes:Nat}{news:List (List IV)}{old cs:List AV}
 (ho:o.op= .call {callee:= .builtin .append,args:= #[x,y],argTypes:= #[t,t']}) (ht:P.underlying t=some (.slice e)) (aR:P.info? e=some i) (a0:i.size=k) (a1:i.bytes=bytes) (a2:i.zero=some z) (a3:z.cells.size=k) (a4: ∀u∈z.cells.toList,u.oneCell'=true)
 (hd:P.underlying t'=some d) (hn:gB d) (a5:0<k) (hx:st.ev x= .bsl id off n cap) (hb:st.bx.lookup id=some b) (T:(b.cs.drop off).take (n*k)=old) (a6:old.length=n*k) (ad:cap<n+news.length) (a7: ∀e∈news,e.length=k) (hy:Adds P c st y k news) (a8:news≠ [])
 (hm:n+news.length<=maxLen) (a9:(n+news.length)*bytes<=140737488355328) (hf:st.fresh id'=true) (ba:news.flatten.map .iv=cs) (ar:AV.ments id' old=false) (bh:AV.ments id' cs=false):
 Makes P c st o (.bsh id' 0 (n+news.length) k) ((id',⟨e,old++cs⟩)::st.bx) st.tk:=fun E a w hi=>by
 have h:=hi.ev x;rw[hx] at h;obtain⟨o',hq,bi,bm,bl⟩:=h.bsl_inv;exact vp hi ho ht aR a0 a1 a2 a3 a4 hd hn a5 hq bl bi hb T a6 ad a7 hy a8 hm a9 hf ba ar bh
end
end
section
variable {P:Program}{c:C7}{st:St}{ops:Array Oper}{Q:Exit->Act->World->Prop}{rest:List Oper}{o:Oper}
def Makes.growZ{t t' e:TypeId}{kd a4:IntKind}{x y:Operand}{m:Nat}{id id' k off bytes:Nat}{i:TypeInfo}{z:Value}{n cap:Nat}{b:A5}{old:List AV}
 (ho:o.op= .call {callee:= .builtin .append,args:= #[x,y],argTypes:= #[t,t']}) (ht:P.underlying t=some (.slice e)) (bm:P.info? e=some i) (bp:i.size=k) (bP:i.bytes=bytes) (bR:i.zero=some z) (a0:z.cells.size=k) (bS: ∀u∈z.cells.toList,u.oneCell'=true)
 (hd:P.underlying t'=some (.int kd)) (a5:0<k) (hx:st.ev x= .bsl id off n cap) (hb:st.bx.lookup id=some b) (a6:(b.cs.drop off).take (n*k)=old) (a7:old.length=n*k) (ad:cap<n+m) (hy:st.ev y= .iv (.im (.int a4 (m:Int)))) (a8:0<m)
 (hm:n+m<=maxLen) (a9:(n+m)*bytes<=140737488355328) (hf:st.fresh id'=true) (ba:AV.ments id' old=false):
 Makes P c st o (.bsh id' 0 (n+m) k) ((id',⟨e,.l (old++List.replicate (m*k) .any)⟩)::st.bx) st.tk:=fun E a w hi=>by
 subst bp;subst bP;have bW:=hi.im hy;have h:=hi.ev x;rw[hx] at h;obtain⟨o',hq,cc,ch,b1⟩:=h.bsl_inv;have a1:(execOp a.eval o).run P w=((Builtin.append_ #[t,t'] o.type #[a.eval x,a.eval y]).run P w).andThen fun v w'=> .ok (.value v) w':=by
  simp[execOp,ho,resolve,invoke,builtin]
 obtain⟨arr,cR,_,b2,b3,_,hc⟩:=hi.boxCell hb;have a2:RelL E w old ((arr.drop off).take (n*i.size)):=by rw[<-a6];exact(b2.drop off).take _
 generalize bh:(arr.drop off).take (n*i.size)=olds at a2;have T:olds.length=n*i.size:=by rw[a2.1,a7]
 have b4:(Builtin.firstCells i.size n (.slice (some ⟨E.ρ id,o',none⟩) n cap)).run P w.drew= .ok olds.toArray w.drew:=by
  refine run_firstCells_some w.drew i.size n _ n cap olds T (fun p v hv=> ?_);have hp:=(gS hv).1;rw[T] at hp;have cS:n≠0:=fun e=>by rw[e] at hp;simp at hp
  rw[b1 C];rw[<-bh,List.getElem?_take,if_pos hp,List.getElem?_drop] at hv;simp only[aK];show w.cell? _=_;rw[hc _ (gS hv).1];exact hv
 have bi:=Lib.run_append_grow_zeros w t t' o.type e i z a4 kd ht hd bm bR (some ⟨E.ρ id,o',none⟩) n cap olds b4 m a8 a5 ad (by simp only[maxLen] at hm;omega) (Nat.le_trans (Nat.le_trans (mR _ (Nat.le_add_left m n)) a9) C) (growslice_fits ad a9);have b5:n+m<=grownCap w (n+m) cap e:=grownCap_ge _ _ _ _;have b6:=grownCap_le_maxLen w (n+m) cap e hm;have ar:(olds++((Builtin.zeroCells z.cells m).toList++(Builtin.zeroCells z.cells (grownCap w (n+m) cap e - (n+m))).toList)).length=grownCap w (n+m) cap e*i.size:=by
  simp only[gV,T,Array.length_toList,size_zeroCells,a0];rw[<-Nat.add_mul,<-Nat.add_mul];congr 1;omega
 have b7:(Builtin.zeroCells z.cells m).toList.length=m*i.size:=by rw[Array.length_toList,size_zeroCells,a0]
 have bl: ∀(q:Nat) (u:Value),u∈(Builtin.zeroCells z.cells q).toList->u.oneCell'=true:=fun q u hu=>by
  simp only[Builtin.zeroCells,Array.toList_map,Array.toList_range,List.mem_map,List.mem_range] at hu;obtain⟨p,_,rfl⟩:=hu;have a3:p % z.cells.size<z.cells.size:=Nat.mod_lt _ (by rw[a0];exact a5);rw[getElem!_pos z.cells _ a3];exact bS _ sP
 have b8:RelL E w (List.replicate (m*i.size) .any) (Builtin.zeroCells z.cells m).toList:=⟨by rw[b7,List.length_replicate],fun p x u hx hu=>by
  simp only[List.getElem?_replicate] at hx;split at hx
  · cases hx;exact .any
  · cases hx⟩
 have b9:AV.ments id' (List.replicate (m*i.size) .any)=false:=by
  generalize m*i.size=q;induction q with
  |zero=>rfl
  |succ q ih=>simpa[List.replicate_succ,AV.ments,AV.ment] using ih
 have aR:=RelL.keep (E:=E) (w:=w) (w':=w.drew) (fun _ _ _=>rfl) (a2.append b8);have cb:=hi.drew.newRoom hf (ty:=e) (cs:=old++List.replicate (m*i.size) .any) (us:=olds++((Builtin.zeroCells z.cells m).toList++(Builtin.zeroCells z.cells (grownCap w (n+m) cap e - (n+m))).toList)) (ri i.size (grownCap w (n+m) cap e))
  (by rw[ar,gV,a7,List.length_replicate,<-Nat.add_mul];exact mR _ b5)
  (fun p x u hx hu=>by
    have a3:=(gS hx).1;rw[<-List.append_assoc,gL (by rw[aR.1];exact a3)] at hu;exact aR.2 p x u hx hu)
  (fun u hu=>by
    rcases mA hu with hu|hu
    · rw[<-bh] at hu;exact b3 u (mD (mT hu))
    rcases mA hu with hu|hu
    · exact bl _ u hu
    · exact bl _ u hu)
  (pp ba b9) (fun k' cap' he=>by
    obtain⟨rfl,rfl⟩:=mV he;exact Nat.le_of_eq ar.symm)
 refine⟨_,_,_,?_,cb,.bsh (cap:=grownCap w (n+m) cap e) (o:=0) C b6 (by simp[B9.upd]) (fun _=>by simp) U⟩;rw[a1,hq,bW,bi];simp[B9.upd];congr 2
 apply Array.ext';simp
end
section
variable {P:Program}{c:C7}{st:St}{ops:Array Oper}{Q:Exit->Act->World->Prop}{rest:List Oper}{o:Oper}
def Yields.overlapsB{f:FuncId}{x y:Operand}{ats:Array TypeId}{t tr e:TypeId}{k i j ar n cap a1 m T:Nat}{b b':A5}(ho:o.op= .call {callee:= .value (.func f),args:= #[x,y],argTypes:=ats})
 (a6:sY P f (Extern.SlicesOverlaps.overlaps #[t,t] #[tr])) (hs:bH P t e k=true) (hx:st.ev x= .bsl i ar n cap) (hy:st.ev y= .bsl j a1 m T) (a7:i≠j) (hb:st.bx.lookup i=some b) (a2:st.bx.lookup j=some b') (a3:b.cs≠ []) (ad:b'.cs≠ [])
 (bm:cap≠0) (bp:ar<b.cs.length):Yields P c st o (aB false):=
 .im U fun E a w hi=>by
   obtain⟨fn,hf,h1,h2,h3,h4⟩:=a6;obtain⟨hu,bP,a4,a8⟩:=aH hs;have hv:=hi.ev x;rw[hx] at hv;obtain⟨ox,a9,_,_,bR⟩:=hv.bsl_inv;have a5:=hi.ev y;rw[hy] at a5;obtain⟨oy,ba,_⟩:=a5.bsl_inv;obtain⟨_,arr,ha,hl,_⟩:=hi.heap.box i b hb a3;obtain⟨_,aR,bh,bS,_⟩:=hi.heap.box j b' a2 ad;have bi:E.ρ i≠E.ρ j:=fun e=>a7 (hi.heap.bb i j b b' hb a2 a3 ad e)
   have bl:aR.length≠0:=fun e=>ad (nZ C)
   have a0:=run_callFunc_extern hf h1 h2 h3 h4 #[.slice (some ⟨E.ρ i,ox,none⟩) n cap,.slice (some ⟨E.ρ j,oy,none⟩) m T] w;rw[Lib.run_overlaps_apart w t tr e hu k (fun w=>by simp[sizeOf,typeInfo,a4,a8]) ⟨E.ρ i,ox,none⟩ ⟨E.ρ j,oy,none⟩ n cap m T bi b.ty b'.ty arr.length aR.length
    (by simp[World.shape?,ha]) (by simp[World.shape?,bh]) bl (by simp[World.frozen?,ha]) (by simp[World.frozen?,ha])] at a0
   have:(execOp a.eval o).run P w=(callFunc f #[a.eval x,a.eval y]).run P w:=by
    simp[execOp,ho,resolve,Deferred.ofValue,Act.eval,invoke]
   rw[this,a9,ba,a0];simp[Result.andThen]
end
inductive G2 (K n k:Nat) (x:IV):AV->AV->Prop
 |same {v:AV}:G2 K n k x v v
 |here:G2 K n k x (.bsh K 0 n k) (.iv x)
inductive EY (K n k:Nat) (x:IV):List AV->List AV->Prop
 |nil:EY K n k x [] []
 |cons {v v':AV} {l l':List AV} (h:G2 K n k x v v') (t:EY K n k x l l'):EY K n k x (v::l) (v'::l')
def EY.get{K n k:Nat}{x:IV}{l l':List AV}(h:EY K n k x l l'):l'.length=l.length/\ ∀(i:Nat) (v:AV),l'[i]?=some v-> ∃v0,l[i]?=some v0/\G2 K n k x v0 v:=by
 induction h with
 |nil=>exact⟨rfl,fun i v h=>by simp at h⟩
 |cons h _ ih=>
  refine⟨by simp[ih.1],fun i v T=> ?_⟩;cases i with
  |zero=>simp at T;subst T;exact⟨_,rfl,h⟩
  |succ i=>exact ih.2 i v (by simpa using T)
def vb{β:Type}(f:β->β): ∀(l:List (Nat×β)) (s:Nat),(l.map (fun p=>(p.1,f p.2))).lookup s=(l.lookup s).map f
 | [],s=>rfl
 |(t,v)::l,s=>by
  by_cases e:s=t
  · subst e;simp[List.lookup]
  · have T:(s==t)=false:=by simpa using e
    simpa[List.lookup,T] using vb f l s
def qC(K:Nat){c:C7}{st:St}{n k:Nat}{b:A5}{xs:List IV}(a3:c.ins.all (fun i=>(i !=K) && (match st.bx.lookup i with|some b=> !b.cs.isEmpty|none=>false))=true)(hb:st.bx.lookup K=some b)(hx:tu b.cs=some xs)(hl:b.cs.length=n*k)(bh:0<k)(a4:0<n){E:B9}{a:Act}{w:World}(hi:Inv c E st a w):
 ∃E2:B9,Inv c E2 ⟨st.fr,(K,⟨b.ty,.l []⟩)::st.bx,st.tk⟩ a w/\(∀(v:AV) (u:Value),A6 E w v u->A6 E2 w v u)/\(∀u,A6 E w (.bsh K 0 n k) u->A6 E2 w (.iv (.sl (cY k n xs))) u)/\E2.ρ=E.ρ/\E2.η=E.η/\E2.φ (E.ρ K)=n*k:=by
 have b5:0<n*k:=Nat.mul_pos a4 bh;have ar:b.cs≠ []:=fun e=>by rw[e] at hl;simp at hl;omega
 obtain⟨h0,arr,ha,b6,h1,hr,b7⟩:=hi.heap.box K b hb ar;obtain⟨bl,bm⟩:=uh hx;have b8:E.ρ K<w.heap.size:=(Array.getElem?_eq_some_iff.1 ha).1;have b4:c.w0.heap.size<=E.ρ K:=by
  rcases hi.heap.own K b hb ar with h|⟨id,a5,a6,_⟩
  · exact h
  · exfalso;have h1:=aT a3 id a5;simp only[aE,bne_iff_ne,ne_eq] at h1;obtain⟨h1,h2⟩:=h1;cases a2:st.bx.lookup id with
    |none=>rw[a2] at h2;cases h2
    |some bi=>
     rw[a2] at h2;exact h1 (hi.heap.bb id K bi b a2 hb (fun e=>by simp[e] at h2) ar ((hi.heap.ins id a5).1.trans a6))
 have hφ: ∀g,E.φ g<=(if g=E.ρ K then n*k else E.φ g):=fun g=>by
  split
  · rename_i e;rw[e,h0];exact Nat.zero_le _
  · exact Nat.le_refl _
 have hp: ∀u,A6 E w (.bsh K 0 n k) u->C8 (fun g=>if g=E.ρ K then n*k else E.φ g) w (.sl (cY k n xs)) u:=fun u hu=>by
  obtain⟨cap,o,rfl,hn,hm,_,bp⟩:=hu.bsh_inv;rw[bp C];have aR: ∀(i:Nat) (e:List IV) (j:Nat) (x:IV),(cY k n xs)[i]?=some e->e[j]?=some x->i*k+j<n*k/\xs[i*k+j]?=some x:=fun i e j x h2 h3=>by
   rw[lg k n xs i e h2,List.getElem?_take] at h3;split at h3
   · rw[List.getElem?_drop] at h3;have:=(gS h3).1;exact⟨by omega,h3⟩
   · cases h3
  have a1:=C8.sl (φ:=fun g=>if g=E.ρ K then n*k else E.φ g) (w:=w) (es:=cY k n xs) (b:=E.ρ K) (o:=0) (cap:=cap) (k:=k) (fun i j=>arr.getD (i*k+j) undef) (by rw[ah];omega) hm
   (fun i e he=>by
     have T:=(gS he).1;rw[ah] at T;rw[lg k n xs i e he,lT,lD,bl,hl];have:(i+1)*k<=n*k:=mR k T;rw[Nat.add_mul,Nat.one_mul] at this;omega)
   (fun i e j x h2 h3=>by simp only[if_true];have:=(aR i e j x h2 h3).1;omega)
   (fun i e j x h2 h3=>by
     have:=(aR i e j x h2 h3).1;rw[cell_of_row w _ _ _ _ _ ha,Nat.zero_add];have T:i*k+j<arr.length:=C;simp[T])
   (fun i e j x h2 h3=>by
     obtain⟨h4,h5⟩:=aR i e j x h2 h3;have T:i*k+j<arr.length:=C;have a7:i*k+j<b.cs.length:=C;have hu:arr[i*k+j]?=some (arr.getD (i*k+j) undef):=by simp[gG T]
     exact((hr _ _ _ (gG a7) hu).toI (bm _ _ x (gG a7) h5)).mono (fun _ _ _=>rfl) hφ)
  rw[ah] at a1;simpa using a1
 have ad: ∀(i:Nat) (b1:A5),List.lookup i ((K,(⟨b.ty,.l []⟩:A5))::st.bx)=some b1->b1.cs≠ [] ->i≠K/\st.bx.lookup i=some b1:=fun i b1 h hn=>by
  by_cases e:i=K
  · subst e;rw[aj] at h;cases h;exact(hn U).elim
  · rw[aa e] at h;exact⟨e,h⟩
 have pub: ∀{v:AV} {u:Value},A6 E w v u->A6 ⟨fun g=>if g=E.ρ K then n*k else E.φ g,E.ρ,E.η⟩ w v u:=fun hv=>hv.mono (E':=⟨fun g=>if g=E.ρ K then n*k else E.φ g,E.ρ,E.η⟩) (fun _ _ _=>rfl) hφ (fun _ _=>⟨rfl,rfl⟩)
 refine⟨⟨fun g=>if g=E.ρ K then n*k else E.φ g,E.ρ,E.η⟩,⟨hi.defers,hi.size,fun s v hv=>pub (hi.slot s v hv),⟨fun i b1 a0 hn=> ?_,fun i t ht=> ?_,fun i j b1 b2 h2 h3 hn a8 he=> ?_,hi.heap.tt,fun i j b1 t h2 hn hj=> ?_,fun i b1 h2 hn=> ?_,hi.heap.ownt,fun g hg=> ?_,fun g hg=> ?_,fun i a0=> ?_,hi.heap.kept⟩⟩,fun v u hv=>pub hv,fun u hu=> .iv (hp u hu),rfl,rfl,by simp⟩
 · obtain⟨bP,h2⟩:=ad i b1 a0 hn;obtain⟨g0,a9,bR,bS,bW,b3,ba⟩:=hi.heap.box i b1 h2 hn;refine⟨?_,a9,bR,bS,bW,fun p x u hx hu=>pub (b3 p x u hx hu),ba⟩;have:E.ρ i≠E.ρ K:=fun e=>bP (hi.heap.bb i K b1 b h2 hb hn ar e)
   simp only[if_neg this];exact g0
 · rcases hi.heap.tok i t ht with hn|⟨g,n',cap,cur,hv,hg,r1,r2,r3,r4⟩
   · exact .inl hn
   · have:g≠E.ρ K:=fun e=>hi.heap.bt K i b t hb ar ht (by rw[hv,e];rfl)
     exact .inr ⟨g,n',cap,cur,hv,hg,r1,r2,r3,by simp only[if_neg this];exact r4⟩
 · exact hi.heap.bb i j b1 b2 (ad i b1 h2 hn).2 (ad j b2 h3 a8).2 hn a8 he
 · exact hi.heap.bt i j b1 t (ad i b1 h2 hn).2 hn hj
 · exact hi.heap.own i b1 (ad i b1 h2 hn).2 hn
 · simp only;rw[if_neg C];exact hi.heap.new g hg
 · simp only;rw[if_neg C];exact hi.heap.old g hg
 · have h1:=aT a3 _ a0;simp only[aE,bne_iff_ne,ne_eq] at h1;obtain⟨g1,g2,g3⟩:=hi.heap.ins _ a0;exact⟨g1,g2,by rw[aa h1.1];exact g3⟩
def L.publishS(K s:Nat){c:C7}{st:St}{X:Act->World->Prop}{n k:Nat}{b:A5}{xs:List IV}{v v':AV}(aR:c.ins.all (fun i=>(i !=K) && (match st.bx.lookup i with|some b=> !b.cs.isEmpty|none=>false))=true)(hb:st.bx.lookup K=some b)(hx:tu b.cs=some xs)(hl:b.cs.length=n*k)(a0:0<k)(ad:0<n)
 (hs:st.fr.lookup s=some v) (hp:G2 K n k (.sl (cY k n xs)) v v') (h:L c ⟨(s,v')::st.fr,(K,⟨b.ty,.l []⟩)::st.bx,st.tk⟩ X):L c st X:=by
 rintro a w ⟨E,hi⟩;obtain⟨E2,T,hm,ar,_,_⟩:=qC K aR hb hx hl a0 ad hi;refine h a w ⟨E2,T.defers,T.size,fun s' u hu=> ?_,T.heap⟩;by_cases e:s'=s
 · subst e;simp only[aj,Option.some.injEq] at hu;subst hu;have:=hi.slot s' v hs;cases hp with
   |same=>exact hm _ _ this
   |here=>exact ar _ this
 · simp only[aa e] at hu;exact T.slot s' u hu
def L.publishB(K j:Nat){c:C7}{st:St}{X:Act->World->Prop}{n k:Nat}{b bj:A5}{xs:List IV}{cs:List AV}(a5:c.ins.all (fun i=>(i !=K) && (match st.bx.lookup i with|some b=> !b.cs.isEmpty|none=>false))=true)(hb:st.bx.lookup K=some b)(hx:tu b.cs=some xs)(hl:b.cs.length=n*k)(a6:0<k)(aR:0<n)
 (hj:st.bx.lookup j=some bj) (ad:bj.cs≠ []) (a7:(j==K)=false) (hp:EY K n k (.sl (cY k n xs)) bj.cs cs) (h:L c ⟨st.fr,(j,⟨bj.ty,.l cs⟩)::(K,⟨b.ty,.l []⟩)::st.bx,st.tk⟩ X):L c st X:=by
 rintro a w ⟨E,hi⟩;obtain⟨E2,T,hm,a0,a8,_⟩:=qC K a5 hb hx hl a6 aR hi;have a9:j≠K:=by simpa using a7
 have a1:List.lookup j ((K,(⟨b.ty,.l []⟩:A5))::st.bx)=some bj:=by rw[aa a9];exact hj
 refine h a w ⟨E2,T.defers,T.size,T.slot,C4.reBox T.heap a1 ad (fun hn=> ?_)⟩;obtain⟨_,a2,ar,bm,_,ba,_⟩:=hi.heap.box j bj hj ad;obtain⟨g0,arr,ha,bh,h1,hr,bi⟩:=T.heap.box j bj a1 ad;have a3:arr=a2:=by
  rw[a8] at ha;rw[ha] at ar;simp only[Option.some.injEq,Obj.cells.injEq] at ar;exact congrArg Array.toList ar.1
 subst a3;obtain⟨e1,e2⟩:=hp.get;refine⟨g0,arr,ha,by simpa[e1] using bh,h1,fun i x u hx hu=> ?_,bi⟩;simp only[A5.cs_l] at hx;obtain⟨v0,a4,bl⟩:=e2 i x hx;cases bl with
 |same=>exact hr i x u a4 hu
 |here=>
  exact a0 u (ba i _ u a4 hu)
mutual
def AV.ren(π:Nat->Nat):AV->AV
 | .row i es=> .row (π i) es
 | .ptr i o=> .ptr (π i) o
 | .bsl i o n c=> .bsl (π i) o n c
 | .bsh i o n k=> .bsh (π i) o n k
 | .agg cs=> .agg (AV.rens π cs)
 | .tup cs=> .tup (AV.rens π cs)
 | .fn f cs=> .fn f (AV.rens π cs)
 | .opt b v=> .opt b (AV.ren π v)
 | .any=> .any
 | .iv x=> .iv x
 | .nils=> .nils
 | .emp=> .emp
 | .el cs=> .el cs
def AV.rens(π:Nat->Nat):List AV->List AV
 | [] => []
 |c::cs=>AV.ren π c::AV.rens π cs
end
def fE{π:Nat->Nat}: ∀cs:List AV,AV.rens π cs=cs.map (AV.ren π)
 | [] =>by simp[AV.rens]
 |c::cs=>by simp[AV.rens,fE cs]
def B9.of(π:Nat->Nat)(E:B9):B9:=⟨E.φ,fun i=>E.ρ (π i),fun i=>E.η (π i)⟩
mutual
def A6.unren{π:Nat->Nat}{E:B9}{w:World}: ∀(v:AV) {u:Value},A6 E w (v.ren π) u->A6 (E.of π) w v u
 | .any,u,_=> .any
 | .iv x,u,h=>by simp only[AV.ren] at h;cases h with|iv h=>exact .iv h
 | .nils,u,h=>by simp only[AV.ren] at h;cases h;exact .nils
 | .emp,u,h=>by simp only[AV.ren] at h;cases h with|emp hu=>exact .emp hu
 | .el cs,u,h=>by simp only[AV.ren] at h;cases h with|el f hc hr=>exact .el f hc hr
 | .row i es,u,h=>by simp only[AV.ren] at h;cases h with|row hu h=>exact .row hu h
 | .ptr i o,u,h=>by simp only[AV.ren] at h;cases h with|ptr hu=>exact .ptr hu
 | .bsl i o n c,u,h=>by simp only[AV.ren] at h;cases h with|bsl hn hm ho hu=>exact .bsl hn hm ho hu
 | .bsh i o n k,u,h=>by simp only[AV.ren] at h;cases h with|bsh hn hm he ho hu=>exact .bsh hn hm he ho hu
 | .agg cs,u,h=>by
   simp only[AV.ren] at h;cases h with
   |agg hl h1 h=>obtain⟨T,e2⟩:=A6.unrens cs hl h;exact .agg T h1 e2
 | .tup cs,u,h=>by
   simp only[AV.ren] at h;cases h with
   |tup hl h=>obtain⟨T,e2⟩:=A6.unrens cs hl h;exact .tup T e2
 | .fn f cs,u,h=>by
   simp only[AV.ren] at h;cases h with
   |fn hl h=>obtain⟨T,e2⟩:=A6.unrens cs hl h;exact .fn T e2
 | .opt b v,u,h=>by
   simp only[AV.ren] at h;cases h with
   |optT h=>exact .optT (A6.unren v h)
   |optF=>exact .optF
def A6.unrens{π:Nat->Nat}{E:B9}{w:World}: ∀(cs:List AV) {us:List Value},us.length=(AV.rens π cs).length->(∀(i:Nat) (c:AV) (u:Value),(AV.rens π cs)[i]?=some c->us[i]?=some u->A6 E w c u)->
 us.length=cs.length/\ ∀(i:Nat) (c:AV) (u:Value),cs[i]?=some c->us[i]?=some u->A6 (E.of π) w c u
 | [],us,hl,h=>⟨by simpa[AV.rens] using hl,fun i c u hc=>by simp at hc⟩
 |c::cs,[],hl,h=>by simp[AV.rens] at hl
 |c::cs,u::us,hl,h=>by
  obtain⟨T,e2⟩:=A6.unrens cs (us:=us) (by simpa[AV.rens] using hl) (fun i c u hc hu=>h (i+1) c u (by simpa[AV.rens] using hc) (by simpa using hu));refine⟨by simp[T],fun i c' u' hc hu=> ?_⟩;cases i with
  |zero=>simp at hc hu;subst hc;subst hu;exact A6.unren c (h 0 _ u (by simp[AV.rens]) U)
  |succ i=>exact e2 i c' u' (by simpa using hc) (by simpa using hu)
end
mutual
def A6.doren{π:Nat->Nat}{E:B9}{w:World}: ∀(v:AV) {u:Value},A6 (E.of π) w v u->A6 E w (v.ren π) u
 | .any,u,_=> .any
 | .iv x,u,h=>by simp only[AV.ren];cases h with|iv h=>exact .iv h
 | .nils,u,h=>by simp only[AV.ren];cases h;exact .nils
 | .emp,u,h=>by simp only[AV.ren];cases h with|emp hu=>exact .emp hu
 | .el cs,u,h=>by simp only[AV.ren];cases h with|el f hc hr=>exact .el f hc hr
 | .row i es,u,h=>by simp only[AV.ren];cases h with|row hu h=>exact .row hu h
 | .ptr i o,u,h=>by simp only[AV.ren];cases h with|ptr hu=>exact .ptr hu
 | .bsl i o n c,u,h=>by simp only[AV.ren];cases h with|bsl hn hm ho hu=>exact .bsl hn hm ho hu
 | .bsh i o n k,u,h=>by simp only[AV.ren];cases h with|bsh hn hm he ho hu=>exact .bsh hn hm he ho hu
 | .agg cs,u,h=>by
   simp only[AV.ren];cases h with
   |agg hl h1 h=>obtain⟨T,e2⟩:=A6.dorens cs hl h;exact .agg T h1 e2
 | .tup cs,u,h=>by
   simp only[AV.ren];cases h with
   |tup hl h=>obtain⟨T,e2⟩:=A6.dorens cs hl h;exact .tup T e2
 | .fn f cs,u,h=>by
   simp only[AV.ren];cases h with
   |fn hl h=>obtain⟨T,e2⟩:=A6.dorens cs hl h;exact .fn T e2
 | .opt b v,u,h=>by
   simp only[AV.ren];cases h with
   |optT h=>exact .optT (A6.doren v h)
   |optF=>exact .optF
def A6.dorens{π:Nat->Nat}{E:B9}{w:World}: ∀(cs:List AV) {us:List Value},us.length=cs.length->(∀(i:Nat) (c:AV) (u:Value),cs[i]?=some c->us[i]?=some u->A6 (E.of π) w c u)->
 us.length=(AV.rens π cs).length/\ ∀(i:Nat) (c:AV) (u:Value),(AV.rens π cs)[i]?=some c->us[i]?=some u->A6 E w c u
 | [],us,hl,h=>⟨by simpa[AV.rens] using hl,fun i c u hc=>by simp[AV.rens] at hc⟩
 |c::cs,[],hl,h=>by simp at hl
 |c::cs,u::us,hl,h=>by
  obtain⟨T,e2⟩:=A6.dorens cs (us:=us) (by simpa using hl) (fun i c u hc hu=>h (i+1) c u (by simpa using hc) (by simpa using hu));refine⟨by simp[AV.rens,T],fun i c' u' hc hu=> ?_⟩;cases i with
  |zero=>simp[AV.rens] at hc hu;subst hc;subst hu;exact A6.doren c (h 0 _ u U U)
  |succ i=>exact e2 i c' u' (by simpa[AV.rens] using hc) (by simpa using hu)
end
def A5.ren(π:Nat->Nat)(b:A5):A5:=
 match b.c with
 | .l cs=>⟨b.ty,.l (AV.rens π cs)⟩
 | .r xs m=>⟨b.ty,.r xs m⟩
section
variable {E:B9}{P:Program}{args args2:List AV}{b:A5}{bx bx' bx2 bx2':List (Nat×A5)}{f:FuncId}{gs:aw}{id:Nat}{res res2:AV}{tk' tk2':List (Nat×C9)}{w:World}{β γ:Type}{π σ:Nat->Nat}
def A5.ren_ty(b:A5):(b.ren π).ty=b.ty:=by obtain⟨ty,c⟩:=b;cases c<;>rfl
def Ei: ∀xs:List IV,AV.rens π (xs.map .iv)=xs.map .iv
 | [] =>by simp[AV.rens]
 |x::xs=>by simp[AV.rens,AV.ren,Ei xs]
def Aw: ∀m:Nat,AV.rens π (List.replicate m .any)=List.replicate m .any
 |0=>by simp[AV.rens]
 |m+1=>by simp[List.replicate_succ,AV.rens,AV.ren,Aw m]
def Hn(l m:List AV):AV.rens π (l++m)=AV.rens π l++AV.rens π m:=by simp[fE]
def A5.ren_cs(b:A5):(b.ren π).cs=AV.rens π b.cs:=by
 obtain⟨ty,c⟩:=b;cases c with
 |l cs=>rfl
 |r xs m=>simp only[A5.ren,A5.cs_r,Hn,Ei,Aw]
def A5.ren_ne:(b.ren π).cs≠ [] ↔b.cs≠ []:=by
 rw[A5.ren_cs,fE];simp
def BoxOk.unren(h:BoxOk E w (π id) (b.ren π)):BoxOk (E.of π) w id b:=by
 obtain⟨h0,arr,ha,hl,h1,hr,T⟩:=h;rw[A5.ren_ty] at ha;rw[A5.ren_cs] at hl hr;refine⟨h0,arr,ha,by simpa[fE] using hl,h1,fun i c u hc hu=> ?_,T⟩;exact A6.unren c (hr i _ u (by rw[fE,gP,hc];rfl) hu)
def BoxOk.doren(h:BoxOk (E.of π) w id b):BoxOk E w (π id) (b.ren π):=by
 obtain⟨h0,arr,ha,hl,h1,hr,T⟩:=h;refine⟨h0,arr,by rw[A5.ren_ty];exact ha,by rw[A5.ren_cs];simpa[fE] using hl,h1,fun i c u hc hu=> ?_,T⟩;rw[A5.ren_cs,fE,gP,Option.map_eq_some_iff] at hc;obtain⟨c0,ad,rfl⟩:=hc;exact A6.doren c0 (hr i c0 u ad hu)
def eK(π:Nat->Nat)(bx:List (Nat×A5)):List (Nat×A5):=bx.map (fun p=>(π p.1,p.2.ren π))
def wm(π:Nat->Nat)(tk:List (Nat×C9)):List (Nat×C9):=tk.map (fun p=>(π p.1,p.2))
def kT(T: ∀n,σ (π n)=n)(f:β->γ): ∀(l:List (Nat×β)) (i:Nat),(l.map (fun p=>(π p.1,f p.2))).lookup (π i)=(l.lookup i).map f
 | [],i=>rfl
 |(t,v)::l,i=>by
  by_cases e:i=t
  · subst e;simp[List.lookup]
  · have e1:(i==t)=false:=by simpa using e
    have e2:(π i==π t)=false:=by
     have:π i≠π t:=fun h=>e (by rw[<-T i,h,T])
     simpa using this
    simpa[List.lookup,e1,e2] using kT T f l i
def lF(T: ∀n,σ (π n)=n)(ad: ∀n,π (σ n)=n)(f:β->γ)(l:List (Nat×β))(i:Nat):(l.map (fun p=>(π p.1,f p.2))).lookup i=(l.lookup (σ i)).map f:=by
 rw[<-ad i,kT T f l (σ i),T]
def CallG.ren(π σ:Nat->Nat)(T: ∀n,σ (π n)=n)(ad: ∀n,π (σ n)=n)(h:CallG gs P f args bx bx' tk' res):
 CallG gs P f (AV.rens π args) (eK π bx) (eK π bx') (wm π tk') (res.ren π):=by
 intro E w us a2 hh hG;have a5: ∀i,π i=i\/True:=fun _=> .inr trivial
 have a1: ∀(i:Nat) (b:A5),bx.lookup i=some b->(eK π bx).lookup (π i)=some (b.ren π):=fun i b hb=>by
  unfold eK;rw[kT T (A5.ren π),hb];rfl
 have ar: ∀(i:Nat) (b:A5),(eK π bx').lookup i=some b-> ∃b0,bx'.lookup (σ i)=some b0/\b0.ren π=b:=fun i b hb=>by
  unfold eK at hb;rw[lF T ad (A5.ren π),Option.map_eq_some_iff] at hb;exact hb
 have aR: ∀(i:Nat) (t:C9),(wm π tk').lookup i=some t->tk'.lookup (σ i)=some t:=fun i t ht=>by
  unfold wm at ht;have:=lF T ad (fun t:C9=>t) tk' i;rw[this] at ht;simpa using ht
 have a3:RelL (E.of π) w args us:=by
  obtain⟨e1,e2⟩:=A6.unrens args a2.1 a2.2;exact⟨e1,e2⟩
 have hM: ∀g,C7.M ⟨0,w,E.of π,keys bx⟩ g↔C7.M ⟨0,w,E,keys (eK π bx)⟩ g:=fun g=>by
  constructor
  · rintro ⟨id,a0,e1,e2⟩;refine⟨π id,?_,e1,e2⟩;simp only[keys,eK,List.map_map,List.mem_map] at a0|-;obtain⟨p,hp,rfl⟩:=a0;exact⟨p,hp,rfl⟩
  · rintro ⟨id,a0,e1,e2⟩;simp only[keys,eK,List.map_map,List.mem_map] at a0;obtain⟨p,hp,rfl⟩:=a0;exact⟨p.1,List.mem_map.2 ⟨p,hp,rfl⟩,e1,e2⟩
 have a6:C4 ⟨0,w,E.of π,keys bx⟩ (E.of π) bx [] w:=by
  refine⟨fun i b hb hn=> ?_,fun i t ht=>by simp at ht,fun i j b b' hi hj hn a4 he=> ?_,fun i j t t' g hi=>by simp at hi,fun i j b t hi hn hj=>by simp at hj,fun i b hb hn=> ?_,fun j t g hj=>by simp at hj,hh.new,fun _ _=>rfl,fun i hi=>⟨rfl,rfl,?_⟩,D1.refl _ _⟩
  · exact(hh.box (π i) _ (a1 i b hb) (A5.ren_ne.2 hn)).unren
  · have:=hh.bb (π i) (π j) _ _ (a1 i b hi) (a1 j b' hj) (A5.ren_ne.2 hn) (A5.ren_ne.2 a4) he;rw[<-T i,this,T]
  · rcases hh.own (π i) _ (a1 i b hb) (A5.ren_ne.2 hn) with h|h
    · exact .inl h
    · exact .inr ((hM _).2 h)
  · obtain⟨b,hb⟩:=it hi;show(List.lookup i bx).isSome=true;rw[hb];rfl
 refine(h (E.of π) w us a3 a6 hG).mono ?_;rintro e w' ⟨u,E1,he,hu,ho⟩;have hE:(B9.of π ⟨E1.φ,fun i=>E1.ρ (σ i),fun i=>E1.η (σ i)⟩)=E1:=by simp[B9.of,T]
 have a8: ∀i,(⟨E1.φ,fun i=>E1.ρ (σ i),fun i=>E1.η (σ i)⟩:B9).ρ (π i)=E1.ρ i:=fun i=>by simp[T]
 refine⟨u,⟨E1.φ,fun i=>E1.ρ (σ i),fun i=>E1.η (σ i)⟩,he,A6.doren res (by rw[hE];exact hu),?_⟩;refine⟨fun i b hb hn=> ?_,fun i t ht=> ?_,fun i j b b' hi hj hn a4 he=> ?_,fun i j t t' g hi hj h1 h2=> ?_,fun i j b t hi hn hj=> ?_,fun i b hb hn=> ?_,fun j t g hj hg=> ?_,ho.new,fun b hb=>ho.old b hb,fun i hi=> ?_,?_⟩
 · obtain⟨b0,h0,rfl⟩:=ar i b hb;have:=BoxOk.doren (π:=π) (E:=⟨E1.φ,fun i=>E1.ρ (σ i),fun i=>E1.η (σ i)⟩) (by rw[hE];exact ho.box (σ i) b0 h0 (A5.ren_ne.1 hn));rw[ad] at this;exact this
 · exact ho.tok (σ i) t (aR i t ht)
 · obtain⟨b0,h0,rfl⟩:=ar i b hi;obtain⟨b1,h1,rfl⟩:=ar j b' hj;have:=ho.bb (σ i) (σ j) b0 b1 h0 h1 (A5.ren_ne.1 hn) (A5.ren_ne.1 a4) he;rw[<-ad i,this,ad]
 · have:=ho.tt (σ i) (σ j) t t' g (aR i t hi) (aR j t' hj) h1 h2;rw[<-ad i,this,ad]
 · obtain⟨b0,h0,rfl⟩:=ar i b hi;exact ho.bt (σ i) (σ j) b0 t h0 (A5.ren_ne.1 hn) (aR j t hj)
 · obtain⟨b0,h0,rfl⟩:=ar i b hb;rcases ho.own (σ i) b0 h0 (A5.ren_ne.1 hn) with h|h
   · exact .inl h
   · exact .inr ((hM _).1 h)
 · exact ho.ownt (σ j) t g (aR j t hj) hg
 · simp only[keys,eK,List.map_map,List.mem_map] at hi;obtain⟨p,hp,rfl⟩:=hi;obtain⟨e1,e2,e3⟩:=ho.ins p.1 (List.mem_map.2 ⟨p,hp,rfl⟩);refine⟨by simpa[T,B9.of] using e1,by simpa[T,B9.of] using e2,?_⟩;obtain⟨b,hb⟩:=Option.isSome_iff_exists.1 e3;show(List.lookup (π p.1) (eK π bx')).isSome=true;unfold eK;rw[kT T (A5.ren π),hb];rfl
 · exact⟨ho.kept.os,ho.kept.tape,ho.kept.output,ho.kept.size,fun k hk hm=>ho.kept.block k hk (fun a7=>hm ((hM k).1 a7)),ho.kept.drawn⟩
def CallA.ren(π σ:Nat->Nat)(T: ∀n,σ (π n)=n)(ad: ∀n,π (σ n)=n)(h:CallA P f args bx bx' tk' res):
 CallA P f (AV.rens π args) (eK π bx) (eK π bx') (wm π tk') (res.ren π):=(CallG.ren π σ T ad h.toG).toA
def sw(a b n:Nat):Nat:=if n=a then b else if n=b then a else n
def KV(a b n:Nat):sw a b (sw a b n)=n:=by
 unfold sw;split<;>split<;>(try split)<;>omega
def sws:List (Nat×Nat)->Nat->Nat
 | [],n=>n
 |(a,b)::r,n=>sw (sws r a) b (sws r n)
def Fa:List (Nat×Nat)->Nat->Nat
 | [],n=>n
 |(a,b)::r,n=>Fa r (sw (sws r a) b n)
def mo: ∀(l:List (Nat×Nat)) (n:Nat),Fa l (sws l n)=n
 | [],n=>rfl
 |(a,b)::r,n=>by simp only[sws,Fa,KV,mo r n]
def qx: ∀(l:List (Nat×Nat)) (n:Nat),sws l (Fa l n)=n
 | [],n=>rfl
 |(a,b)::r,n=>by simp only[sws,Fa,qx r,KV]
def iV(a b:Nat)(r:List (Nat×Nat)):sws ((a,b)::r) a=b:=by simp[sws,sw]
def nO{a b n m:Nat}{r:List (Nat×Nat)}(hn:n≠a)(h:sws r n=m)(T:m≠b):sws ((a,b)::r) n=m:=by
 have:sws r n≠sws r a:=fun e=>hn (by rw[<-mo r n,e,mo])
 rw[h] at this;simp only[sws,sw,h];rw[if_neg this,if_neg T]
def CallA.sws(l:List (Nat×Nat))(h:CallA P f args bx bx' tk' res)
 (h1:AV.rens (Abs.sws l) args=args2) (h2:eK (Abs.sws l) bx=bx2) (h3:eK (Abs.sws l) bx'=bx2') (h4:wm (Abs.sws l) tk'=tk2') (h5:res.ren (Abs.sws l)=res2):CallA P f args2 bx2 bx2' tk2' res2:=by
 subst h1;subst h2;subst h3;subst h4;subst h5;exact h.ren _ _ (mo l) (qx l)
def CallG.sws(l:List (Nat×Nat))(h:CallG gs P f args bx bx' tk' res)
 (h1:AV.rens (Abs.sws l) args=args2) (h2:eK (Abs.sws l) bx=bx2) (h3:eK (Abs.sws l) bx'=bx2') (h4:wm (Abs.sws l) tk'=tk2') (h5:res.ren (Abs.sws l)=res2):CallG gs P f args2 bx2 bx2' tk2' res2:=by
 subst h1;subst h2;subst h3;subst h4;subst h5;exact h.ren _ _ (mo l) (qx l)
end
mutual
def AV.ren_id{π:Nat->Nat}: ∀v:AV,AV.mentIn [] v=true->v.ren π=v
 | .any,_=>rfl
 | .iv _,_=>rfl
 | .nils,_=>rfl
 | .emp,_=>rfl
 | .el _,_=>rfl
 | .row i _,h=>by simp[AV.mentIn] at h
 | .ptr i _,h=>by simp[AV.mentIn] at h
 | .bsl i _ _ _,h=>by simp[AV.mentIn] at h
 | .bsh i _ _ _,h=>by simp[AV.mentIn] at h
 | .agg cs,h=>by rw[AV.ren,AV.rens_id cs (by simpa[AV.mentIn] using h)]
 | .tup cs,h=>by rw[AV.ren,AV.rens_id cs (by simpa[AV.mentIn] using h)]
 | .fn _ cs,h=>by rw[AV.ren,AV.rens_id cs (by simpa[AV.mentIn] using h)]
 | .opt _ v,h=>by rw[AV.ren,AV.ren_id v (by simpa[AV.mentIn] using h)]
def AV.rens_id{π:Nat->Nat}: ∀vs:List AV,AV.mentsIn [] vs=true->AV.rens π vs=vs
 | [],_=>rfl
 |v::vs,h=>by
  simp only[AV.mentsIn,aE] at h;rw[AV.rens,AV.ren_id v h.1,AV.rens_id vs h.2]
end
def gY{α:Type}{k:Nat}: ∀(es:List (List α)) (i:Nat),(∀e∈es,e.length=k)->es.flatten.take (i*k)=(es.take i).flatten
 | [],i,_=>by simp
 |e::es,0,_=>by simp
 |e::es,i+1,h=>by
  have he:e.length=k:=h e List.mem_cons_self;rw[List.flatten_cons,List.take_append,tL (by rw[he,Nat.add_mul];omega),he,show(i+1)*k - k=i*k by rw[Nat.add_mul];omega,gY es i (fun e T=>h e (List.mem_cons_of_mem _ T))];simp
def pu{α:Type}{k:Nat}: ∀(es:List (List α)) (i:Nat),(∀e∈es,e.length=k)->es.flatten.drop (i*k)=(es.drop i).flatten
 | [],i,_=>by simp
 |e::es,0,_=>by simp
 |e::es,i+1,h=>by
  have he:e.length=k:=h e List.mem_cons_self;rw[List.flatten_cons,List.drop_append,dL (by rw[he,Nat.add_mul];omega),he,show(i+1)*k - k=i*k by rw[Nat.add_mul];omega,pu es i (fun e T=>h e (List.mem_cons_of_mem _ T))];simp
def uq{k:Nat}{es news:List (List IV)}{i m:Nat}(hk: ∀e∈es,e.length=k)(hn: ∀e∈news,e.length=k)(hi:i<=es.length):
 lX (es.flatten.map AV.iv++List.replicate m AV.any) (i*k) (news.flatten.map AV.iv)=(es.take i++(news++es.drop (i+news.length))).flatten.map AV.iv++List.replicate (m - (i+news.length - es.length)*k) AV.any:=by
 have hl:=ao es hk;have T:=ao news hn;have h1:i*k<=es.length*k:=mR k hi;unfold lX;rw[tA (by rw[lM,hl];exact h1),<-List.map_take,gY es i hk,lM,T,<-Nat.add_mul,List.drop_append,<-List.map_drop,pu es _ hk,List.drop_replicate,lM,hl,<-Nat.sub_mul];simp[List.append_assoc]
def bv{k i:Nat}{es:List (List IV)}(h: ∀e∈es,e.length=k): ∀e∈es.take i,e.length=k:=fun e he=>h e (mT he)
def bN{k i:Nat}{es:List (List IV)}(h: ∀e∈es,e.length=k): ∀e∈es.drop i,e.length=k:=fun e he=>h e (mD he)
def oK{k:Nat}: ∀(es:List (List IV)),(∀e∈es,e.length=k)->cY k es.length es.flatten=es
 | [],_=>rfl
 |e::es,h=>by
  have he:e.length=k:=h e List.mem_cons_self;rw[lC,cY,List.flatten_cons,tA C,List.drop_append_of_le_length C,tL C,dL C,List.nil_append,oK es (fun e T=>h e (List.mem_cons_of_mem _ T))]
def flat_at{α:Type}{k:Nat}: ∀(es:List (List α)) (i f:Nat) (e:List α) (x:α),(∀e∈es,e.length=k)->es[i]?=some e->e[f]?=some x->es.flatten[i*k+f]?=some x
 | [],i,f,e,x,_,h,_=>by simp at h
 |a::es,0,f,e,x,h,h1,h2=>by
  simp at h1;subst h1;have:=(gS h2).1;rw[Nat.zero_mul,Nat.zero_add,List.flatten_cons,gL this];exact h2
 |a::es,i+1,f,e,x,h,h1,h2=>by
  have he:a.length=k:=h a List.mem_cons_self;rw[List.flatten_cons,List.getElem?_append_right (by rw[he,Nat.add_mul];omega),he,show(i+1)*k+f - k=i*k+f by rw[Nat.add_mul];omega];exact flat_at es i f e x (fun e T=>h e (List.mem_cons_of_mem _ T)) (by simpa using h1) h2
def sg{α:Type}{k:Nat}(es:List (List α))(i:Nat)(e:List α)(h: ∀e∈es,e.length=k)(h1:es[i]?=some e):(es.flatten.drop (i*k)).take k=e:=by
 have he:e.length=k:=h e (gE h1);rw[pu es i h,List.drop_eq_getElem_cons (gS h1).1,(gS h1).2,List.flatten_cons,tA C,tL C]
def yA: ∀xs:List IV,tu (xs.map AV.iv)=some xs
 | [] =>rfl
 |x::xs=>by simp[tu,AV.toI,yA xs]
section
variable {P:Program}{c:C7}{st:St}{ops:Array Oper}{Q:Exit->Act->World->Prop}{rest:List Oper}{o:Oper}
section
variable {b b':A5}{bt bt' e t t' ty:TypeId}{bx:List (Nat×A5)}{bytes cap cap' cnt i' id id' k m mm mm' n n' off off':Nat}{d:TypeDesc}{es es' news:List (List IV)}{i:TypeInfo}{tk:List (Nat×C9)}{x y:Operand}{z:Value}
def Inv.recell{E:B9}{a:Act}{w:World}{fr:List (Nat×AV)}(h:Inv c E ⟨fr,(id,b)::bx,tk⟩ a w)(ht:b.ty=b'.ty)(hc:Subs b.cs b'.cs):Inv c E ⟨fr,(id,b')::bx,tk⟩ a w:=by
 refine⟨h.defers,h.size,h.slot,C4.wk (st:=⟨fr,(id,b)::bx,tk⟩) (st':=⟨fr,(id,b')::bx,tk⟩) h.heap ⟨fun i T=> ?_,fun s v hv=>⟨v,hv,Sub.refl _⟩,fun i b1 hi=> ?_,fun i t h=>h⟩⟩
 · have h3:=(h.heap.ins i T).2.2;simp only at h3|-;by_cases e:i=id
   · subst e;rw[aj];rfl
   · rw[aa e] at h3|-;exact h3
 · simp only at hi|-;by_cases e:i=id
   · subst e;rw[aj] at hi|-;cases hi;exact⟨b,rfl,ht,hc⟩
   · rw[aa e] at hi|-;exact⟨b1,hi,rfl,Subs.refl _⟩
def Makes.recell{v:AV}(h:Makes P c st o v ((id,b)::bx) tk)(ht:b.ty=b'.ty)(hc:Subs b.cs b'.cs):Makes P c st o v ((id,b')::bx) tk:=fun E a w hi=>by
 obtain⟨u,E',w',h1,h2,h3⟩:=h E a w hi;exact⟨u,E',w',h1,h2.recell ht hc,h3⟩
def Does.recell(h:Does P c st o ((id,b)::bx) tk)(ht:b.ty=b'.ty)(hc:Subs b.cs b'.cs):Does P c st o ((id,b')::bx) tk:=fun E a w hi=>by
 obtain⟨E',w',h1,h2⟩:=h E a w hi;exact⟨E',w',h1,h2.recell ht hc⟩
def Subs.of_eq{l l':List AV}(h:l=l'):Subs l l':=h▸Subs.refl l
def Reads.row{i:Nat}(hy:st.ev y= .bsl id off m cap)(hb:st.bx.lookup id=some ⟨ty,.r es.flatten mm⟩)(hk: ∀e∈es,e.length=k)(T:off=i*k)(ad:(i+m)*k<=es.length*k+mm):
 Reads P c st y k m (((es.flatten.map AV.iv++List.replicate mm AV.any).drop off).take (m*k)):=by
 refine Reads.bsl hy hb U ?_;have hl:=ao es hk;simp only[A5.cs_r,lT,lD,gV,lM,List.length_replicate,hl,T];rw[Nat.add_mul] at ad;omega
def Av{i:Nat}(hk: ∀e∈es,e.length=k)(T:off=i*k)(ad:cnt<=m)(ar:i+cnt<=es.length):
 (((es.flatten.map AV.iv++List.replicate mm AV.any).drop off).take (m*k)).take (cnt*k)=((es.drop i).take cnt).flatten.map AV.iv:=by
 have hl:=ao es hk;have h1:(i+cnt)*k<=es.length*k:=mR k ar;have h2:cnt*k<=m*k:=mR k ad;rw[Nat.add_mul] at h1;rw[List.take_take,Nat.min_eq_left h2,T,List.drop_append_of_le_length (by rw[lM,hl];omega),tA (by rw[lD,lM,hl];omega),<-List.map_drop,<-List.map_take,pu es i hk,gY _ cnt (bN hk)]
def Makes.copyRR{i:Nat}(ho:o.op= .call {callee:= .builtin .copy,args:= #[x,y],argTypes:= #[t,t']})(hs:bH P t e k=true)
 (hx:st.ev x= .bsl id off n cap) (hb:st.bx.lookup id=some ⟨bt,.r es.flatten mm⟩) (hy:st.ev y= .bsl id' off' n' cap') (a2:st.bx.lookup id'=some ⟨bt',.r es'.flatten mm'⟩) (hk: ∀e∈es,e.length=k) (aR: ∀e∈es',e.length=k) (a3:0<k)
 (ad:off=i*k) (T:off'=i'*k) (ar:Nat.min n' n=cnt) (a0:0<cnt) (a1:(i'+n')*k<=es'.length*k+mm') (a4:i'+cnt<=es'.length) (hi:i<=es.length) (hm:(i+cnt)*k<=es.length*k+mm):
 Makes P c st o (aI cnt) ((id,⟨bt,.r (es.take i++((es'.drop i').take cnt++es.drop (i+cnt))).flatten (mm - (i+cnt - es.length)*k)⟩)::st.bx) st.tk:=by
 have a5:cnt<=n':=by rw[<-ar];exact Nat.min_le_left _ _
 have hl:=ao es hk;have a6:((es'.drop i').take cnt).length=cnt:=by rw[lT,lD];omega
 have h:=Makes.copyB (c:=c) ho hs hx hb (Reads.row hy a2 aR T a1) ar a0 a3 (by
  rw[Nat.add_mul] at hm;simp only[A5.cs_r,gV,lM,List.length_replicate,hl,ad];omega)
 refine h.recell U (Subs.of_eq ?_);rw[Av aR T a5 a4];simp only[A5.cs_l,A5.cs_r];have:=uq (m:=mm) hk (bv (i:=cnt) (bN (i:=i') aR)) hi;rw[a6] at this;rw[ad];exact this
def Makes.roomRR(ho:o.op= .call {callee:= .builtin .append,args:= #[x,y],argTypes:= #[t,t']})(ht:P.underlying t=some (.slice e))(a1:P.info? e=some i)(a2:i.size=k)
 (hd:P.underlying t'=some d) (hn:gB d) (hx:st.ev x= .bsl id 0 n cap) (hb:st.bx.lookup id=some ⟨bt,.r es.flatten mm⟩) (a3:(⟨bt,.r es.flatten mm⟩:A5).cs≠ []) (hy:st.ev y= .bsl id' off' n' cap') (a4:st.bx.lookup id'=some ⟨bt',.r es'.flatten mm'⟩) (hk: ∀e∈es,e.length=k) (ad: ∀e∈es',e.length=k)
 (T:off'=i'*k) (aR:i'+n'<=es'.length) (a5:0<cap) (ar:n+n'<=cap) (hi:n<=es.length) (hm:(n+n')*k<=es.length*k+mm):
 Makes P c st o (.bsl id 0 (n+n') cap) ((id,⟨bt,.r (es.take n++((es'.drop i').take n'++es.drop (n+n'))).flatten (mm - (n+n' - es.length)*k)⟩)::st.bx) st.tk:=by
 have hl:=ao es hk;have a6:((es'.drop i').take n').length=n':=by rw[lT,lD];omega
 have a0:(i'+n')*k<=es'.length*k+mm':=Nat.le_trans (mR k aR) (Nat.le_add_right _ _);have h:=Makes.roomB (c:=c) ho ht a1 a2 hd hn hx hb a3 (Reads.row hy a4 ad T a0) a5 ar (by
  simp only[A5.cs_r,gV,lM,List.length_replicate,hl];exact hm)
 refine h.recell U (Subs.of_eq ?_);have h2:=Av (mm:=mm') ad T (Nat.le_refl n') aR;rw[tL (by rw[lT];omega)] at h2;rw[h2];simp only[A5.cs_l,A5.cs_r];have:=uq (m:=mm) hk (bv (i:=n') (bN (i:=i') ad)) hi;rw[a6] at this;exact this
def Adds.row{i:Nat}(hy:st.ev y= .bsl id off n cap)(hb:st.bx.lookup id=some ⟨ty,.r es.flatten mm⟩)(hk: ∀e∈es,e.length=k)(a8:0<k)(T:off=i*k)(a9:0<n)(a2:i+n<=es.length):
 Adds P c st y k ((es.drop i).take n):=fun E a w hi=>by
 have h:=hi.ev y;rw[hy] at h;obtain⟨o',hq,hn,hm,a3⟩:=h.bsl_inv;have a4:=a3 C;obtain⟨arr,ba,_,a0,h1,_,hc⟩:=hi.boxCell hb;have hl:=ao es hk;have ad:((es.drop i).take n).length=n:=by rw[lT,lD];omega
 have a5:arr.length=es.length*k+mm:=by rw[a0.1];simp only[A5.cs_r,gV,lM,List.length_replicate,hl]
 have h2:(i+n)*k<=es.length*k:=mR k a2;rw[Nat.add_mul] at h2;have ar:((arr.drop off).take (n*k)).length=n*k:=by rw[lT,lD,a5,T];omega
 refine⟨(arr.drop off).take (n*k),?_,by rw[ad,ar],fun u hu=>h1 u (mD (mT hu)),fun p e j x v h3 h4 h5=> ?_⟩
 · rw[hq,ad,a4];exact Src.some ar (fun j v hv=>by
    have hj:=(gS hv).1;rw[ar] at hj;rw[List.getElem?_take,if_pos hj,List.getElem?_drop] at hv;rw[aK,hc _ (gS hv).1];exact hv)
 · have aR:=(gS h3).1;rw[ad] at aR;rw[List.getElem?_take,if_pos aR,List.getElem?_drop] at h3;have hx:=flat_at es (i+p) j e x hk h3 h4;have bh:e.length=k:=hk e (gE h3);have bi:=(gS h4).1;have a6:p*k+j<n*k:=by
    have:(p+1)*k<=n*k:=mR k aR;rw[Nat.add_mul] at this;omega
   rw[List.getElem?_take,if_pos a6,List.getElem?_drop] at h5;have a1:off+(p*k+j)=(i+p)*k+j:=by rw[T,Nat.add_mul];omega
   rw[a1] at h5;have a7:(⟨ty,.r es.flatten mm⟩:A5).cs[(i+p)*k+j]?=some (.iv x):=by
    simp only[A5.cs_r];rw[gL (by rw[lM];exact(gS hx).1),gP,hx];rfl
   exact(a0.2 _ _ v a7 h5).iv_inv
def Makes.growR
 (ho:o.op= .call {callee:= .builtin .append,args:= #[x,y],argTypes:= #[t,t']}) (ht:P.underlying t=some (.slice e)) (ar:P.info? e=some i) (aR:i.size=k) (a0:i.bytes=bytes) (a1:i.zero=some z) (a2:z.cells.size=k) (a3: ∀u∈z.cells.toList,u.oneCell'=true)
 (hd:P.underlying t'=some d) (hn:gB d) (a4:0<k) (hx:st.ev x= .bsl id 0 n cap) (hb:st.bx.lookup id=some ⟨bt,.r es.flatten mm⟩) (hk: ∀e∈es,e.length=k) (hi:n<=es.length) (T:cap<n+news.length) (a5: ∀e∈news,e.length=k) (hy:Adds P c st y k news) (a6:news≠ [])
 (hm:n+news.length<=maxLen) (a7:(n+news.length)*bytes<=140737488355328) (hf:st.fresh id'=true):
 Makes P c st o (.bsh id' 0 (n+news.length) k) ((id',⟨e,.r (es.take n++news).flatten 0⟩)::st.bx) st.tk:=by
 have hl:=ao es hk;have h1:n*k<=es.length*k:=mR k hi;have ad:(((⟨bt,.r es.flatten mm⟩:A5).cs.drop 0).take (n*k))=(es.take n).flatten.map AV.iv:=by
  simp only[A5.cs_r,List.drop_zero];rw[tA (by rw[lM,hl];exact h1),<-List.map_take,gY es n hk]
 have h:=Makes.growB (c:=c) ho ht ar aR a0 a1 a2 a3 hd hn a4 hx hb ad (by rw[lM,ao _ (bv hk),lT];congr 1;omega) T a5 hy a6 hm a7 hf U (gg _ _) (gg _ _);exact h.recell U (Subs.of_eq sP)
def Makes.growRZ{kd aR:IntKind}
 (ho:o.op= .call {callee:= .builtin .append,args:= #[x,y],argTypes:= #[t,t']}) (ht:P.underlying t=some (.slice e)) (a0:P.info? e=some i) (a1:i.size=k) (a2:i.bytes=bytes) (a3:i.zero=some z) (a4:z.cells.size=k) (a5: ∀u∈z.cells.toList,u.oneCell'=true)
 (hd:P.underlying t'=some (.int kd)) (a6:0<k) (hx:st.ev x= .bsl id 0 n cap) (hb:st.bx.lookup id=some ⟨bt,.r es.flatten mm⟩) (hk: ∀e∈es,e.length=k) (hi:n<=es.length) (T:cap<n+m) (hy:st.ev y= .iv (.im (.int aR (m:Int)))) (ad:0<m)
 (hm:n+m<=maxLen) (a7:(n+m)*bytes<=140737488355328) (hf:st.fresh id'=true):
 Makes P c st o (.bsh id' 0 (n+m) k) ((id',⟨e,.r (es.take n).flatten (m*k)⟩)::st.bx) st.tk:=by
 have hl:=ao es hk;have h1:n*k<=es.length*k:=mR k hi;have ar:(((⟨bt,.r es.flatten mm⟩:A5).cs.drop 0).take (n*k))=(es.take n).flatten.map AV.iv:=by
  simp only[A5.cs_r,List.drop_zero];rw[tA (by rw[lM,hl];exact h1),<-List.map_take,gY es n hk]
 have h:=Makes.growZ (c:=c) ho ht a0 a1 a2 a3 a4 a5 hd a6 hx hb ar (by rw[lM,ao _ (bv hk),lT];congr 1;omega) T hy ad hm a7 hf (gg _ _);exact h.recell U (Subs.of_eq sP)
def Makes.cloneR
 (ho:o.op= .call {callee:= .builtin .append,args:= #[x,y],argTypes:= #[t,t']}) (ht:P.underlying t=some (.slice e)) (T:P.info? e=some i) (ad:i.size=k) (ar:i.bytes=bytes) (aR:i.zero=some z) (a0:z.cells.size=k) (a1: ∀u∈z.cells.toList,u.oneCell'=true)
 (hd:P.underlying t'=some d) (hn:gB d) (a2:0<k) (hx:st.ev x= .bsl id off 0 0) (a3: ∀e∈news,e.length=k) (hy:Adds P c st y k news) (a4:news≠ [])
 (hm:news.length<=maxLen) (a5:news.length*bytes<=140737488355328) (hf:st.fresh id'=true):
 Makes P c st o (.bsh id' 0 news.length k) ((id',⟨e,.r news.flatten 0⟩)::st.bx) st.tk:=
 (Makes.cloneB (c:=c) ho ht T ad ar aR a0 a1 hd hn a2 hx a3 hy a4 hm a5 hf U (gg _ _)).recell U (Subs.of_eq sP)
def Makes.nilR
 (ho:o.op= .call {callee:= .builtin .append,args:= #[x,y],argTypes:= #[t,t']}) (ht:P.underlying t=some (.slice e)) (T:P.info? e=some i) (ad:i.size=k) (ar:i.bytes=bytes) (aR:i.zero=some z) (a0:z.cells.size=k) (a1: ∀u∈z.cells.toList,u.oneCell'=true)
 (hd:P.underlying t'=some d) (hn:gB d) (a2:0<k) (hx:st.ev x= .nils) (a3: ∀e∈news,e.length=k) (hy:Adds P c st y k news) (a4:news≠ [])
 (hm:news.length<=maxLen) (a5:news.length*bytes<=140737488355328) (hf:st.fresh id'=true):
 Makes P c st o (.bsh id' 0 news.length k) ((id',⟨e,.r news.flatten 0⟩)::st.bx) st.tk:=
 (Makes.cloneB0 (c:=c) ho ht T ad ar aR a0 a1 hd hn a2 (fun E a w hi=>by
   have h:=hi.ev x;rw[hx] at h;generalize a.eval x=u at h|-;cases h;exact⟨none,rfl⟩) a3 hy a4 hm a5 hf U (gg _ _)).recell U (Subs.of_eq sP)
def Yields.app0{e':TypeId}{k':Nat}(ho:o.op= .call {callee:= .builtin .append,args:= #[x,y],argTypes:= #[t,t']})(hs:bH P t e k=true)(a0:bH P t' e' k'=true)(hx:(st.ev x).sl?=some [])(hy:(st.ev y).sl?=some []):Yields P c st o (.iv (.sl [])):=fun E a w hi=>by
 obtain⟨hu,a1,ar,a3⟩:=aH hs;obtain⟨aR,_⟩:=aH a0;have h1:C8 E.φ w (.sl []) (a.eval x):=(hi.ev x).sl hx;have h2:C8 E.φ w (.sl []) (a.eval y):=(hi.ev y).sl hy;have T:(Builtin.lenOf (a.eval y)).run P w= .ok 0 w/\(Builtin.firstCells a1.size 0 (a.eval y)).run P w= .ok #[] w:=by
  generalize a.eval y=uy at h2;rcases h2.sl_inv with⟨hq,_⟩|⟨ad,cap,hq,_,_,_⟩|⟨b,o',cap,k',f,hq,hc,_⟩
  · rw[hq];exact⟨rfl,by simp[Builtin.firstCells]⟩
  · rw[hq];exact⟨rfl,by simp[Builtin.firstCells,loadCells,loadCellsFrom]⟩
  · rw[hq];exact⟨rfl,by simp[Builtin.firstCells,loadCells,loadCellsFrom]⟩
 have a2:(Builtin.append_ #[t,t'] o.type #[a.eval x,a.eval y]).run P w= .ok (a.eval x) w:=by
  rcases h1.sl_inv with⟨hq,_⟩|⟨ad,cap,hq,_,_,_⟩|⟨b,o',cap,k',f,hq,hc,_⟩
  · rw[hq];simp[Builtin.append_,run_underlying hu,run_underlying aR,sizeOf,typeInfo,ar,T.1,T.2]
  · rw[hq];cases ad<;>simp[Builtin.append_,run_underlying hu,run_underlying aR,sizeOf,typeInfo,ar,T.1,T.2,storeCells]
  · rw[hq];simp[Builtin.append_,run_underlying hu,run_underlying aR,sizeOf,typeInfo,ar,T.1,T.2,storeCells]
 exact⟨a.eval x,by simp[execOp,ho,resolve,invoke,builtin,a2],.iv h1⟩
end
end
def row_ne{bt:TypeId}{xs:List IV}{mm:Nat}(h:xs≠ [] \/0<mm):(⟨bt,.r xs mm⟩:A5).cs≠ []:=fun e=>by
 simp only[A5.cs_r,List.append_eq_nil_iff,List.map_eq_nil_iff,List.replicate_eq_nil_iff] at e;rcases h with h|h
 · exact h e.1
 · omega
def Sub.bsl0(id off cap:Nat):Sub (.bsl id off 0 cap) (.iv (.sl [])):=fun E w u h=>by
 obtain⟨o,rfl,hn,hm,_⟩:=h.bsl_inv;exact .iv (.emp (fun h=>by cases h) hm)
section
variable {P:Program}{c:C7}{st:St}{ops:Array Oper}{Q:Exit->Act->World->Prop}{rest:List Oper}{o:Oper}
section
variable {a cap d i id j k m mm n n' off:Nat}{args:Array Operand}{Nh:List AV}{ats:Array TypeId}{bt e t ty ty':TypeId}{es:List (List IV)}{f:FuncId}{x y:Operand}{xs ys:List IV}
def Does.storeR{e:List IV}{v:AV}{agg:Bool}(ho:o.op= .store t x y)(ht:nB P t agg k=true)(hx:st.ev x= .ptr id off)(hb:st.bx.lookup id=some ⟨ty,.r es.flatten mm⟩)
 (hy:st.ev y=v) (hv:v.lays=true) (hc:v.cells=e.map .iv) (he:e.length=k) (hk: ∀e∈es,e.length=k) (T:off=i*k) (hi:i<es.length):Does P c st o ((id,⟨ty,.r (es.set i e).flatten mm⟩)::st.bx) st.tk:=by
 have hl:=ao es hk;have h1:(i+1)*k<=es.length*k:=mR k hi;rw[Nat.add_mul] at h1;have h:=Does.store (c:=c) ho ht hx hb hy hv (by rw[hc,lM,he]) (by simp only[A5.cs_r,gV,lM,List.length_replicate,hl,T];omega);refine h.recell U (Subs.of_eq ?_);have:=uq (m:=mm) (news:= [e]) (i:=i) hk (by simpa using he) C;have hz:i+1 - es.length=0:=C;simp only[List.flatten_cons,List.flatten_nil,List.append_nil,lC,List.length_nil,Nat.zero_add,hz,Nat.zero_mul,Nat.sub_zero] at this;simp only[A5.cs_l,A5.cs_r,hc,T];rw[this,List.set_eq_take_append_cons_drop,if_pos hi];simp
def Yields.load1R{f:Nat}{e:List IV}{y:IV}(ho:o.op= .load t x)(ht:nB P t false 1=true)(hx:st.ev x= .ptr id off)(hb:st.bx.lookup id=some ⟨ty,.r es.flatten mm⟩)
 (hk: ∀e∈es,e.length=k) (T:off=i*k+f) (he:es[i]?=some e) (hf:e[f]?=some y):Yields P c st o (.iv y):=by
 refine Yields.load1P ho ht hx hb ?_;have hx:=flat_at es i f e y hk he hf;simp only[A5.cs_r,T];rw[gL (by rw[lM];exact(gS hx).1),gP,hx];rfl
def Yields.loadAR{e:List IV}{vs:List AV}(ho:o.op= .load t x)(ht:nB P t true k=true)(hx:st.ev x= .ptr id off)(hb:st.bx.lookup id=some ⟨ty,.r es.flatten mm⟩)
 (hk: ∀e∈es,e.length=k) (T:off=i*k) (he:es[i]?=some e) (hv:e.map AV.iv=vs):Yields P c st o (.agg vs):=by
 have hl:=ao es hk;have hi:i<es.length:=(gS he).1;have h1:(i+1)*k<=es.length*k:=mR k hi;rw[Nat.add_mul] at h1;have hp:(((⟨ty,.r es.flatten mm⟩:A5).cs.drop off).take k)=vs:=by
  simp only[A5.cs_r,T];rw[List.drop_append_of_le_length (by rw[lM,hl];omega),tA (by rw[lD,lM,hl];omega),<-List.map_drop,<-List.map_take,sg es i e hk he,hv]
 have:=Yields.loadAP (c:=c) ho ht hx hb (k:=k) (by rw[hp,<-hv,lM];exact hk e (gE he));rw[hp] at this;exact this
def Yields.slB3{z u:Operand}{kd ad T:IntKind}{i j m:Int}(ho:o.op= .slice t x (some y) (some z) (some u))(hx:st.ev x= .bsl id off n cap)(hy:st.ev y= .iv (.im (.int kd i)))(ar:st.ev z= .iv (.im (.int ad j)))(aR:st.ev u= .iv (.im (.int T m)))
 (hs:bH P t e k=true) (h0:0<=i) (h1:i<=j) (h2:j<=m) (h3:m<=cap):Yields P c st o (.bsl id (off+i.toNat*k) (j.toNat - i.toNat) (m.toNat - i.toNat)):=fun E a w hi=>by
 obtain⟨hu,hz⟩:=mt hs w;have h:=hi.ev x;rw[hx] at h;obtain⟨o',hq,hn,hm,a0⟩:=h.bsl_inv;refine⟨_,?_,na (E:=E) (w:=w) (id:=id) (s:=k) (by omega:i.toNat<=j.toNat) (by omega:j.toNat<=m.toNat) (by omega:m.toNat<=cap) hm a0⟩;have:=run_slice_lhm (P:=P) w t (some ⟨E.ρ id,o',none⟩) n cap hu kd ad T i j m h0 h1 h2 h3;simp[execOp,ho,hq,hi.im hy,hi.im ar,hi.im aR,run_sliceAt_slice w t _ _ _ _ hu,this,hz,Result.andThen]
def L.clearR{i:TypeInfo}{z:Value}(hg:o.guard=none)(hd:o.dst=none)(ho:o.op= .call {callee:= .builtin .clear,args:= #[x],argTypes:= #[t]})(ht:P.underlying t=some (.slice e))
 (a0:P.info? e=some i) (a1:i.zero=some z) (a2:z.cells.size=k) (a3: ∀u∈z.cells.toList,u.oneCell'=true) (a4:0<k) (hx:st.ev x= .bsl id off n cap) (hb:st.bx.lookup id=some ⟨bt,.r es.flatten mm⟩) (hk: ∀e∈es,e.length=k) (ad:off=j*k) (hj:j<=es.length) (a5:0<n) (aR:(j+n)*k<=es.length*k+mm)
 (h:L c ⟨st.fr,(id,⟨bt,.r (es.take j).flatten (es.length*k+mm - j*k)⟩)::st.bx,st.tk⟩ (wpList P ops Q rest)):L c st (wpList P ops Q (o::rest)):=by
 have hl:=ao es hk;have h1:j*k<=es.length*k:=mR k hj;rw[Nat.add_mul] at aR;refine L.clearB hg hd ho ht a0 a1 a2 a3 a4 hx hb a5 (by simp only[A5.cs_r,gV,lM,List.length_replicate,hl,ad];exact aR) ?_;rintro a w ⟨E,hi⟩;refine h a w ⟨E,hi.recell U ?_⟩;simp only[A5.cs_l,A5.cs_r,ad];have a6:(List.map AV.iv es.flatten++List.replicate mm AV.any).take (j*k)=(es.take j).flatten.map AV.iv:=by
  rw[tA (by rw[lM,hl];exact h1),<-List.map_take,gY es j hk]
 unfold lX;rw[a6];have a7:(es.take j).flatten.length=j*k:=by rw[ao _ (bv hk),lT];congr 1;omega
 refine⟨by simp only[gV,lM,List.length_replicate,lD,hl,a7];omega,fun i x y hx T=> ?_⟩;rw[List.getElem?_append] at hx T;split at hx
 · rename_i ar;rw[if_pos ar] at T;rw[hx] at T;cases T;exact fR
 · rename_i ar;rw[if_neg ar] at T;simp only[List.getElem?_replicate] at T;split at T
   · cases T;exact Sub.any _
   · cases T
def Makes.buildR{parts:Array (Nat×Operand)}{zs:List Value}{cs:List AV}(ho:o.op= .buildSlice t n parts)(hs:bH P t e k=true)
 (hz:dy P e=some zs) (h1:zs.all (·.oneCell')=true) (ad:zs.length=k) (hn:n*k<=16777216) (ar:0<k)
 (hf:lK (fun i=>some (i*k,k)) ((List.range (n*k)).map fun i=>cy (zs.getD (i % k) undef)) (parts.toList.map fun x=>(x.1,st.ev x.2))=some cs)
 (T:cs=es.flatten.map .iv) (aR:es.flatten.length=n*k) (a0:st.fresh id=true):Makes P c st o (.bsl id 0 n n) ((id,⟨e,.r es.flatten 0⟩)::st.bx) st.tk:=
 (Makes.buildBox (c:=c) ho hs hz h1 ad hn ar hf (by rw[T,lM,aR]) (by rw[T];exact gg _ _) a0).recell U (Subs.of_eq (by simp[T]))
def Yields.overlapsR{tr:TypeId}{T ad ar mm':Nat}{bt':TypeId}(ho:o.op= .call {callee:= .value (.func f),args:= #[x,y],argTypes:=ats})
 (a1:sY P f (Extern.SlicesOverlaps.overlaps #[t,t] #[tr])) (hs:bH P t e k=true) (hx:st.ev x= .bsl i T n cap) (hy:st.ev y= .bsl j ad m ar) (a2:i≠j) (hb:st.bx.lookup i=some ⟨bt,.r xs mm⟩) (a3:st.bx.lookup j=some ⟨bt',.r ys mm'⟩)
 (aR:cap≠0) (a0:T<xs.length) (a4:ys≠ []):Yields P c st o (aB false):=
 Yields.overlapsB (c:=c) ho a1 hs hx hy a2 hb a3 (fun e=>by simp only[A5.cs_r,List.append_eq_nil_iff,List.map_eq_nil_iff] at e;rw[e.1] at a0;simp at a0)
  (fun e=>by simp only[A5.cs_r,List.append_eq_nil_iff,List.map_eq_nil_iff] at e;exact a4 e.1) aR (by simp only[A5.cs_r,gV,lM];omega)
def L.pubS(K s:Nat){X:Act->World->Prop}{k n:Nat}{ty:TypeId}{es:List (List IV)}{v v':AV}(T:c.ins.all (fun i=>(i !=K) && (match st.bx.lookup i with|some b=> !b.cs.isEmpty|none=>false))=true)(hb:st.bx.lookup K=some ⟨ty,.r es.flatten 0⟩)(hk: ∀e∈es,e.length=k)(ad:0<k)(ar:es≠ [])(hn:es.length=n)
 (hs:st.fr.lookup s=some v) (hp:G2 K n k (.sl es) v v') (h:L c ⟨(s,v')::st.fr,(K,⟨ty,.l []⟩)::st.bx,st.tk⟩ X):L c st X:=by
 subst hn;refine L.publishS K s T hb (xs:=es.flatten) (n:=es.length) (k:=k) ?_ ?_ ad (gU ar) hs ?_ h
 · simp only[A5.cs_r,List.replicate_zero,List.append_nil];exact yA _
 · simp only[A5.cs_r,List.replicate_zero,List.append_nil,lM];exact ao es hk
 · rw[oK es hk];exact hp
def L.pubB(K j:Nat){X:Act->World->Prop}{k n:Nat}{ty:TypeId}{es:List (List IV)}{bj:A5}{cs:List AV}(T:c.ins.all (fun i=>(i !=K) && (match st.bx.lookup i with|some b=> !b.cs.isEmpty|none=>false))=true)(hb:st.bx.lookup K=some ⟨ty,.r es.flatten 0⟩)(hk: ∀e∈es,e.length=k)(ad:0<k)(ar:es≠ [])(hn:es.length=n)
 (hj:st.bx.lookup j=some bj) (aR:bj.cs≠ []) (a0:(j==K)=false) (hp:EY K n k (.sl es) bj.cs cs) (h:L c ⟨st.fr,(j,⟨bj.ty,.l cs⟩)::(K,⟨ty,.l []⟩)::st.bx,st.tk⟩ X):L c st X:=by
 subst hn;refine L.publishB K j T hb (xs:=es.flatten) (n:=es.length) (k:=k) ?_ ?_ ad (gU ar) hj aR a0 ?_ h
 · simp only[A5.cs_r,List.replicate_zero,List.append_nil];exact yA _
 · simp only[A5.cs_r,List.replicate_zero,List.append_nil,lM];exact ao es hk
 · rw[oK es hk];exact hp
def cu(s N:Nat){id cap m k:Nat}{n:Nat}{ty:TypeId}{es:List (List IV)}{X:Act->World->Prop}(hs:st.fr.lookup s=some (.bsl id 0 n cap))(hb:st.bx.lookup id=some ⟨ty,.r es.flatten m⟩)(hf:st.fresh N=true)(hk: ∀e∈es,e.length=k)(hn:es.length=n)(h0:0<n*k)(T:cap*k<=n*k+m)
 (h:L c ⟨(s,.bsh N 0 n k)::st.fr,(N,⟨ty,.r es.flatten 0⟩)::(id,⟨ty,.l []⟩)::st.bx,st.tk⟩ X):L c st X:=by
 have hl:es.flatten.length=n*k:=by rw[ao es hk,hn]
 refine L.rename s N k hs hb hf (.inl (fun e=>by rw[e] at hl;simp at hl;omega)) (by rw[hl];exact T) ?_;rw[tL (by rw[hl];exact Nat.le_refl _)];exact h
def AV.mentsIn_iv(l:List Nat): ∀xs:List IV,AV.mentsIn l (xs.map .iv)=true
 | [] =>rfl
 |x::xs=>by simp[AV.mentsIn,AV.mentIn,mentsIn_iv l xs]
def AV.mentsIn_any(l:List Nat): ∀m:Nat,AV.mentsIn l (List.replicate m .any)=true
 |0=>rfl
 |m+1=>by simp[List.replicate_succ,AV.mentsIn,AV.mentIn,mentsIn_any l m]
def AV.mentsIn_app(l:List Nat): ∀(a b:List AV),AV.mentsIn l (a++b)=(AV.mentsIn l a && AV.mentsIn l b)
 | [],b=>by simp[AV.mentsIn]
 |x::a,b=>by simp[AV.mentsIn,mentsIn_app l a b,Bool.and_assoc]
def ov{b:A5}(T:st.fresh d=true)(hb:st.bx.lookup id=some b):id≠d:=(St.fresh_bx T hb).1
def L.call01(hg:o.guard=none)(hd:o.dst=some d)(T:Nat.ble (d+1) c.nt=true)(ho:o.op= .call {callee:= .value (.func f),args:=args,argTypes:=ats})(ad:dP P f=true)
 (hc:CallA P f Nh [] [(1000,⟨ty,.r xs 0⟩)] [] (.bsh 1000 0 n k)) (ha:AV.pub.pubs (args.toList.map st.ev)=Nh) (hm:AV.mentsIn [] Nh=true) (hf:st.fresh d=true)
 (h:L c ⟨(d,.bsh d 0 n k)::st.fr,(d,⟨ty,.r xs 0⟩)::st.bx,st.tk⟩ (wpList P ops Q rest)):L c st (wpList P ops Q (o::rest)):=by
 have hs:Abs.sws [(1000,d)] 1000=d:=by simp[Abs.sws,sw]
 have h2:=hc.sws [(1000,d)] (AV.rens_id Nh hm) (bx2:= []) (bx2':= [(d,⟨ty,.r xs 0⟩)]) (tk2':= []) (res2:= .bsh d 0 n k) U (by simp[eK,hs,A5.ren]) U (by simp[AV.ren,hs]);exact jr (bxi:= []) [d] hg hd T ho ad h2 (.of_pub ha) .nil (by simp[hf]) (by simp[dV,keys]) U (by simp[AV.mentsIn_iv]) (by simp[AV.mentIn]) h
def L.call02{k':Nat}{T:List IV}(hg:o.guard=none)(hd:o.dst=some d)(ar:Nat.ble (d+1) c.nt=true)(ho:o.op= .call {callee:= .value (.func f),args:=args,argTypes:=ats})(aR:dP P f=true)
 (hc:CallA P f Nh [] [(1000,⟨ty,.r xs 0⟩),(1001,⟨ty',.r T 0⟩)] [] (.agg [.bsh 1000 0 n k,.bsh 1001 0 n' k'])) (ha:AV.pub.pubs (args.toList.map st.ev)=Nh) (hm:AV.mentsIn [] Nh=true) (hf:st.fresh d=true) (a0:st.fresh (d+2000)=true)
 (h:L c ⟨(d,.agg [.bsh d 0 n k,.bsh (d+2000) 0 n' k'])::st.fr,(d,⟨ty,.r xs 0⟩)::(d+2000,⟨ty',.r T 0⟩)::st.bx,st.tk⟩ (wpList P ops Q rest)):L c st (wpList P ops Q (o::rest)):=by
 have hs:Abs.sws [(1001,d+2000),(1000,d)] 1000=d:=nO dD (iV _ _ _) C;have ad:Abs.sws [(1001,d+2000),(1000,d)] 1001=d+2000:=iV _ _ _;have h2:=hc.sws [(1001,d+2000),(1000,d)] (AV.rens_id Nh hm) (bx2:= []) (bx2':= [(d,⟨ty,.r xs 0⟩),(d+2000,⟨ty',.r T 0⟩)]) (tk2':= []) (res2:= .agg [.bsh d 0 n k,.bsh (d+2000) 0 n' k']) U (by simp[eK,hs,ad,A5.ren]) U (by simp[AV.ren,AV.rens,hs,ad]);exact jr (bxi:= []) [d,d+2000] hg hd ar ho aR h2 (.of_pub ha) .nil (by simp[hf,a0]) (by simp[dV,keys]) U (by simp[AV.mentsIn_iv]) (by simp[AV.mentIn,AV.mentsIn]) h
def L.call11(hg:o.guard=none)(hd:o.dst=some d)(ad:Nat.ble (d+1) c.nt=true)(ho:o.op= .call {callee:= .value (.func f),args:=args,argTypes:=ats})(ar:dP P f=true)
 (hc:CallA P f (.bsh 1000 0 n k::Nh) [(1000,⟨ty,.r xs 0⟩)] [(1001,⟨ty,.r ys 0⟩),(1000,⟨ty,.l []⟩)] [] (.bsh 1001 0 n' k)) (ha:AV.pub.pubs (args.toList.map st.ev)= .bsh a 0 n k::Nh) (hb:st.bx.lookup a=some ⟨ty,.r xs 0⟩) (hx:xs≠ []) (hm:AV.mentsIn [] Nh=true) (hf:st.fresh d=true)
 (h:L c ⟨(d,.bsh d 0 n' k)::st.fr,(d,⟨ty,.r ys 0⟩)::(a,⟨ty,.l []⟩)::st.bx,st.tk⟩ (wpList P ops Q rest)):L c st (wpList P ops Q (o::rest)):=by
 have aR:=ov hf hb;have hs:Abs.sws [(1001,d),(1000,a)] 1000=a:=nO dD (iV _ _ _) aR;have T:Abs.sws [(1001,d),(1000,a)] 1001=d:=iV _ _ _;have h2:=hc.sws [(1001,d),(1000,a)] (args2:= .bsh a 0 n k::Nh) (bx2:= [(a,⟨ty,.r xs 0⟩)]) (bx2':= [(d,⟨ty,.r ys 0⟩),(a,⟨ty,.l []⟩)]) (tk2':= []) (res2:= .bsh d 0 n' k) (by simp[AV.rens,AV.ren,hs,AV.rens_id Nh hm]) (by simp[eK,hs,A5.ren]) (by simp[eK,hs,T,A5.ren,AV.rens]) U (by simp[AV.ren,T]);have hn: ¬(xs= [] /\True):=fun h=>hx h.1
 exact jr (bxi:= [(a,⟨ty,.r xs 0⟩)]) [d] hg hd ad ho ar h2 (.of_pub ha) (.cons hb U fS .nil) (by simp[hf]) (by simp[dV,keys,hx]) U (by simp[AV.mentsIn_iv,AV.mentsIn]) (by simp[AV.mentIn]) h
def L.call10{res:IV}(hg:o.guard=none)(hd:o.dst=some d)(T:Nat.ble (d+1) c.nt=true)(ho:o.op= .call {callee:= .value (.func f),args:=args,argTypes:=ats})(ad:dP P f=true)
 (hc:CallA P f (.bsh 1000 0 n k::Nh) [(1000,⟨ty,.r xs 0⟩)] [(1000,⟨ty,.l []⟩)] [] (.iv res)) (ha:AV.pub.pubs (args.toList.map st.ev)= .bsh a 0 n k::Nh) (hb:st.bx.lookup a=some ⟨ty,.r xs 0⟩) (hx:xs≠ []) (hm:AV.mentsIn [] Nh=true)
 (h:L c ⟨(d,.iv res)::st.fr,(a,⟨ty,.l []⟩)::st.bx,st.tk⟩ (wpList P ops Q rest)):L c st (wpList P ops Q (o::rest)):=by
 have hs:Abs.sws [(1000,a)] 1000=a:=by simp[Abs.sws,sw]
 have h2:=hc.sws [(1000,a)] (args2:= .bsh a 0 n k::Nh) (bx2:= [(a,⟨ty,.r xs 0⟩)]) (bx2':= [(a,⟨ty,.l []⟩)]) (tk2':= []) (res2:= .iv res) (by simp[AV.rens,AV.ren,hs,AV.rens_id Nh hm]) (by simp[eK,hs,A5.ren]) (by simp[eK,hs,A5.ren,AV.rens]) U U;exact jr (bxi:= [(a,⟨ty,.r xs 0⟩)]) [] hg hd T ho ad h2 (.of_pub ha) (.cons hb U fS .nil) U (by simp[dV,keys,hx]) U (by simp[AV.mentsIn]) (by simp[AV.mentIn]) h
def L.call21{i:AV}{v:Nat}{vs:List IV}(hg:o.guard=none)(hd:o.dst=some d)(a1:Nat.ble (d+1) c.nt=true)(ho:o.op= .call {callee:= .value (.func f),args:=args,argTypes:=ats})(a2:dP P f=true)
 (hc:CallA P f [.bsh 1000 0 n k,i,.bsl 1001 0 m m] [(1000,⟨ty,.r xs 0⟩),(1001,⟨ty',.r vs 0⟩)] [(1002,⟨ty,.r ys 0⟩),(1000,⟨ty,.l []⟩),(1001,⟨ty',.l []⟩)] [] (.bsh 1002 0 n' k)) (ha:AV.pub.pubs (args.toList.map st.ev)= [.bsh a 0 n k,i,.bsl v 0 m m])
 (hb:st.bx.lookup a=some ⟨ty,.r xs 0⟩) (ad:st.bx.lookup v=some ⟨ty',.r vs 0⟩) (hx:xs≠ []) (hv:vs≠ []) (a3:(a==v)=false) (hm:AV.mentIn [] i=true) (hf:st.fresh d=true)
 (h:L c ⟨(d,.bsh d 0 n' k)::st.fr,(d,⟨ty,.r ys 0⟩)::(a,⟨ty,.l []⟩)::(v,⟨ty',.l []⟩)::st.bx,st.tk⟩ (wpList P ops Q rest)):L c st (wpList P ops Q (o::rest)):=by
 have a4:=ov hf hb;have ar:=ov hf ad;have aR:a≠v:=by simpa using a3
 have hs:Abs.sws [(1002,d),(1001,v),(1000,a)] 1000=a:=nO dD (nO dD (iV _ _ _) aR) a4;have T:Abs.sws [(1002,d),(1001,v),(1000,a)] 1001=v:=nO dD (iV _ _ _) ar;have a0:Abs.sws [(1002,d),(1001,v),(1000,a)] 1002=d:=iV _ _ _;have h2:=hc.sws [(1002,d),(1001,v),(1000,a)] (args2:= [.bsh a 0 n k,i,.bsl v 0 m m]) (bx2:= [(a,⟨ty,.r xs 0⟩),(v,⟨ty',.r vs 0⟩)]) (bx2':= [(d,⟨ty,.r ys 0⟩),(a,⟨ty,.l []⟩),(v,⟨ty',.l []⟩)]) (tk2':= []) (res2:= .bsh d 0 n' k)
  (by simp[AV.rens,AV.ren,hs,T,AV.ren_id i hm]) (by simp[eK,hs,T,A5.ren]) (by simp[eK,hs,T,a0,A5.ren,AV.rens]) U (by simp[AV.ren,a0])
 exact jr (bxi:= [(a,⟨ty,.r xs 0⟩),(v,⟨ty',.r vs 0⟩)]) [d] hg hd a1 ho a2 h2 (.of_pub ha) (.cons hb U fS (.cons ad U fS .nil)) (by simp[hf]) (by simp[dV,keys,hx,hv]) U (by simp[AV.mentsIn_iv,AV.mentsIn]) (by simp[AV.mentIn]) h
end
end
mutual
def jw{l:List Nat}: ∀(v:AV),AV.mentIn [] v=true->AV.mentIn l v=true
 | .any,_=>rfl
 | .iv _,_=>rfl
 | .nils,_=>rfl
 | .emp,_=>rfl
 | .el _,_=>rfl
 | .row i _,h=>by simp[AV.mentIn] at h
 | .ptr i _,h=>by simp[AV.mentIn] at h
 | .bsl i _ _ _,h=>by simp[AV.mentIn] at h
 | .bsh i _ _ _,h=>by simp[AV.mentIn] at h
 | .agg cs,h=>by simp only[AV.mentIn] at h|-;exact fI cs h
 | .tup cs,h=>by simp only[AV.mentIn] at h|-;exact fI cs h
 | .fn _ cs,h=>by simp only[AV.mentIn] at h|-;exact fI cs h
 | .opt _ v,h=>by simp only[AV.mentIn] at h|-;exact jw v h
def fI{l:List Nat}: ∀(vs:List AV),AV.mentsIn [] vs=true->AV.mentsIn l vs=true
 | [],_=>rfl
 |v::vs,h=>by
  simp only[AV.mentsIn,aE] at h|-;exact⟨jw v h.1,fI vs h.2⟩
end
section
variable {P:Program}{c:C7}{st:St}{ops:Array Oper}{Q:Exit->Act->World->Prop}{rest:List Oper}{o:Oper}
def Yields.capNil{t:TypeId}{x:Operand}(ho:o.op= .call {callee:= .builtin .cap,args:= #[x],argTypes:= #[t]}){e:TypeId}{k:Nat}(hs:bH P t e k=true)(T:st.ev x= .nils):Yields P c st o (aI 0):=
 .im U fun E a w hi=>by
   obtain⟨hu,_⟩:=aH hs;have h:=hi.ev x;rw[T] at h;have hq:a.eval x= .slice none 0 0:=by generalize a.eval x=u at h;cases h;rfl
   simp[execOp,ho,resolve,invoke,builtin,hq,Builtin.cap_,run_underlying hu,goInt]
def Yields.slNil{x y:Operand}{t e:TypeId}{k:Nat}{T:IntKind}{j:Int}(ho:o.op= .slice t x none (some y) none)(hx:st.ev x= .nils)(hy:st.ev y= .iv (.im (.int T j)))(hs:bH P t e k=true)(h0:j=0):Yields P c st o .nils:=fun E a w hi=>by
 obtain⟨hu,hz⟩:=mt hs w;have h:=hi.ev x;rw[hx] at h;have hq:a.eval x= .slice none 0 0:=by generalize a.eval x=u at h;cases h;rfl
 refine⟨_,?_,.nils⟩;subst h0;have:=run_slice_h (P:=P) w t none 0 0 hu T 0 C C;simp[execOp,ho,hq,hi.im hy,run_sliceAt_slice w t _ _ _ _ hu,this,hz,Result.andThen,sliced]
def Yields.slBshH{x y:Operand}{t e:TypeId}{k id n:Nat}{kd:IntKind}{j:Int}(ho:o.op= .slice t x none (some y) none)(hx:st.ev x= .bsh id 0 n k)(hy:st.ev y= .iv (.im (.int kd j)))(hs:bH P t e k=true)
 (h0:0<=j) (h1:j<=n):Yields P c st o (.bsh id 0 j.toNat k):=fun E a w hi=>by
 obtain⟨hu,hz⟩:=mt hs w;have h:=hi.ev x;rw[hx] at h;obtain⟨cap,o',hq,hn,hm,he,T⟩:=h.bsh_inv;simp only[Nat.sub_zero,Nat.zero_mul,Nat.zero_add] at hq hn T;have:=run_slice_h (P:=P) w t (some ⟨E.ρ id,o',none⟩) n cap hu kd j h0 C;have ad:sliced (some ⟨E.ρ id,o',none⟩) 0 j.toNat cap k= .slice (some ⟨E.ρ id,o',none⟩) j.toNat cap:=by
  unfold sliced;by_cases e:cap=0
  · rw[if_pos e];have:j.toNat=0:=C;simp[this,e]
  · rw[if_neg e];simp[aK]
 refine⟨.slice (some ⟨E.ρ id,o',none⟩) j.toNat cap,?_,.bsh (cap:=cap) (o:=o') C hm he (fun h=>by simpa using T C) sP⟩;simp[execOp,ho,hq,hi.im hy,run_sliceAt_slice w t _ _ _ _ hu,this,hz,Result.andThen,ad]
def Makes.growNZ{t t' e:TypeId}{kd a0:IntKind}{x y:Operand}{m:Nat}{id' k bytes:Nat}{i:TypeInfo}{z:Value}
 (ho:o.op= .call {callee:= .builtin .append,args:= #[x,y],argTypes:= #[t,t']}) (ht:P.underlying t=some (.slice e)) (a4:P.info? e=some i) (a5:i.size=k) (a6:i.bytes=bytes) (a7:i.zero=some z) (ar:z.cells.size=k) (a8: ∀u∈z.cells.toList,u.oneCell'=true)
 (hd:P.underlying t'=some (.int kd)) (a1:0<k) (hx:st.ev x= .nils) (hy:st.ev y= .iv (.im (.int a0 (m:Int)))) (a2:0<m)
 (hm:m<=maxLen) (a9:m*bytes<=140737488355328) (hf:st.fresh id'=true):
 Makes P c st o (.bsh id' 0 m k) ((id',⟨e,.r [] (m*k)⟩)::st.bx) st.tk:=fun E a w hi=>by
 subst a5;subst a6;have ba:=hi.im hy;have h:=hi.ev x;rw[hx] at h;have hq:a.eval x= .slice none 0 0:=by generalize a.eval x=u at h;cases h;rfl
 have aR:(execOp a.eval o).run P w=((Builtin.append_ #[t,t'] o.type #[a.eval x,a.eval y]).run P w).andThen fun v w'=> .ok (.value v) w':=by
  simp[execOp,ho,resolve,invoke,builtin]
 have T:=Lib.run_append_grow_zeros w t t' o.type e i z a0 kd ht hd a4 a7 none 0 0 [] (by simp[Builtin.firstCells]) m a2 a1 C (by simp only[maxLen] at hm;omega) C (growslice_fits C (by simpa using a9));simp only[Nat.zero_add] at T;have bh:m<=grownCap w m 0 e:=grownCap_ge _ _ _ _;have bi:=grownCap_le_maxLen w m 0 e hm;have ad:((Builtin.zeroCells z.cells m).toList++(Builtin.zeroCells z.cells (grownCap w m 0 e - m)).toList).length=grownCap w m 0 e*i.size:=by
  simp only[gV,Array.length_toList,size_zeroCells,ar];rw[<-Nat.add_mul];congr 1;omega
 have bp:(Builtin.zeroCells z.cells m).toList.length=m*i.size:=by rw[Array.length_toList,size_zeroCells,ar]
 have a3: ∀(q:Nat) (u:Value),u∈(Builtin.zeroCells z.cells q).toList->u.oneCell'=true:=fun q u hu=>by
  simp only[Builtin.zeroCells,Array.toList_map,Array.toList_range,List.mem_map,List.mem_range] at hu;obtain⟨p,_,rfl⟩:=hu;have bl:p % z.cells.size<z.cells.size:=Nat.mod_lt _ (by rw[ar];exact a1);rw[getElem!_pos z.cells _ bl];exact a8 _ sP
 have bm:=hi.drew.newRoom hf (ty:=e) (cs:=List.replicate (m*i.size) AV.any) (us:=(Builtin.zeroCells z.cells m).toList++(Builtin.zeroCells z.cells (grownCap w m 0 e - m)).toList) (ri i.size (grownCap w m 0 e))
  (by rw[ad,List.length_replicate];exact mR _ bh)
  (fun p x u hx hu=>by
    simp only[List.getElem?_replicate] at hx;split at hx
    · cases hx;exact .any
    · cases hx)
  (fun u hu=>by
    rcases mA hu with hu|hu
    · exact a3 _ u hu
    · exact a3 _ u hu)
  (rS _ _) (fun k' cap' he=>by
    obtain⟨rfl,rfl⟩:=mV he;exact Nat.le_of_eq ad.symm)
 refine⟨_,_,_,?_,bm.recell (b':=⟨e,.r [] (m*i.size)⟩) U (Subs.of_eq sP),.bsh (cap:=grownCap w m 0 e) (o:=0) C bi (by simp[B9.upd]) (fun _=>by simp) U⟩;rw[aR,hq,ba,T];simp[B9.upd];congr 2
 apply Array.ext';simp
def L.appendH(N:Nat){t t' e:TypeId}{dd:TypeDesc}{x y:Operand}{id k bytes d:Nat}{i:TypeInfo}{z:Value}{n mm:Nat}{es news:List (List IV)}(hg:o.guard=none)(a8:o.dst=some d)(bl:Nat.ble (d+1) c.nt=true)
 (ho:o.op= .call {callee:= .builtin .append,args:= #[x,y],argTypes:= #[t,t']}) (ht:P.underlying t=some (.slice e)) (bm:P.info? e=some i) (b8:i.size=k) (b9:i.bytes=bytes) (cb:i.zero=some z) (cc:z.cells.size=k) (ch: ∀u∈z.cells.toList,u.oneCell'=true)
 (hd:P.underlying t'=some dd) (hn:gB dd) (ba:0<k) (hx:st.ev x= .bsh id 0 n k) (hb:st.bx.lookup id=some ⟨e,.r es.flatten mm⟩) (cR:es.flatten≠ [] \/0<mm) (hk: ∀e∈es,e.length=k) (bp:n<=es.length) (a6: ∀e∈news,e.length=k) (hy:Adds P c st y k news) (bP:news≠ [])
 (hm:n+news.length<=maxLen) (cS:(n+news.length)*bytes<=140737488355328) (hf:st.fresh N=true)
 (h:L c ⟨(d,.bsh N 0 (n+news.length) k)::st.fr,(N,⟨e,.r (es.take n++news).flatten 0⟩)::(id,⟨e,.l []⟩)::st.bx,st.tk⟩ (wpList P ops Q rest)):L c st (wpList P ops Q (o::rest)):=by
 subst b8;subst b9;rintro a w ⟨E,hi⟩;have a3:=Go.Abs.row_ne (bt:=e) cR;have a0:id≠N:=(St.fresh_bx hf hb).1;have hv:=hi.ev x;rw[hx] at hv;obtain⟨cap,o',hq,bR,cX,he,bh⟩:=hv.bsh_inv;simp only[Nat.sub_zero,Nat.zero_mul,Nat.zero_add] at hq bR bh;have c3:=ao es hk;have ec:=ao news a6;have ea:0<news.length:=gU bP;have bS:((es.take n).flatten).length=n*i.size:=by rw[ao _ (bv hk),lT];congr 1;omega
 have c4: ∀e∈es.take n++news,e.length=i.size:=fun e he=>by
  rcases mA he with h|h
  · exact hk e (mT h)
  · exact a6 e h
 have c5:(es.take n++news).length=n+news.length:=by simp;omega
 have a1:(es.take n++news).flatten.length=(n+news.length)*i.size:=by rw[ao _ c4,c5]
 by_cases ar:n+news.length<=cap
 ·
  have c6:o'=0:=bh C;subst c6;obtain⟨us,a9,a7,bW,c7⟩:=hy E a w hi;obtain⟨h0,arr,ha,ed,h1,c8,c9⟩:=hi.heap.box id _ hb a3;have eb:=c9 i.size cap he;have b1:(n+news.length)*i.size<=cap*i.size:=mR _ ar;rw[Nat.add_mul] at b1;have dk:=yk (ty:=o.type) ht hd hn bm a9.1 a9.2.1 ha bW ar (n:=n) (by rw[a7];simp;omega);have a4:(execOp a.eval o).run P w= .ok (.value (.slice (some ⟨E.ρ id,0,none⟩) (n+news.length) cap)) (w.setRow (E.ρ id) ((arr.take (n*i.size)++us++arr.drop (n*i.size+us.length)).toArray)):=by
   simp[execOp,ho,resolve,invoke,builtin,hq,dk]
  have b2:RelL E w ((es.take n++news).flatten.map .iv++List.replicate (arr.length - (n+news.length)*i.size) .any) (arr.take (n*i.size)++us++arr.drop (n*i.size+us.length)):=by
   refine⟨by simp only[gV,lM,List.length_replicate,lT,lD,a1,a7,Nat.add_mul];omega,fun p x u ad a2=> ?_⟩;rw[List.getElem?_append] at ad;split at ad
   · rename_i b3;rw[lM,a1,Nat.add_mul] at b3;rw[gP,Option.map_eq_some_iff] at ad;obtain⟨y0,aR,rfl⟩:=ad;rw[List.flatten_append,List.getElem?_append,bS] at aR;rw[List.append_assoc,List.getElem?_append,lT] at a2;by_cases hp:p<n*i.size
     · rw[if_pos hp] at aR;rw[if_pos C,List.getElem?_take,if_pos hp] at a2;refine c8 p _ u ?_ a2;rw[<-gY es n hk,List.getElem?_take,if_pos hp] at aR;simp only[A5.cs_r];rw[gL (by rw[lM];exact(gS aR).1),gP,aR];rfl
     · rw[if_neg hp] at aR;rw[if_neg C] at a2;have:min (n*i.size) arr.length=n*i.size:=C;rw[this,gL (by rw[a7];omega)] at a2;obtain⟨e',h2,h3⟩:=lJ ba news _ y0 a6 aR;have dr:(p - n*i.size) / i.size*i.size+(p - n*i.size) % i.size=p - n*i.size:=by rw[Nat.mul_comm];exact Nat.div_add_mod _ _
       exact .iv (c7 _ e' _ y0 u h2 h3 (by rw[dr];exact a2))
   · simp only[List.getElem?_replicate] at ad;split at ad
     · cases ad;exact .any
     · cases ad
  have b4: ∀u∈arr.take (n*i.size)++us++arr.drop (n*i.size+us.length),u.oneCell'=true:=fun u hu=>by
   rcases mA hu with hu|hu
   · rcases mA hu with hu|hu
     · exact h1 u (mT hu)
     · exact bW u hu
   · exact h1 u (mD hu)
  have b5:(arr.take (n*i.size)++us++arr.drop (n*i.size+us.length)).length=arr.length:=by
   simp only[gV,lT,lD,a7];omega
  have a5:=(hi.setBox hb a3 (arr:=arr) (rest:= []) (by simpa using ha) sP b5 b2 b4).recell (b':=⟨e,.r (es.take n++news).flatten (arr.length - (n+news.length)*i.size)⟩) U (Subs.of_eq U);rw[List.append_nil] at a5;refine wpList_plain hg (fun K hK=>ek a4 (hK _ _ ?_));rw[a8];have ds:(es.take n++news).flatten≠ []:=fun e0=>by
   rw[e0] at a1;have:0<(n+news.length)*i.size:=Nat.mul_pos C ba;simp at a1;omega
  have hL:L c ⟨(d,.bsl id 0 (n+news.length) cap)::st.fr,(id,⟨e,.r (es.take n++news).flatten (arr.length - (n+news.length)*i.size)⟩)::st.bx,st.tk⟩ (wpList P ops Q rest):=by
   refine L.rename d N i.size aj aj ?_ (.inl ds) (by rw[a1,Nat.add_mul];omega) ?_
   · simp only[St.fresh,List.all_cons,AV.ment,A5.ment] at hf|-;simp only[aE] at hf|-;have T:(id==N)=false:=by simpa using a0
     have e2:(id !=N)=true:=by simpa using a0
     simp[T,e2,hf.1.1,hf.1.2,hf.2]
   refine L.wk (st':=⟨(d,.bsh N 0 (n+news.length) i.size)::st.fr,(N,⟨e,.r (es.take n++news).flatten 0⟩)::(id,⟨e,.l []⟩)::st.bx,st.tk⟩) ⟨fun i bi=> ?_,fun s v hs=> ?_,fun i b hi=> ?_,fun i t h=>h⟩ h
   · have h3:=(a5.heap.ins i bi).2.2;simp only at h3|-;by_cases T:i=N
     · subst T;rw[aj];rfl
     · rw[aa T];by_cases e2:i=id
       · subst e2;rw[aj];rfl
       · rw[aa e2] at h3|-;exact h3
   · simp only at hs|-;by_cases T:s=d
     · subst T;rw[aj] at hs|-;exact⟨v,hs,Sub.refl _⟩
     · rw[aa T] at hs;rw[aa T,aa T];exact⟨v,hs,Sub.refl _⟩
   · simp only at hi|-;by_cases T:i=N
     · subst T;rw[aj] at hi|-;cases hi;exact⟨_,rfl,rfl,Subs.of_eq (by rw[A5.cs_r,A5.cs_r,tL (by rw[a1];exact Nat.le_refl _)])⟩
     · rw[aa T] at hi|-;by_cases e2:i=id
       · subst e2;rw[aj] at hi|-;exact⟨b,hi,rfl,Subs.refl _⟩
       · rw[aa e2] at hi;rw[aa e2,aa e2];exact⟨b,hi,rfl,Subs.refl _⟩
  exact hL _ _ ⟨E,a5.put (st:=⟨st.fr,_,st.tk⟩) (bT bl) (.bsl (o:=0) ar cX (fun _=>rfl) U)⟩
 ·
  have b6:(((⟨e,.r es.flatten mm⟩:A5).cs.drop 0).take (n*i.size))=(es.take n).flatten.map AV.iv:=by
   simp only[A5.cs_r,List.drop_zero];have:n*i.size<=es.length*i.size:=mR _ bp;rw[tA (by rw[lM,c3];exact this),<-List.map_take,gY es n hk]
  obtain⟨u,E',w',a4,a5,hu⟩:=vp (c:=c) hi ho ht bm U U cb cc ch hd hn ba hq bh bR hb b6 (by rw[lM,bS]) C a6 hy bP hm cS hf U (gg _ _) (gg _ _);have b7:=a5.recell (b':=⟨e,.r (es.take n++news).flatten 0⟩) U (Subs.of_eq sP);refine wpList_plain hg (fun K hK=>ek a4 (hK _ _ ?_));rw[a8];have hL:L c ⟨(d,.bsh N 0 (n+news.length) i.size)::st.fr,(N,⟨e,.r (es.take n++news).flatten 0⟩)::st.bx,st.tk⟩ (wpList P ops Q rest):=by
   refine cT id (b:=⟨e,.r es.flatten mm⟩) (by simp only;rw[aa a0];exact hb) a3 ?_;refine L.wk (st':=⟨(d,.bsh N 0 (n+news.length) i.size)::st.fr,(N,⟨e,.r (es.take n++news).flatten 0⟩)::(id,⟨e,.l []⟩)::st.bx,st.tk⟩) ⟨fun i bi=> ?_,fun s v hs=>⟨v,hs,Sub.refl _⟩,fun i b hi=> ?_,fun i t h=>h⟩ h
   · have h3:=(b7.heap.ins i bi).2.2;simp only at h3|-;by_cases T:i=N
     · subst T;rw[aj];rfl
     · rw[aa T] at h3|-;by_cases e2:i=id
       · subst e2;rw[aj];rfl
       · rw[aa e2];exact h3
   · simp only at hi|-;by_cases T:i=N
     · subst T;rw[aj] at hi;rw[aa (Ne.symm a0),aj];exact⟨b,hi,rfl,Subs.refl _⟩
     · rw[aa T] at hi;by_cases e2:i=id
       · subst e2;rw[aj] at hi|-;exact⟨b,hi,rfl,Subs.refl _⟩
       · rw[aa e2] at hi;rw[aa e2,aa T];exact⟨b,hi,rfl,Subs.refl _⟩
  exact hL _ _ ⟨E',b7.put (st:=⟨st.fr,_,st.tk⟩) (bT bl) hu⟩
def Lj(P:Program)(x:Code)(Q:Exit->Act->World->Prop):Nat->Act->World->Prop
 |0=>fun _ _=>False
 |n+1=>x.wp P (Exit.then (Lj P x Q n) Q)
def Mi{x:Code}{n:Nat}(h:L c st (x.wp P (Exit.then (Lj P x Q n) Q))):L c st (Lj P x Q (n+1)):=h
def L.unroll(n:Nat){x:Code}(h:L c st (Lj P x Q n)):L c st ((Code.loop x).wp P Q):=by
 have key: ∀(n:Nat) (a:Act) (w:World),Lj P x Q n a w-> ∀(b:Frame) (k:List Item) (cs:List Frame),
  ∃e a' w',Q e a' w'/\Arrives P (lone (b.at a (.code x:: .inLoop x::k)) cs w) b k cs e a' w':=by
  intro n;induction n with
  |zero=>intro a w h;exact h.elim
  |succ n ih=>
   intro a w hr b k cs;obtain⟨e,ad,ar,hq,T⟩:=hr b (.inLoop x::k) cs;cases e with
   |normal=>
    obtain⟨a1,a2,a3,a0,aR⟩:=ih ad ar hq b k cs;exact⟨a1,a2,a3,a0,.of_steps (Steps.trans T (.one step_inLoop)) aR⟩
   |exit id=>exact⟨_,ad,ar,hq,.pass (x:= .inLoop x) U (fun _ _=> .inl sP) T⟩
   |goto l=>exact⟨_,ad,ar,hq,.pass (x:= .inLoop x) U (fun _ _=> .inl sP) T⟩
   |ret=>exact⟨_,ad,ar,hq,.pass (x:= .inLoop x) U (fun _ _=> .inl sP) T⟩
   |panic ch=>exact⟨_,ad,ar,hq,.pass (x:= .inLoop x) U (fun _ _=> .inl sP) T⟩
   |outgrown=>exact⟨_,ad,ar,hq,.pass (x:= .inLoop x) U (fun _ _=> .inl sP) T⟩
 intro a w hr b k cs;obtain⟨e,a',w',hq,T⟩:=key n a w (h a w hr) b k cs;exact⟨e,a',w',hq,.of_steps (.one step_loop) T⟩
def L.call01N{f:FuncId}{args:Array Operand}{ats:Array TypeId}{Nh:List AV}{d k n m:Nat}{ty:TypeId}{xs:List IV}(hg:o.guard=none)(hd:o.dst=some d)(T:Nat.ble (d+1) c.nt=true)(ho:o.op= .call {callee:= .value (.func f),args:=args,argTypes:=ats})(ad:dP P f=true)
 (hc:CallA P f Nh [] [(1000,⟨ty,.r xs m⟩)] [] (.bsh 1000 0 n k)) (ha:args.toList.map st.ev=Nh) (hm:AV.mentsIn [] Nh=true) (hf:st.fresh d=true)
 (h:L c ⟨(d,.bsh d 0 n k)::st.fr,(d,⟨ty,.r xs m⟩)::st.bx,st.tk⟩ (wpList P ops Q rest)):L c st (wpList P ops Q (o::rest)):=by
 have hs:Abs.sws [(1000,d)] 1000=d:=iV _ _ _;have h2:=hc.sws [(1000,d)] (AV.rens_id Nh hm) (bx2:= []) (bx2':= [(d,⟨ty,.r xs m⟩)]) (tk2':= []) (res2:= .bsh d 0 n k) U (by simp[eK,hs,A5.ren]) U (by simp[AV.ren,hs]);exact jr (bxi:= []) [d] hg hd T ho ad h2 (ha▸Subs.refl _) .nil (by simp[hf]) (by simp[dV,keys]) U (by simp[AV.mentsIn_iv,AV.mentsIn_app,AV.mentsIn_any]) (by simp[AV.mentIn]) h
def L.callJ(N:Nat){f:FuncId}{args:Array Operand}{ats:Array TypeId}{Nh:List AV}{d q a k n n':Nat}{t1 t2:TypeId}{xs ys:List IV}{res:AV}(hg:o.guard=none)(hd:o.dst=some d)(a0:Nat.ble (d+1) c.nt=true)(ho:o.op= .call {callee:= .value (.func f),args:=args,argTypes:=ats})(a1:dP P f=true)
 (hc:CallA P f (.ptr 1000 0::Nh) [(1000,⟨t1,.l [.bsh 1001 0 n k]⟩),(1001,⟨t2,.r xs 0⟩)] [(1000,⟨t1,.l [.bsh 1002 0 n' k]⟩),(1002,⟨t2,.r ys 0⟩),(1001,⟨t2,.l []⟩)] [] res)
 (ha:AV.pub.pubs (args.toList.map st.ev)= .ptr q 0::Nh) (hb:st.bx.lookup q=some ⟨t1,.l [.bsh a 0 n k]⟩) (T:st.bx.lookup a=some ⟨t2,.r xs 0⟩) (hx:xs≠ []) (a2:(q==a)=false) (hm:AV.mentsIn [] Nh=true) (hr:AV.mentIn [] res=true) (hf:st.fresh N=true)
 (h:L c ⟨(d,res)::st.fr,(q,⟨t1,.l [.bsh N 0 n' k]⟩)::(N,⟨t2,.r ys 0⟩)::(a,⟨t2,.l []⟩)::st.bx,st.tk⟩ (wpList P ops Q rest)):L c st (wpList P ops Q (o::rest)):=by
 have a3:=ov hf hb;have ad:=ov hf T;have ar:q≠a:=by simpa using a2
 have hs:Abs.sws [(1002,N),(1001,a),(1000,q)] 1000=q:=nO dD (nO dD (iV _ _ _) ar) a3;have aR:Abs.sws [(1002,N),(1001,a),(1000,q)] 1001=a:=nO dD (iV _ _ _) ad;have a4:Abs.sws [(1002,N),(1001,a),(1000,q)] 1002=N:=iV _ _ _;have h2:=hc.sws [(1002,N),(1001,a),(1000,q)] (args2:= .ptr q 0::Nh) (bx2:= [(q,⟨t1,.l [.bsh a 0 n k]⟩),(a,⟨t2,.r xs 0⟩)]) (bx2':= [(q,⟨t1,.l [.bsh N 0 n' k]⟩),(N,⟨t2,.r ys 0⟩),(a,⟨t2,.l []⟩)]) (tk2':= []) (res2:=res)
  (by simp[AV.rens,AV.ren,hs,AV.rens_id Nh hm]) (by simp[eK,hs,aR,A5.ren,AV.rens,AV.ren]) (by simp[eK,hs,aR,a4,A5.ren,AV.rens,AV.ren]) U (AV.ren_id res hr)
 exact jr (bxi:= [(q,⟨t1,.l [.bsh a 0 n k]⟩),(a,⟨t2,.r xs 0⟩)]) [N] hg hd a0 ho a1 h2 (.of_pub ha) (.cons hb U fS (.cons T U fS .nil)) (by simp[hf]) (by simp[dV,keys,hx]) U (by simp[AV.mentsIn_iv,AV.mentsIn,AV.mentIn,keys]) (jw res hr) h
end
end Go.Abs
namespace Go.Abs
variable [Dr]
open Go.RowKit (Below)
variable {P:Program}{c:C7}{st:St}
inductive Tk (a b:Nat):AV->AV->Prop
 |same {v:AV}:Tk a b v v
 |row {es:List (List IV)}:Tk a b (.row a es) (.row b es)
 |agg {l l':List AV} (hl:l'.length=l.length) (h: ∀(i:Nat) (x y:AV),l[i]?=some x->l'[i]?=some y->Tk a b x y):Tk a b (.agg l) (.agg l')
inductive I0 (a b:Nat):List AV->List AV->Prop
 |nil:I0 a b [] []
 |cons {v v':AV} {l l':List AV} (h:Tk a b v v') (t:I0 a b l l'):I0 a b (v::l) (v'::l')
section
variable {E:B9}{Q:Exit->Act->World->Prop}{X:Act->World->Prop}{a d q:Nat}{args:Array Operand}{Nh as1 cs l l':List AV}{ats:Array TypeId}{b b' bj:A5}{bx:List (Nat×A5)}{f:FuncId}{gs:aw}{o:Oper}{ops:Array Oper}{res:AV}{rest:List Oper}{t:C9}{tk:List (Nat×C9)}
def I0.get{b:Nat}(h:I0 a b l l'):l'.length=l.length/\ ∀(i:Nat) (v:AV),l'[i]?=some v-> ∃v0,l[i]?=some v0/\Tk a b v0 v:=by
 induction h with
 |nil=>exact⟨rfl,fun i v h=>by simp at h⟩
 |cons h _ ih=>
  refine⟨by simp[ih.1],fun i v T=> ?_⟩;cases i with
  |zero=>simp at T;subst T;exact⟨_,rfl,h⟩
  |succ i=>exact ih.2 i v (by simpa using T)
def Tk.rep{b:Nat}(he:E.η b=E.η a){w:World}{v v':AV}(h:Tk a b v v'): ∀{u:Value},A6 E w v u->A6 E w v' u:=by
 induction h with
 |same=>exact fun hu=>hu
 |row=>
  intro u hu;cases hu with
  |row hu h=>exact .row (by rw[he];exact hu) h
 |agg hl h ih=>
  intro u hu;cases hu with
  |agg T h1 hr=>
   refine .agg (by rw[T,hl]) h1 (fun i x y hx hy=> ?_);have hi:=(gS hx).1;rw[hl] at hi;exact ih i _ x (gG hi) hx (hr i _ y (gG hi) hy)
def C4.recs{w:World}(hh:C4 c E bx tk w){j:Nat}{bj:A5}{cs:List AV}(hj:bx.lookup j=some bj)(T:bj.cs≠ [])
 (hl:cs.length=bj.cs.length) (h: ∀(i:Nat) (v:AV),cs[i]?=some v-> ∃v0,bj.cs[i]?=some v0/\ ∀u,A6 E w v0 u->A6 E w v u):C4 c E ((j,⟨bj.ty,.l cs⟩)::bx) tk w:=by
 refine hh.reBox hj T (fun hn=> ?_);obtain⟨g0,arr,ha,ad,h1,hr,ar⟩:=hh.box j bj hj T;refine⟨g0,arr,ha,by simpa[hl] using ad,h1,fun i x u hx hu=> ?_,ar⟩;obtain⟨v0,aR,a0⟩:=h i x hx;exact a0 u (hr i v0 u aR hu)
def CE(a b:Nat)(ht:st.tk.lookup a=some t)(hf:st.fresh b=true)(ar:c.ins.contains b=false){E:B9}{aR:Act}{w:World}(hi:Inv c E st aR w):
 ∃E':B9,Inv c E' ⟨st.fr,st.bx,(b,t)::delTok a st.tk⟩ aR w/\E'.η b=E'.η a:=by
 have a1:a≠b:=St.fresh_tk hf ht;have mono: ∀(v:AV) (u:Value),AV.ment b v=false->A6 E w v u->A6 ⟨E.φ,E.ρ,fun i=>if i=b then E.η a else E.η i⟩ w v u:=fun v u hm hr=>
  hr.mono (E:=E) (E':=⟨E.φ,E.ρ,fun i=>if i=b then E.η a else E.η i⟩) (fun _ _ _=>rfl) (fun _=>Nat.le_refl _) (fun i a0=>⟨rfl,by
    have:i≠b:=fun e=>by subst e;rw[hm] at a0;cases a0
    simp[this]⟩)
 have hh:C4 c ⟨E.φ,E.ρ,fun i=>if i=b then E.η a else E.η i⟩ st.bx st.tk w:=hi.heap.reEta
  (fun i bb h0 k v u hv hr=>mono v u (bA (St.fresh_bx hf h0).2 k v hv) hr)
  (fun j t' hj=>by simp only[if_neg (St.fresh_tk hf hj)])
  (fun id ad=>by
    have:id≠b:=fun e=>by subst e;simp at ar;exact ar ad
    simp only[if_neg this])
  (fun i bb h0=>by simp only[if_neg (St.fresh_bx hf h0).1])
 have a2:C4 c ⟨E.φ,E.ρ,fun i=>if i=b then E.η a else E.η i⟩ st.bx (delTok a st.tk) w:=by
  have hw:Wk c st ⟨st.fr,st.bx,delTok a st.tk⟩:=⟨fun id ad=>(hi.heap.ins id ad).2.2,fun s v hv=>⟨v,hv,Sub.refl _⟩,fun id bb hb=>⟨bb,hb,rfl,Subs.refl _⟩,fun id t' T=>by
   simp only at T;rw[iF] at T;split at T
   · cases T
   · exact T⟩
  exact hh.wk (st:=st) (st':=⟨st.fr,st.bx,delTok a st.tk⟩) hw
 refine⟨⟨E.φ,E.ρ,fun i=>if i=b then E.η a else E.η i⟩,⟨hi.defers,hi.size,fun s' v hv=>mono v _ (St.fresh_fr hf hv) (hi.slot s' v hv),?_⟩,by simp[a1]⟩;refine a2.addTok ?_ (fun j t' g hj hl hg=> ?_) (fun i bb hb hn=> ?_) (fun g hg=> ?_)
 · have:=hi.heap.tok a t ht;simp only[Go.Abs.TokOk,if_true] at this|-;exact this
 · rw[iF] at hl;split at hl
   · cases hl
   · rename_i a3;simp only[if_neg hj,if_true] at hg|-;intro a4;exact a3 (hi.heap.tt j a t' t g hl ht hg a4)
 · simp only[if_true];exact hi.heap.bt i a bb t hb hn ht
 · simp only[if_true] at hg;exact hi.heap.ownt a t g ht hg
def Ca(j a b:Nat)(hj:st.bx.lookup j=some bj)(ad:bj.cs≠ [])(ht:st.tk.lookup a=some t)(hf:st.fresh b=true)(ar:c.ins.contains b=false)(hp:I0 a b bj.cs cs)
 (h:L c ⟨st.fr,(j,⟨bj.ty,.l cs⟩)::st.bx,(b,t)::delTok a st.tk⟩ X):L c st X:=by
 rintro aR w ⟨E,hi⟩;obtain⟨E',T,he⟩:=CE a b ht hf ar hi;obtain⟨hl,hg⟩:=hp.get;exact h aR w ⟨E',T.defers,T.size,T.slot,T.heap.recs hj ad hl (fun i v hv=>by
  obtain⟨v0,h0,hq⟩:=hg i v hv;exact⟨v0,h0,fun u hu=>hq.rep he hu⟩)⟩
inductive Ad (id:Nat):AV->AV->Prop
 |same {v:AV}:Ad id v v
 |here:Ad id .nils (.row id [])
inductive H9 (id:Nat):List AV->List AV->Prop
 |nil:H9 id [] []
 |cons {v v':AV} {l l':List AV} (h:Ad id v v') (t:H9 id l l'):H9 id (v::l) (v'::l')
def H9.get{id:Nat}(h:H9 id l l'):l'.length=l.length/\ ∀(i:Nat) (v:AV),l'[i]?=some v-> ∃v0,l[i]?=some v0/\Ad id v0 v:=by
 induction h with
 |nil=>exact⟨rfl,fun i v h=>by simp at h⟩
 |cons h _ ih=>
  refine⟨by simp[ih.1],fun i v T=> ?_⟩;cases i with
  |zero=>simp at T;subst T;exact⟨_,rfl,h⟩
  |succ i=>exact ih.2 i v (by simpa using T)
def DJ(id:Nat)(t:TypeId)(k:Nat)(hf:st.fresh id=true)(T:c.ins.contains id=false){E:B9}{a:Act}{w:World}(hi:Inv c E st a w):
 ∃E':B9,Inv c E' ⟨st.fr,st.bx,(id,⟨t,k⟩)::st.tk⟩ a w/\E'.η id= .slice none 0 0:=by
 have mono: ∀(v:AV) (u:Value),AV.ment id v=false->A6 E w v u->A6 ⟨E.φ,E.ρ,fun i=>if i=id then .slice none 0 0 else E.η i⟩ w v u:=fun v u hm hr=>
  hr.mono (E:=E) (E':=⟨E.φ,E.ρ,fun i=>if i=id then .slice none 0 0 else E.η i⟩) (fun _ _ _=>rfl) (fun _=>Nat.le_refl _) (fun i ad=>⟨rfl,by
    have:i≠id:=fun e=>by subst e;rw[hm] at ad;cases ad
    simp[this]⟩)
 have hh:C4 c ⟨E.φ,E.ρ,fun i=>if i=id then .slice none 0 0 else E.η i⟩ st.bx st.tk w:=hi.heap.reEta
  (fun i bb h0 k v u hv hr=>mono v u (bA (St.fresh_bx hf h0).2 k v hv) hr)
  (fun j t' hj=>by simp only[if_neg (St.fresh_tk hf hj)])
  (fun i ar=>by
    have:i≠id:=fun e=>by subst e;simp at T;exact T ar
    simp only[if_neg this])
  (fun i bb h0=>by simp only[if_neg (St.fresh_bx hf h0).1])
 refine⟨⟨E.φ,E.ρ,fun i=>if i=id then .slice none 0 0 else E.η i⟩,⟨hi.defers,hi.size,fun s' v hv=>mono v _ (St.fresh_fr hf hv) (hi.slot s' v hv),?_⟩,by simp⟩;exact hh.addTok (.inl sP) (fun j t' g hj hl hg=>by simp[Value.ownBlock]) (fun i b hb hn=>by simp[Value.ownBlock]) (fun g hg=>by simp[Value.ownBlock] at hg)
def L.adoptB(j id:Nat)(t:TypeId)(k:Nat)(hj:st.bx.lookup j=some bj)(ad:bj.cs≠ [])(hf:st.fresh id=true)(ar:c.ins.contains id=false)(hp:H9 id bj.cs cs)
 (h:L c ⟨st.fr,(j,⟨bj.ty,.l cs⟩)::st.bx,(id,⟨t,k⟩)::st.tk⟩ X):L c st X:=by
 rintro aR w ⟨E,hi⟩;obtain⟨E',T,he⟩:=DJ id t k hf ar hi;obtain⟨hl,hg⟩:=hp.get;exact h aR w ⟨E',T.defers,T.size,T.slot,T.heap.recs hj ad hl (fun i v hv=>by
  obtain⟨v0,h0,hq⟩:=hg i v hv;refine⟨v0,h0,fun u hu=> ?_⟩;cases hq with
  |same=>exact hu
  |here=>cases hu;exact .row (by rw[he]) .nil)⟩
def A5.ren_id{π:Nat->Nat}(h:AV.mentsIn [] b.cs=true):b.ren π=b:=by
 obtain⟨ty,T⟩:=b;cases T with
 |l cs=>simp only[A5.cs_l] at h;simp only[A5.ren];rw[AV.rens_id cs h]
 |r xs m=>rfl
def Cb(N:List Nat){o:Oper}{ops:Array Oper}{rest:List Oper}{Q:Exit->Act->World->Prop}{f:FuncId}{args:Array Operand}{ats:Array TypeId}{Nh:List AV}{bxi T:List (Nat×A5)}{ad:List (Nat×C9)}{res:AV}{d:Nat}(hg:o.guard=none)(hd:o.dst=some d)(aR:Nat.ble (d+1) c.nt=true)(hG:Glob gs c.E0 c.w0)
 (ho:o.op= .call {callee:= .value (.func f),args:=args,argTypes:=ats}) (a0:dP P f=true) (hc:CallG gs P f Nh bxi T ad res) (ha:Subs (args.toList.map st.ev) Nh) (a1:E3 st.bx bxi)
 (hN:N.all (fun id=>st.fresh id)=true) (a2:dV N bxi T=true) (a3:(keys ad).all (fun id=>N.contains id)=true)
 (a4:T.all (fun p=>AV.mentsIn (N++keys bxi) p.2.cs)=true) (a5:AV.mentIn (N++keys bxi) res=true)
 (h:L c ⟨(d,res)::st.fr,T++st.bx,ad++st.tk⟩ (wpList P ops Q rest)):L c st (wpList P ops Q (o::rest)):=
 mY N hg hd aR hG (fun E a w hi=>⟨args.toList.map a.eval,by
  have ar:(args.toList.map a.eval).toArray=args.map a.eval:=by apply Array.ext';simp
  rw[ar];simp[execOp,ho,resolve,Deferred.ofValue,Act.eval,invoke,eJ a0],(hi.evs args).sub ha⟩) hc a1 hN a2 a3 a4 a5 h
def L.callG1(hg:o.guard=none)(hd:o.dst=some d)(ad:Nat.ble (d+1) c.nt=true)(ho:o.op= .call {callee:= .value (.func f),args:=args,argTypes:=ats})(ar:dP P f=true)
 (hG:Glob gs c.E0 c.w0) (hc:CallG gs P f as1 [(1000,b)] [(1000,b')] [] res) (ha:AV.pub.pubs (args.toList.map st.ev)=Nh) (h1:AV.rens (Abs.sws [(1000,q)]) as1=Nh) (hb:st.bx.lookup q=some b) (aR:b.cs.isEmpty=false) (hm:AV.mentsIn [] b.cs=true) (T:AV.mentsIn [] b'.cs=true) (hr:AV.mentIn [] res=true)
 (h:L c ⟨(d,res)::st.fr,(q,b')::st.bx,st.tk⟩ (wpList P ops Q rest)):L c st (wpList P ops Q (o::rest)):=by
 have hs:Abs.sws [(1000,q)] 1000=q:=iV _ _ _;have h2:=hc.sws [(1000,q)] h1 (bx2:= [(q,b)]) (bx2':= [(q,b')]) (tk2':= []) (res2:=res) (by simp[eK,hs,A5.ren_id hm]) (by simp[eK,hs,A5.ren_id T]) U (AV.ren_id res hr);exact Cb (bxi:= [(q,b)]) [] hg hd ad hG ho ar h2 (.of_pub ha) (.cons hb U fS .nil) U (by simp[dV,keys,aR]) U (by simp[fI _ T]) (jw _ hr) h
def CallG.at1(hc:CallG gs P f as1 [(1000,b)] [(1000,b')] [] res)(h1:AV.rens (Abs.sws [(1000,q)]) as1=Nh)(hm:AV.mentsIn [] b.cs=true)(T:AV.mentsIn [] b'.cs=true)(hr:AV.mentIn [] res=true):
 CallG gs P f Nh [(q,b)] [(q,b')] [] res:=by
 have hs:Abs.sws [(1000,q)] 1000=q:=iV _ _ _;exact hc.sws [(1000,q)] h1 (by simp[eK,hs,A5.ren_id hm]) (by simp[eK,hs,A5.ren_id T]) U (AV.ren_id res hr)
def L.callQ1(hg:o.guard=none)(hd:o.dst=some d)(T:Nat.ble (d+1) c.nt=true)(ho:o.op= .call {callee:= .value (.func f),args:=args,argTypes:=ats})(ad:dP P f=true)
 (hG:Glob gs c.E0 c.w0) (hc:CallG gs P f Nh [(q,b)] [(q,b')] [] res) (ha:AV.pub.pubs (args.toList.map st.ev)=Nh) (hb:st.bx.lookup q=some b) (ar:b.cs.isEmpty=false) (aR:AV.mentsIn [] b'.cs=true) (hr:AV.mentIn [] res=true)
 (h:L c ⟨(d,res)::st.fr,(q,b')::st.bx,st.tk⟩ (wpList P ops Q rest)):L c st (wpList P ops Q (o::rest)):=
 Cb (bxi:= [(q,b)]) [] hg hd T hG ho ad hc (.of_pub ha) (.cons hb U fS .nil) U (by simp[dV,keys,ar]) U (by simp[fI _ aR]) (jw _ hr) h
def Wk.mkX{fr:List (Nat×AV)}(h0: ∀id∈c.ins,(bx.lookup id).isSome=true)(h1:E6 st.fr fr)(h2: ∀s v,bx.lookup s=some v->st.bx.lookup s=some v)(h3:F9 st.tk tk):Wk c st ⟨fr,bx,tk⟩:=
 ⟨h0,h1.get,fun s v T=>⟨v,h2 s v T,rfl,Subs.refl _⟩,h3.get⟩
def ax: ∀id∈keys bx,(bx.lookup id).isSome=true:=fun id T=>by
 obtain⟨b,hb⟩:=it T;rw[hb];rfl
def dZ{bx':List (Nat×A5)}{s:Nat}{v:A5}(h:bx.lookup s=some v):(bx++bx').lookup s=some v:=by
 rw[List.lookup_append,h];rfl
end
end Go.Abs
