/- Several texts in one, each with its own sentence ahead of it. Conditions: each one says its own. -/
import Derived.Test.YthcjohcakdnmmaaGreatDoorZS9
set_option linter.all false
namespace Go.Abs
variable [Dr]
set_option linter.unusedSectionVars false
open Go.RowKit (Below)
set_option linter.unusedVariables false
set_option linter.unusedSimpArgs false
mutual
theorem mentIn_mono{l:List Nat}: ∀(v:AV),AV.mentIn [] v=true→AV.mentIn l v=true
 | .any,_=>rfl
 | .iv _,_=>rfl
 | .nils,_=>rfl
 | .emp,_=>rfl
 | .el _,_=>rfl
 | .row i _,h=>by simp[AV.mentIn] at h
 | .ptr i _,h=>by simp[AV.mentIn] at h
 | .bsl i _ _ _,h=>by simp[AV.mentIn] at h
 | .bsh i _ _ _,h=>by simp[AV.mentIn] at h
 | .agg cs,h=>by simp only[AV.mentIn] at h⊢;exact mentsIn_mono cs h
 | .tup cs,h=>by simp only[AV.mentIn] at h⊢;exact mentsIn_mono cs h
 | .fn _ cs,h=>by simp only[AV.mentIn] at h⊢;exact mentsIn_mono cs h
 | .opt _ v,h=>by simp only[AV.mentIn] at h⊢;exact mentIn_mono v h
theorem mentsIn_mono{l:List Nat}: ∀(vs:List AV),AV.mentsIn [] vs=true→AV.mentsIn l vs=true
 | [],_=>rfl
 |v::vs,h=>by
  simp only[AV.mentsIn,Bool.and_eq_true] at h⊢
  exact⟨mentIn_mono v h.1,mentsIn_mono vs h.2⟩
end
section
variable {P:Program}{c:Ctx}{st:St}{ops:Array Oper}{Q:Exit→Act→World→Prop}{rest:List Oper}{o:Oper}
theorem Yields.capNil{t:TypeId}{x:Operand}(ho:o.op= .call {callee:= .builtin .cap,args:= #[x],argTypes:= #[t]}){e:TypeId}{k:Nat}(hs:sliceOk P t e k=true)(hx:st.ev x= .nils):Yields P c st o (aI 0):=
 .im rfl fun E a w hi=>by
   obtain⟨hu,_⟩:=sliceOk_run hs
   have h:=hi.ev x;rw[hx] at h
   have hq:a.eval x= .slice none 0 0:=by generalize a.eval x=u at h;cases h;rfl
   simp[execOp,ho,resolve,invoke,builtin,hq,Builtin.cap_,run_underlying hu,goInt]
theorem Yields.slNil{x y:Operand}{t e:TypeId}{k:Nat}{kd:IntKind}{j:Int}(ho:o.op= .slice t x none (some y) none)(hx:st.ev x= .nils)(hy:st.ev y= .iv (.im (.int kd j)))(hs:sliceOk P t e k=true)(h0:j=0):Yields P c st o .nils:=fun E a w hi=>by
 obtain⟨hu,hz⟩:=sl_facts hs w
 have h:=hi.ev x;rw[hx] at h
 have hq:a.eval x= .slice none 0 0:=by generalize a.eval x=u at h;cases h;rfl
 refine⟨_,?_,.nils⟩
 subst h0
 have:=run_slice_h (P:=P) w t none 0 0 hu kd 0 (by omega) (by omega)
 simp[execOp,ho,hq,hi.im hy,run_sliceAt_slice w t _ _ _ _ hu,this,hz,Result.andThen,sliced]
theorem Yields.slBshH{x y:Operand}{t e:TypeId}{k id n:Nat}{kd:IntKind}{j:Int}(ho:o.op= .slice t x none (some y) none)(hx:st.ev x= .bsh id 0 n k)(hy:st.ev y= .iv (.im (.int kd j)))(hs:sliceOk P t e k=true)
 (h0:0≤j) (h1:j≤n):Yields P c st o (.bsh id 0 j.toNat k):=fun E a w hi=>by
 obtain⟨hu,hz⟩:=sl_facts hs w
 have h:=hi.ev x;rw[hx] at h
 obtain⟨cap,o',hq,hn,hm,he,hoo⟩:=h.bsh_inv
 simp only[Nat.sub_zero,Nat.zero_mul,Nat.zero_add] at hq hn hoo
 have:=run_slice_h (P:=P) w t (some ⟨E.ρ id,o',none⟩) n cap hu kd j h0 (by omega)
 have hs2:sliced (some ⟨E.ρ id,o',none⟩) 0 j.toNat cap k= .slice (some ⟨E.ρ id,o',none⟩) j.toNat cap:=by
  unfold sliced
  by_cases e:cap=0
  · rw[if_pos e]
    have:j.toNat=0:=by omega
    simp[this,e]
  · rw[if_neg e];simp[Addr.add_none]
 refine⟨.slice (some ⟨E.ρ id,o',none⟩) j.toNat cap,?_,.bsh (cap:=cap) (o:=o') (by omega) hm he (fun h=>by simpa using hoo (by omega)) (by simp)⟩
 simp[execOp,ho,hq,hi.im hy,run_sliceAt_slice w t _ _ _ _ hu,this,hz,Result.andThen,hs2]
theorem Makes.growNZ{t t' e:TypeId}{kd kd':IntKind}{x y:Operand}{m:Nat}{id' k bytes:Nat}{i:TypeInfo}{z:Value}
 (ho:o.op= .call {callee:= .builtin .append,args:= #[x,y],argTypes:= #[t,t']}) (ht:P.underlying t=some (.slice e)) (hi0:P.info? e=some i) (hik:i.size=k) (hib:i.bytes=bytes) (hiz:i.zero=some z) (hzk:z.cells.size=k) (hz1: ∀u∈z.cells.toList,u.oneCell'=true)
 (hd:P.underlying t'=some (.int kd)) (hk0:0<k) (hx:st.ev x= .nils) (hy:st.ev y= .iv (.im (.int kd' (m:Int)))) (hpos:0<m)
 (hm:m≤maxLen) (hby:m*bytes≤140737488355328) (hf:st.fresh id'=true):
 Makes P c st o (.bsh id' 0 m k) ((id',⟨e,.r [] (m*k)⟩)::st.bx) st.tk:=fun E a w hi=>by
 subst hik;subst hib
 have hyq:=hi.im hy
 have h:=hi.ev x;rw[hx] at h
 have hq:a.eval x= .slice none 0 0:=by generalize a.eval x=u at h;cases h;rfl
 have hexec:(execOp a.eval o).run P w=((Builtin.append_ #[t,t'] o.type #[a.eval x,a.eval y]).run P w).andThen fun v w'=> .ok (.value v) w':=by
  simp[execOp,ho,resolve,invoke,builtin]
 have hrun:=Lib.run_append_grow_zeros w t t' o.type e i z kd' kd ht hd hi0 hiz none 0 0 [] (by simp[Builtin.firstCells]) m hpos hk0 (by omega) (by simp only[maxLen] at hm;omega) (by omega) (growslice_fits (by omega) (by simpa using hby))
 simp only[Nat.zero_add] at hrun
 have hge:m≤grownCap w m 0 e:=grownCap_ge _ _ _ _
 have hcm:=grownCap_le_maxLen w m 0 e hm
 have hlen:((Builtin.zeroCells z.cells m).toList++(Builtin.zeroCells z.cells (grownCap w m 0 e - m)).toList).length=grownCap w m 0 e*i.size:=by
  simp only[List.length_append,Array.length_toList,size_zeroCells,hzk]
  rw[←Nat.add_mul];congr 1;omega
 have hul:(Builtin.zeroCells z.cells m).toList.length=m*i.size:=by rw[Array.length_toList,size_zeroCells,hzk]
 have hz0: ∀(q:Nat) (u:Value),u∈(Builtin.zeroCells z.cells q).toList→u.oneCell'=true:=fun q u hu=>by
  simp only[Builtin.zeroCells,Array.toList_map,Array.toList_range,List.mem_map,List.mem_range] at hu
  obtain⟨p,_,rfl⟩:=hu
  have hlt:p % z.cells.size<z.cells.size:=Nat.mod_lt _ (by rw[hzk];exact hk0)
  rw[getElem!_pos z.cells _ hlt]
  exact hz1 _ (by simp)
 have hi':=hi.drew.newRoom hf (ty:=e) (cs:=List.replicate (m*i.size) AV.any) (us:=(Builtin.zeroCells z.cells m).toList++(Builtin.zeroCells z.cells (grownCap w m 0 e - m)).toList) (capV i.size (grownCap w m 0 e))
  (by rw[hlen,List.length_replicate];exact Nat.mul_le_mul_right _ hge)
  (fun p x u hx hu=>by
    simp only[List.getElem?_replicate] at hx
    split at hx
    · cases hx;exact .any
    · cases hx)
  (fun u hu=>by
    rcases List.mem_append.1 hu with hu|hu
    · exact hz0 _ u hu
    · exact hz0 _ u hu)
  (ments_any _ _) (fun k' cap' he=>by
    obtain⟨rfl,rfl⟩:=capV_inj he
    exact Nat.le_of_eq hlen.symm)
 refine⟨_,_,_,?_,hi'.recell (b':=⟨e,.r [] (m*i.size)⟩) rfl (Subs.of_eq (by simp)),.bsh (cap:=grownCap w m 0 e) (o:=0) (by omega) hcm (by simp[Env.upd]) (fun _=>by simp) rfl⟩
 rw[hexec,hq,hyq,hrun]
 simp[Env.upd]
 congr 2
 apply Array.ext'
 simp
theorem L.appendH(N:Nat){t t' e:TypeId}{dd:TypeDesc}{x y:Operand}{id k bytes d:Nat}{i:TypeInfo}{z:Value}{n mm:Nat}{es news:List (List IV)}(hg:o.guard=none)(hdst:o.dst=some d)(hlt:Nat.ble (d+1) c.nt=true)
 (ho:o.op= .call {callee:= .builtin .append,args:= #[x,y],argTypes:= #[t,t']}) (ht:P.underlying t=some (.slice e)) (hi0:P.info? e=some i) (hik:i.size=k) (hib:i.bytes=bytes) (hiz:i.zero=some z) (hzk:z.cells.size=k) (hz1: ∀u∈z.cells.toList,u.oneCell'=true)
 (hd:P.underlying t'=some dd) (hn:notInt dd) (hk0:0<k) (hx:st.ev x= .bsh id 0 n k) (hb:st.bx.lookup id=some ⟨e,.r es.flatten mm⟩) (hbn:es.flatten≠ [] ∨0<mm) (hk: ∀e∈es,e.length=k) (hnle:n≤es.length) (hnk: ∀e∈news,e.length=k) (hy:Adds P c st y k news) (hne:news≠ [])
 (hm:n+news.length≤maxLen) (hby:(n+news.length)*bytes≤140737488355328) (hf:st.fresh N=true)
 (h:L c ⟨(d,.bsh N 0 (n+news.length) k)::st.fr,(N,⟨e,.r (es.take n++news).flatten 0⟩)::(id,⟨e,.l []⟩)::st.bx,st.tk⟩ (wpList P ops Q rest)):L c st (wpList P ops Q (o::rest)):=by
 subst hik;subst hib
 rintro a w ⟨E,hi⟩
 have hbn':=row_ne (bt:=e) hbn
 have hne':id≠N:=(St.fresh_bx hf hb).1
 have hv:=hi.ev x;rw[hx] at hv
 obtain⟨cap,o',hq,hn1,hmx,he,hoo⟩:=hv.bsh_inv
 simp only[Nat.sub_zero,Nat.zero_mul,Nat.zero_add] at hq hn1 hoo
 have hfl:=flatten_len es hk
 have hnl:=flatten_len news hnk
 have hpos:0<news.length:=List.length_pos_iff.2 hne
 have htl:((es.take n).flatten).length=n*i.size:=by rw[flatten_len _ (mem_take_len hk),List.length_take];congr 1;omega
 have hkr: ∀e∈es.take n++news,e.length=i.size:=fun e he=>by
  rcases List.mem_append.1 he with h|h
  · exact hk e (List.mem_of_mem_take h)
  · exact hnk e h
 have hrl:(es.take n++news).length=n+news.length:=by simp;omega
 have hrf:(es.take n++news).flatten.length=(n+news.length)*i.size:=by rw[flatten_len _ hkr,hrl]
 by_cases hroom:n+news.length≤cap
 ·
  have hoe:o'=0:=hoo (by omega)
  subst hoe
  obtain⟨us,hsrc,hul,h1u,hur⟩:=hy E a w hi
  obtain⟨h0,arr,ha,hla,h1,hra,hη⟩:=hi.heap.box id _ hb hbn'
  have hcap:=hη i.size cap he
  have hmul:(n+news.length)*i.size≤cap*i.size:=Nat.mul_le_mul_right _ hroom
  rw[Nat.add_mul] at hmul
  have hap:=app_room2 (ty:=o.type) ht hd hn hi0 hsrc.1 hsrc.2.1 ha h1u hroom (n:=n) (by rw[hul];simp;omega)
  have hrun:(execOp a.eval o).run P w= .ok (.value (.slice (some ⟨E.ρ id,0,none⟩) (n+news.length) cap)) (w.setRow (E.ρ id) ((arr.take (n*i.size)++us++arr.drop (n*i.size+us.length)).toArray)):=by
   simp[execOp,ho,resolve,invoke,builtin,hq,hap]
  have hrel:RelL E w ((es.take n++news).flatten.map .iv++List.replicate (arr.length - (n+news.length)*i.size) .any) (arr.take (n*i.size)++us++arr.drop (n*i.size+us.length)):=by
   refine⟨by simp only[List.length_append,List.length_map,List.length_replicate,List.length_take,List.length_drop,hrf,hul,Nat.add_mul];omega,fun p x u hxp hup=> ?_⟩
   rw[List.getElem?_append] at hxp
   split at hxp
   · rename_i hlt'
     rw[List.length_map,hrf,Nat.add_mul] at hlt'
     rw[List.getElem?_map,Option.map_eq_some_iff] at hxp
     obtain⟨y0,hy0,rfl⟩:=hxp
     rw[List.flatten_append,List.getElem?_append,htl] at hy0
     rw[List.append_assoc,List.getElem?_append,List.length_take] at hup
     by_cases hp:p<n*i.size
     · rw[if_pos hp] at hy0
       rw[if_pos (by omega),List.getElem?_take,if_pos hp] at hup
       refine hra p _ u ?_ hup
       rw[←flat_take es n hk,List.getElem?_take,if_pos hp] at hy0
       simp only[Box.cs_r]
       rw[List.getElem?_append_left (by rw[List.length_map];exact(List.getElem?_eq_some_iff.1 hy0).1),List.getElem?_map,hy0];rfl
     · rw[if_neg hp] at hy0
       rw[if_neg (by omega)] at hup
       have:min (n*i.size) arr.length=n*i.size:=by omega
       rw[this,List.getElem?_append_left (by rw[hul];omega)] at hup
       obtain⟨e',h2,h3⟩:=flatten_get hk0 news _ y0 hnk hy0
       have hpp:(p - n*i.size) / i.size*i.size+(p - n*i.size) % i.size=p - n*i.size:=by rw[Nat.mul_comm];exact Nat.div_add_mod _ _
       exact .iv (hur _ e' _ y0 u h2 h3 (by rw[hpp];exact hup))
   · simp only[List.getElem?_replicate] at hxp
     split at hxp
     · cases hxp;exact .any
     · cases hxp
  have hus1: ∀u∈arr.take (n*i.size)++us++arr.drop (n*i.size+us.length),u.oneCell'=true:=fun u hu=>by
   rcases List.mem_append.1 hu with hu|hu
   · rcases List.mem_append.1 hu with hu|hu
     · exact h1 u (List.mem_of_mem_take hu)
     · exact h1u u hu
   · exact h1 u (List.mem_of_mem_drop hu)
  have husl:(arr.take (n*i.size)++us++arr.drop (n*i.size+us.length)).length=arr.length:=by
   simp only[List.length_append,List.length_take,List.length_drop,hul];omega
  have hi2:=(hi.setBox hb hbn' (arr:=arr) (rest:= []) (by simpa using ha) (by simp) husl hrel hus1).recell (b':=⟨e,.r (es.take n++news).flatten (arr.length - (n+news.length)*i.size)⟩) rfl (Subs.of_eq rfl)
  rw[List.append_nil] at hi2
  refine wpList_plain hg (fun K hK=>Oper.wp_value hrun (hK _ _ ?_))
  rw[hdst]
  have hXn:(es.take n++news).flatten≠ []:=fun e0=>by
   rw[e0] at hrf
   have:0<(n+news.length)*i.size:=Nat.mul_pos (by omega) hk0
   simp at hrf;omega
  have hL:L c ⟨(d,.bsl id 0 (n+news.length) cap)::st.fr,(id,⟨e,.r (es.take n++news).flatten (arr.length - (n+news.length)*i.size)⟩)::st.bx,st.tk⟩ (wpList P ops Q rest):=by
   refine L.rename d N i.size lookup_cons_eq lookup_cons_eq ?_ (.inl hXn) (by rw[hrf,Nat.add_mul];omega) ?_
   · simp only[St.fresh,List.all_cons,AV.ment,Box.ment] at hf⊢
     simp only[Bool.and_eq_true] at hf⊢
     have e1:(id==N)=false:=by simpa using hne'
     have e2:(id !=N)=true:=by simpa using hne'
     simp[e1,e2,hf.1.1,hf.1.2,hf.2]
   refine L.wk (st':=⟨(d,.bsh N 0 (n+news.length) i.size)::st.fr,(N,⟨e,.r (es.take n++news).flatten 0⟩)::(id,⟨e,.l []⟩)::st.bx,st.tk⟩) ⟨fun i hin=> ?_,fun s v hs=> ?_,fun i b hi=> ?_,fun i t h=>h⟩ h
   · have h3:=(hi2.heap.ins i hin).2.2
     simp only at h3⊢
     by_cases e1:i=N
     · subst e1;rw[lookup_cons_eq];rfl
     · rw[lookup_cons_ne e1]
       by_cases e2:i=id
       · subst e2;rw[lookup_cons_eq];rfl
       · rw[lookup_cons_ne e2] at h3⊢;exact h3
   · simp only at hs⊢
     by_cases e1:s=d
     · subst e1;rw[lookup_cons_eq] at hs⊢;exact⟨v,hs,Sub.refl _⟩
     · rw[lookup_cons_ne e1] at hs;rw[lookup_cons_ne e1,lookup_cons_ne e1];exact⟨v,hs,Sub.refl _⟩
   · simp only at hi⊢
     by_cases e1:i=N
     · subst e1;rw[lookup_cons_eq] at hi⊢;cases hi
       exact⟨_,rfl,rfl,Subs.of_eq (by rw[Box.cs_r,Box.cs_r,List.take_of_length_le (by rw[hrf];exact Nat.le_refl _)])⟩
     · rw[lookup_cons_ne e1] at hi⊢
       by_cases e2:i=id
       · subst e2;rw[lookup_cons_eq] at hi⊢;exact⟨b,hi,rfl,Subs.refl _⟩
       · rw[lookup_cons_ne e2] at hi;rw[lookup_cons_ne e2,lookup_cons_ne e2];exact⟨b,hi,rfl,Subs.refl _⟩
  exact hL _ _ ⟨E,hi2.put (st:=⟨st.fr,_,st.tk⟩) (Nat.le_of_ble_eq_true hlt) (.bsl (o:=0) hroom hmx (fun _=>rfl) rfl)⟩
 ·
  have hold:(((⟨e,.r es.flatten mm⟩:Box).cs.drop 0).take (n*i.size))=(es.take n).flatten.map AV.iv:=by
   simp only[Box.cs_r,List.drop_zero]
   have:n*i.size≤es.length*i.size:=Nat.mul_le_mul_right _ hnle
   rw[List.take_append_of_le_length (by rw[List.length_map,hfl];exact this),←List.map_take,flat_take es n hk]
  obtain⟨u,E',w',hrun,hi2,hu⟩:=growB_core (c:=c) hi ho ht hi0 rfl rfl hiz hzk hz1 hd hn hk0 hq hoo hn1 hb hold (by rw[List.length_map,htl]) (by omega) hnk hy hne hm hby hf rfl (ments_iv _ _) (ments_iv _ _)
  have hi3:=hi2.recell (b':=⟨e,.r (es.take n++news).flatten 0⟩) rfl (Subs.of_eq (by simp))
  refine wpList_plain hg (fun K hK=>Oper.wp_value hrun (hK _ _ ?_))
  rw[hdst]
  have hL:L c ⟨(d,.bsh N 0 (n+news.length) i.size)::st.fr,(N,⟨e,.r (es.take n++news).flatten 0⟩)::st.bx,st.tk⟩ (wpList P ops Q rest):=by
   refine L.kill id (b:=⟨e,.r es.flatten mm⟩) (by simp only;rw[lookup_cons_ne hne'];exact hb) hbn' ?_
   refine L.wk (st':=⟨(d,.bsh N 0 (n+news.length) i.size)::st.fr,(N,⟨e,.r (es.take n++news).flatten 0⟩)::(id,⟨e,.l []⟩)::st.bx,st.tk⟩) ⟨fun i hin=> ?_,fun s v hs=>⟨v,hs,Sub.refl _⟩,fun i b hi=> ?_,fun i t h=>h⟩ h
   · have h3:=(hi3.heap.ins i hin).2.2
     simp only at h3⊢
     by_cases e1:i=N
     · subst e1;rw[lookup_cons_eq];rfl
     · rw[lookup_cons_ne e1] at h3⊢
       by_cases e2:i=id
       · subst e2;rw[lookup_cons_eq];rfl
       · rw[lookup_cons_ne e2];exact h3
   · simp only at hi⊢
     by_cases e1:i=N
     · subst e1;rw[lookup_cons_eq] at hi;rw[lookup_cons_ne (Ne.symm hne'),lookup_cons_eq];exact⟨b,hi,rfl,Subs.refl _⟩
     · rw[lookup_cons_ne e1] at hi
       by_cases e2:i=id
       · subst e2;rw[lookup_cons_eq] at hi⊢;exact⟨b,hi,rfl,Subs.refl _⟩
       · rw[lookup_cons_ne e2] at hi;rw[lookup_cons_ne e2,lookup_cons_ne e1];exact⟨b,hi,rfl,Subs.refl _⟩
  exact hL _ _ ⟨E',hi3.put (st:=⟨st.fr,_,st.tk⟩) (Nat.le_of_ble_eq_true hlt) hu⟩
def unr(P:Program)(x:Code)(Q:Exit→Act→World→Prop):Nat→Act→World→Prop
 |0=>fun _ _=>False
 |n+1=>x.wp P (Exit.then (unr P x Q n) Q)
theorem L.unrS{x:Code}{n:Nat}(h:L c st (x.wp P (Exit.then (unr P x Q n) Q))):L c st (unr P x Q (n+1)):=h
theorem L.unroll(n:Nat){x:Code}(h:L c st (unr P x Q n)):L c st ((Code.loop x).wp P Q):=by
 have key: ∀(n:Nat) (a:Act) (w:World),unr P x Q n a w→ ∀(b:Frame) (k:List Item) (cs:List Frame),
  ∃e a' w',Q e a' w'∧Arrives P (lone (b.at a (.code x:: .inLoop x::k)) cs w) b k cs e a' w':=by
  intro n
  induction n with
  |zero=>intro a w h;exact h.elim
  |succ n ih=>
   intro a w hr b k cs
   obtain⟨e,a₁,w₁,hq,harr⟩:=hr b (.inLoop x::k) cs
   cases e with
   |normal=>
    obtain⟨e₂,a₂,w₂,hq₂,harr₂⟩:=ih a₁ w₁ hq b k cs
    exact⟨e₂,a₂,w₂,hq₂,.of_steps (Steps.trans harr (.one step_inLoop)) harr₂⟩
   |exit id=>exact⟨_,a₁,w₁,hq,.pass (x:= .inLoop x) rfl (fun _ _=> .inl (by simp)) harr⟩
   |goto l=>exact⟨_,a₁,w₁,hq,.pass (x:= .inLoop x) rfl (fun _ _=> .inl (by simp)) harr⟩
   |ret=>exact⟨_,a₁,w₁,hq,.pass (x:= .inLoop x) rfl (fun _ _=> .inl (by simp)) harr⟩
   |panic ch=>exact⟨_,a₁,w₁,hq,.pass (x:= .inLoop x) rfl (fun _ _=> .inl (by simp)) harr⟩
   |outgrown=>exact⟨_,a₁,w₁,hq,.pass (x:= .inLoop x) rfl (fun _ _=> .inl (by simp)) harr⟩
 intro a w hr b k cs
 obtain⟨e,a',w',hq,harr⟩:=key n a w (h a w hr) b k cs
 exact⟨e,a',w',hq,.of_steps (.one step_loop) harr⟩
theorem L.call01N{f:FuncId}{args:Array Operand}{ats:Array TypeId}{zas:List AV}{d k n m:Nat}{ty:TypeId}{xs:List IV}(hg:o.guard=none)(hd:o.dst=some d)(hlt:Nat.ble (d+1) c.nt=true)(ho:o.op= .call {callee:= .value (.func f),args:=args,argTypes:=ats})(hok:callOk P f=true)
 (hc:CallA P f zas [] [(1000,⟨ty,.r xs m⟩)] [] (.bsh 1000 0 n k)) (ha:args.toList.map st.ev=zas) (hm:AV.mentsIn [] zas=true) (hf:st.fresh d=true)
 (h:L c ⟨(d,.bsh d 0 n k)::st.fr,(d,⟨ty,.r xs m⟩)::st.bx,st.tk⟩ (wpList P ops Q rest)):L c st (wpList P ops Q (o::rest)):=by
 have hs:Abs.sws [(1000,d)] 1000=d:=sws_hd _ _ _
 have h2:=hc.sws [(1000,d)] (AV.rens_id zas hm) (bx2:= []) (bx2':= [(d,⟨ty,.r xs m⟩)]) (tk2':= []) (res2:= .bsh d 0 n k) rfl (by simp[renB,hs,Box.ren]) rfl (by simp[AV.ren,hs])
 exact L.callN (bxi:= []) [d] hg hd hlt ho hok h2 (ha▸Subs.refl _) .nil (by simp[hf]) (by simp[boOk,keys]) rfl (by simp[AV.mentsIn_iv,AV.mentsIn_app,AV.mentsIn_any]) (by simp[AV.mentIn]) h
theorem L.callJ(N:Nat){f:FuncId}{args:Array Operand}{ats:Array TypeId}{zas:List AV}{d q a k n n':Nat}{t1 t2:TypeId}{xs ys:List IV}{res:AV}(hg:o.guard=none)(hd:o.dst=some d)(hlt:Nat.ble (d+1) c.nt=true)(ho:o.op= .call {callee:= .value (.func f),args:=args,argTypes:=ats})(hok:callOk P f=true)
 (hc:CallA P f (.ptr 1000 0::zas) [(1000,⟨t1,.l [.bsh 1001 0 n k]⟩),(1001,⟨t2,.r xs 0⟩)] [(1000,⟨t1,.l [.bsh 1002 0 n' k]⟩),(1002,⟨t2,.r ys 0⟩),(1001,⟨t2,.l []⟩)] [] res)
 (ha:AV.pub.pubs (args.toList.map st.ev)= .ptr q 0::zas) (hb:st.bx.lookup q=some ⟨t1,.l [.bsh a 0 n k]⟩) (hb2:st.bx.lookup a=some ⟨t2,.r xs 0⟩) (hx:xs≠ []) (hqa:(q==a)=false) (hm:AV.mentsIn [] zas=true) (hr:AV.mentIn [] res=true) (hf:st.fresh N=true)
 (h:L c ⟨(d,res)::st.fr,(q,⟨t1,.l [.bsh N 0 n' k]⟩)::(N,⟨t2,.r ys 0⟩)::(a,⟨t2,.l []⟩)::st.bx,st.tk⟩ (wpList P ops Q rest)):L c st (wpList P ops Q (o::rest)):=by
 have hne:=fresh_ne hf hb
 have hne2:=fresh_ne hf hb2
 have hqa':q≠a:=by simpa using hqa
 have hs:Abs.sws [(1002,N),(1001,a),(1000,q)] 1000=q:=sws_tl (by decide) (sws_tl (by decide) (sws_hd _ _ _) hqa') hne
 have hs1:Abs.sws [(1002,N),(1001,a),(1000,q)] 1001=a:=sws_tl (by decide) (sws_hd _ _ _) hne2
 have hs2:Abs.sws [(1002,N),(1001,a),(1000,q)] 1002=N:=sws_hd _ _ _
 have h2:=hc.sws [(1002,N),(1001,a),(1000,q)] (args2:= .ptr q 0::zas) (bx2:= [(q,⟨t1,.l [.bsh a 0 n k]⟩),(a,⟨t2,.r xs 0⟩)]) (bx2':= [(q,⟨t1,.l [.bsh N 0 n' k]⟩),(N,⟨t2,.r ys 0⟩),(a,⟨t2,.l []⟩)]) (tk2':= []) (res2:=res)
  (by simp[AV.rens,AV.ren,hs,AV.rens_id zas hm]) (by simp[renB,hs,hs1,Box.ren,AV.rens,AV.ren]) (by simp[renB,hs,hs1,hs2,Box.ren,AV.rens,AV.ren]) rfl (AV.ren_id res hr)
 exact L.callN (bxi:= [(q,⟨t1,.l [.bsh a 0 n k]⟩),(a,⟨t2,.r xs 0⟩)]) [N] hg hd hlt ho hok h2 (.of_pub ha) (.cons hb rfl (Subs.refl _) (.cons hb2 rfl (Subs.refl _) .nil)) (by simp[hf]) (by simp[boOk,keys,hx]) rfl (by simp[AV.mentsIn_iv,AV.mentsIn,AV.mentIn,keys]) (mentIn_mono res hr) h
end
end Go.Abs
namespace Go.Abs
variable [Dr]
set_option linter.unusedSectionVars false
open Go.RowKit (Below)
set_option linter.unusedVariables false
set_option linter.unusedSimpArgs false
variable {P:Program}{c:Ctx}{st:St}
inductive Tk (a b:Nat):AV→AV→Prop
 |same {v:AV}:Tk a b v v
 |row {es:List (List IV)}:Tk a b (.row a es) (.row b es)
 |agg {l l':List AV} (hl:l'.length=l.length) (h: ∀(i:Nat) (x y:AV),l[i]?=some x→l'[i]?=some y→Tk a b x y):Tk a b (.agg l) (.agg l')
inductive Tks (a b:Nat):List AV→List AV→Prop
 |nil:Tks a b [] []
 |cons {v v':AV} {l l':List AV} (h:Tk a b v v') (t:Tks a b l l'):Tks a b (v::l) (v'::l')
theorem Tks.get{a b:Nat}{l l':List AV}(h:Tks a b l l'):l'.length=l.length∧ ∀(i:Nat) (v:AV),l'[i]?=some v→ ∃v0,l[i]?=some v0∧Tk a b v0 v:=by
 induction h with
 |nil=>exact⟨rfl,fun i v h=>by simp at h⟩
 |cons h _ ih=>
  refine⟨by simp[ih.1],fun i v hv=> ?_⟩
  cases i with
  |zero=>simp at hv;subst hv;exact⟨_,rfl,h⟩
  |succ i=>exact ih.2 i v (by simpa using hv)
theorem Tk.rep{a b:Nat}{E:Env}(he:E.η b=E.η a){w:World}{v v':AV}(h:Tk a b v v'): ∀{u:Value},RepA E w v u→RepA E w v' u:=by
 induction h with
 |same=>exact fun hu=>hu
 |row=>
  intro u hu
  cases hu with
  |row hu h=>exact .row (by rw[he];exact hu) h
 |agg hl h ih=>
  intro u hu
  cases hu with
  |agg hl2 h1 hr=>
   refine .agg (by rw[hl2,hl]) h1 (fun i x y hx hy=> ?_)
   have hi:=(List.getElem?_eq_some_iff.1 hx).1
   rw[hl] at hi
   exact ih i _ x (List.getElem?_eq_getElem hi) hx (hr i _ y (List.getElem?_eq_getElem hi) hy)
theorem HInv.recs{E:Env}{w:World}{tk:List (Nat×Tok)}{bx:List (Nat×Box)}(hh:HInv c E bx tk w){j:Nat}{bj:Box}{cs:List AV}(hj:bx.lookup j=some bj)(hjn:bj.cs≠ [])
 (hl:cs.length=bj.cs.length) (h: ∀(i:Nat) (v:AV),cs[i]?=some v→ ∃v0,bj.cs[i]?=some v0∧ ∀u,RepA E w v0 u→RepA E w v u):HInv c E ((j,⟨bj.ty,.l cs⟩)::bx) tk w:=by
 refine hh.reBox hj hjn (fun hn=> ?_)
 obtain⟨g0,arr,ha,hla,h1,hr,hη⟩:=hh.box j bj hj hjn
 refine⟨g0,arr,ha,by simpa[hl] using hla,h1,fun i x u hx hu=> ?_,hη⟩
 obtain⟨v0,hv0,hp0⟩:=h i x hx
 exact hp0 u (hr i v0 u hv0 hu)
theorem retok_core{t:Tok}(a b:Nat)(ht:st.tk.lookup a=some t)(hf:st.fresh b=true)(hin:c.ins.contains b=false){E:Env}{act:Act}{w:World}(hi:Inv c E st act w):
 ∃E':Env,Inv c E' ⟨st.fr,st.bx,(b,t)::delTok a st.tk⟩ act w∧E'.η b=E'.η a:=by
 have hab:a≠b:=St.fresh_tk hf ht
 have mono: ∀(v:AV) (u:Value),AV.ment b v=false→RepA E w v u→RepA ⟨E.φ,E.ρ,fun i=>if i=b then E.η a else E.η i⟩ w v u:=fun v u hm hr=>
  hr.mono (E:=E) (E':=⟨E.φ,E.ρ,fun i=>if i=b then E.η a else E.η i⟩) (fun _ _ _=>rfl) (fun _=>Nat.le_refl _) (fun i hi'=>⟨rfl,by
    have:i≠b:=fun e=>by subst e;rw[hm] at hi';cases hi'
    simp[this]⟩)
 have hh:HInv c ⟨E.φ,E.ρ,fun i=>if i=b then E.η a else E.η i⟩ st.bx st.tk w:=hi.heap.reEta
  (fun i bb h0 k v u hv hr=>mono v u (AV.ments_false (St.fresh_bx hf h0).2 k v hv) hr)
  (fun j t' hj=>by simp only[if_neg (St.fresh_tk hf hj)])
  (fun id hid=>by
    have:id≠b:=fun e=>by subst e;simp at hin;exact hin hid
    simp only[if_neg this])
  (fun i bb h0=>by simp only[if_neg (St.fresh_bx hf h0).1])
 have hh':HInv c ⟨E.φ,E.ρ,fun i=>if i=b then E.η a else E.η i⟩ st.bx (delTok a st.tk) w:=by
  have hw:Wk c st ⟨st.fr,st.bx,delTok a st.tk⟩:=⟨fun id hid=>(hi.heap.ins id hid).2.2,fun s v hv=>⟨v,hv,Sub.refl _⟩,fun id bb hb=>⟨bb,hb,rfl,Subs.refl _⟩,fun id t' ht'=>by
   simp only at ht';rw[delTok_look'] at ht'
   split at ht'
   · cases ht'
   · exact ht'⟩
  exact hh.wk (st:=st) (st':=⟨st.fr,st.bx,delTok a st.tk⟩) hw
 refine⟨⟨E.φ,E.ρ,fun i=>if i=b then E.η a else E.η i⟩,⟨hi.defers,hi.size,fun s' v hv=>mono v _ (St.fresh_fr hf hv) (hi.slot s' v hv),?_⟩,by simp[hab]⟩
 refine hh'.addTok ?_ (fun j t' g hj hl hg=> ?_) (fun i bb hb hn=> ?_) (fun g hg=> ?_)
 · have:=hi.heap.tok a t ht
   simp only[TokOk,if_true] at this⊢
   exact this
 · rw[delTok_look'] at hl
   split at hl
   · cases hl
   · rename_i hja
     simp only[if_neg hj,if_true] at hg⊢
     intro hg'
     exact hja (hi.heap.tt j a t' t g hl ht hg hg')
 · simp only[if_true]
   exact hi.heap.bt i a bb t hb hn ht
 · simp only[if_true] at hg
   exact hi.heap.ownt a t g ht hg
theorem L.retokB{t:Tok}{X:Act→World→Prop}{bj:Box}{cs:List AV}(j a b:Nat)(hj:st.bx.lookup j=some bj)(hjn:bj.cs≠ [])(ht:st.tk.lookup a=some t)(hf:st.fresh b=true)(hin:c.ins.contains b=false)(hp:Tks a b bj.cs cs)
 (h:L c ⟨st.fr,(j,⟨bj.ty,.l cs⟩)::st.bx,(b,t)::delTok a st.tk⟩ X):L c st X:=by
 rintro act w ⟨E,hi⟩
 obtain⟨E',hi2,he⟩:=retok_core a b ht hf hin hi
 obtain⟨hl,hg⟩:=hp.get
 exact h act w ⟨E',hi2.defers,hi2.size,hi2.slot,hi2.heap.recs hj hjn hl (fun i v hv=>by
  obtain⟨v0,h0,hq⟩:=hg i v hv
  exact⟨v0,h0,fun u hu=>hq.rep he hu⟩)⟩
inductive Ad (id:Nat):AV→AV→Prop
 |same {v:AV}:Ad id v v
 |here:Ad id .nils (.row id [])
inductive Ads (id:Nat):List AV→List AV→Prop
 |nil:Ads id [] []
 |cons {v v':AV} {l l':List AV} (h:Ad id v v') (t:Ads id l l'):Ads id (v::l) (v'::l')
theorem Ads.get{id:Nat}{l l':List AV}(h:Ads id l l'):l'.length=l.length∧ ∀(i:Nat) (v:AV),l'[i]?=some v→ ∃v0,l[i]?=some v0∧Ad id v0 v:=by
 induction h with
 |nil=>exact⟨rfl,fun i v h=>by simp at h⟩
 |cons h _ ih=>
  refine⟨by simp[ih.1],fun i v hv=> ?_⟩
  cases i with
  |zero=>simp at hv;subst hv;exact⟨_,rfl,h⟩
  |succ i=>exact ih.2 i v (by simpa using hv)
theorem adopt_core(id:Nat)(t:TypeId)(k:Nat)(hf:st.fresh id=true)(hin:c.ins.contains id=false){E:Env}{a:Act}{w:World}(hi:Inv c E st a w):
 ∃E':Env,Inv c E' ⟨st.fr,st.bx,(id,⟨t,k⟩)::st.tk⟩ a w∧E'.η id= .slice none 0 0:=by
 have mono: ∀(v:AV) (u:Value),AV.ment id v=false→RepA E w v u→RepA ⟨E.φ,E.ρ,fun i=>if i=id then .slice none 0 0 else E.η i⟩ w v u:=fun v u hm hr=>
  hr.mono (E:=E) (E':=⟨E.φ,E.ρ,fun i=>if i=id then .slice none 0 0 else E.η i⟩) (fun _ _ _=>rfl) (fun _=>Nat.le_refl _) (fun i hi'=>⟨rfl,by
    have:i≠id:=fun e=>by subst e;rw[hm] at hi';cases hi'
    simp[this]⟩)
 have hh:HInv c ⟨E.φ,E.ρ,fun i=>if i=id then .slice none 0 0 else E.η i⟩ st.bx st.tk w:=hi.heap.reEta
  (fun i bb h0 k v u hv hr=>mono v u (AV.ments_false (St.fresh_bx hf h0).2 k v hv) hr)
  (fun j t' hj=>by simp only[if_neg (St.fresh_tk hf hj)])
  (fun i hid=>by
    have:i≠id:=fun e=>by subst e;simp at hin;exact hin hid
    simp only[if_neg this])
  (fun i bb h0=>by simp only[if_neg (St.fresh_bx hf h0).1])
 refine⟨⟨E.φ,E.ρ,fun i=>if i=id then .slice none 0 0 else E.η i⟩,⟨hi.defers,hi.size,fun s' v hv=>mono v _ (St.fresh_fr hf hv) (hi.slot s' v hv),?_⟩,by simp⟩
 exact hh.addTok (.inl (by simp)) (fun j t' g hj hl hg=>by simp[Value.ownBlock]) (fun i b hb hn=>by simp[Value.ownBlock]) (fun g hg=>by simp[Value.ownBlock] at hg)
theorem L.adoptB{X:Act→World→Prop}{bj:Box}{cs:List AV}(j id:Nat)(t:TypeId)(k:Nat)(hj:st.bx.lookup j=some bj)(hjn:bj.cs≠ [])(hf:st.fresh id=true)(hin:c.ins.contains id=false)(hp:Ads id bj.cs cs)
 (h:L c ⟨st.fr,(j,⟨bj.ty,.l cs⟩)::st.bx,(id,⟨t,k⟩)::st.tk⟩ X):L c st X:=by
 rintro act w ⟨E,hi⟩
 obtain⟨E',hi2,he⟩:=adopt_core id t k hf hin hi
 obtain⟨hl,hg⟩:=hp.get
 exact h act w ⟨E',hi2.defers,hi2.size,hi2.slot,hi2.heap.recs hj hjn hl (fun i v hv=>by
  obtain⟨v0,h0,hq⟩:=hg i v hv
  refine⟨v0,h0,fun u hu=> ?_⟩
  cases hq with
  |same=>exact hu
  |here=>cases hu;exact .row (by rw[he]) .nil)⟩
theorem Box.ren_id{π:Nat→Nat}{b:Box}(h:AV.mentsIn [] b.cs=true):b.ren π=b:=by
 obtain⟨ty,cc⟩:=b
 cases cc with
 |l cs=>simp only[Box.cs_l] at h;simp only[Box.ren];rw[AV.rens_id cs h]
 |r xs m=>rfl
theorem L.callGN{gs:Globs}(N:List Nat){o:Oper}{ops:Array Oper}{rest:List Oper}{Q:Exit→Act→World→Prop}{f:FuncId}{args:Array Operand}{ats:Array TypeId}{zas:List AV}{bxi bxo:List (Nat×Box)}{tko:List (Nat×Tok)}{res:AV}{d:Nat}(hg:o.guard=none)(hd:o.dst=some d)(hlt:Nat.ble (d+1) c.nt=true)(hG:Glob gs c.E0 c.w0)
 (ho:o.op= .call {callee:= .value (.func f),args:=args,argTypes:=ats}) (hok:callOk P f=true) (hc:CallG gs P f zas bxi bxo tko res) (ha:Subs (args.toList.map st.ev) zas) (hbi:WkB st.bx bxi)
 (hN:N.all (fun id=>st.fresh id)=true) (hbo:boOk N bxi bxo=true) (hto:(keys tko).all (fun id=>N.contains id)=true)
 (hmb:bxo.all (fun p=>AV.mentsIn (N++keys bxi) p.2.cs)=true) (hmr:AV.mentIn (N++keys bxi) res=true)
 (h:L c ⟨(d,res)::st.fr,bxo++st.bx,tko++st.tk⟩ (wpList P ops Q rest)):L c st (wpList P ops Q (o::rest)):=
 L.enterG N hg hd hlt hG (fun E a w hi=>⟨args.toList.map a.eval,by
   have hargs:(args.toList.map a.eval).toArray=args.map a.eval:=by apply Array.ext';simp
   rw[hargs]
   simp[execOp,ho,resolve,Deferred.ofValue,Act.eval,invoke,run_callOk hok],(hi.evs args).sub ha⟩) hc hbi hN hbo hto hmb hmr h
theorem L.callG1{gs:Globs}{o:Oper}{ops:Array Oper}{rest:List Oper}{Q:Exit→Act→World→Prop}{f:FuncId}{args:Array Operand}{ats:Array TypeId}{as1 zas:List AV}{d q:Nat}{b b':Box}{res:AV}(hg:o.guard=none)(hd:o.dst=some d)(hlt:Nat.ble (d+1) c.nt=true)(ho:o.op= .call {callee:= .value (.func f),args:=args,argTypes:=ats})(hok:callOk P f=true)
 (hG:Glob gs c.E0 c.w0) (hc:CallG gs P f as1 [(1000,b)] [(1000,b')] [] res) (ha:AV.pub.pubs (args.toList.map st.ev)=zas) (h1:AV.rens (Abs.sws [(1000,q)]) as1=zas) (hb:st.bx.lookup q=some b) (hbn:b.cs.isEmpty=false) (hm:AV.mentsIn [] b.cs=true) (hm':AV.mentsIn [] b'.cs=true) (hr:AV.mentIn [] res=true)
 (h:L c ⟨(d,res)::st.fr,(q,b')::st.bx,st.tk⟩ (wpList P ops Q rest)):L c st (wpList P ops Q (o::rest)):=by
 have hs:Abs.sws [(1000,q)] 1000=q:=sws_hd _ _ _
 have h2:=hc.sws [(1000,q)] h1 (bx2:= [(q,b)]) (bx2':= [(q,b')]) (tk2':= []) (res2:=res) (by simp[renB,hs,Box.ren_id hm]) (by simp[renB,hs,Box.ren_id hm']) rfl (AV.ren_id res hr)
 exact L.callGN (bxi:= [(q,b)]) [] hg hd hlt hG ho hok h2 (.of_pub ha) (.cons hb rfl (Subs.refl _) .nil) rfl (by simp[boOk,keys,hbn]) rfl (by simp[mentsIn_mono _ hm']) (mentIn_mono _ hr) h
theorem L.callG2{gs:Globs}{o:Oper}{ops:Array Oper}{rest:List Oper}{Q:Exit→Act→World→Prop}{f:FuncId}{args:Array Operand}{ats:Array TypeId}{as1 zas:List AV}{d q p:Nat}{b b' e e':Box}{res:AV}(hg:o.guard=none)(hd:o.dst=some d)(hlt:Nat.ble (d+1) c.nt=true)(ho:o.op= .call {callee:= .value (.func f),args:=args,argTypes:=ats})(hok:callOk P f=true)
 (hG:Glob gs c.E0 c.w0) (hc:CallG gs P f as1 [(1000,b),(1001,e)] [(1000,b'),(1001,e')] [] res) (ha:AV.pub.pubs (args.toList.map st.ev)=zas) (h1:AV.rens (Abs.sws [(1001,p),(1000,q)]) as1=zas) (hb:st.bx.lookup q=some b) (he:st.bx.lookup p=some e) (hqp:(q==p)=false) (hqn:(q==1001)=false) (hbn:b.cs.isEmpty=false) (hen:e.cs.isEmpty=false) (hm:AV.mentsIn [] b.cs=true) (hm':AV.mentsIn [] b'.cs=true) (hme:AV.mentsIn [] e.cs=true) (hme':AV.mentsIn [] e'.cs=true) (hr:AV.mentIn [] res=true)
 (h:L c ⟨(d,res)::st.fr,(q,b')::(p,e')::st.bx,st.tk⟩ (wpList P ops Q rest)):L c st (wpList P ops Q (o::rest)):=by
 have hqp':q≠p:=by simpa using hqp
 have hs:Abs.sws [(1001,p),(1000,q)] 1000=q:=sws_tl (by decide) (sws_hd _ _ _) hqp'
 have hs1:Abs.sws [(1001,p),(1000,q)] 1001=p:=sws_hd _ _ _
 have h2:=hc.sws [(1001,p),(1000,q)] h1 (bx2:= [(q,b),(p,e)]) (bx2':= [(q,b'),(p,e')]) (tk2':= []) (res2:=res) (by simp[renB,hs,hs1,Box.ren_id hm,Box.ren_id hme]) (by simp[renB,hs,hs1,Box.ren_id hm',Box.ren_id hme']) rfl (AV.ren_id res hr)
 exact L.callGN (bxi:= [(q,b),(p,e)]) [] hg hd hlt hG ho hok h2 (.of_pub ha) (.cons hb rfl (Subs.refl _) (.cons he rfl (Subs.refl _) .nil)) rfl (by simp[boOk,keys,hbn,hen]) rfl (by simp[mentsIn_mono _ hm',mentsIn_mono _ hme']) (mentIn_mono _ hr) h
theorem WkB.app_self: ∀(bx:List (Nat×Box)) {bx0:List (Nat×Box)},(∀i b,bx.lookup i=some b→bx0.lookup i=some b)→ ∀(s:Nat) (v:Box),bx.lookup s=some v→ ∃v0,bx0.lookup s=some v0∧v0.ty=v.ty∧Subs v0.cs v.cs:=
 fun bx bx0 h s v hv=>⟨v,h s v hv,rfl,Subs.refl _⟩
theorem lookup_app_self(bx:List (Nat×Box))(i:Nat)(b:Box)(h:bx.lookup i=some b):(bx++bx).lookup i=some b:=by
 rw[List.lookup_append,h];rfl
theorem CallG.at1{gs:Globs}{f:FuncId}{as1 zas:List AV}{q:Nat}{b b':Box}{res:AV}(hc:CallG gs P f as1 [(1000,b)] [(1000,b')] [] res)(h1:AV.rens (Abs.sws [(1000,q)]) as1=zas)(hm:AV.mentsIn [] b.cs=true)(hm':AV.mentsIn [] b'.cs=true)(hr:AV.mentIn [] res=true):
 CallG gs P f zas [(q,b)] [(q,b')] [] res:=by
 have hs:Abs.sws [(1000,q)] 1000=q:=sws_hd _ _ _
 exact hc.sws [(1000,q)] h1 (by simp[renB,hs,Box.ren_id hm]) (by simp[renB,hs,Box.ren_id hm']) rfl (AV.ren_id res hr)
theorem L.callQ1{gs:Globs}{o:Oper}{ops:Array Oper}{rest:List Oper}{Q:Exit→Act→World→Prop}{f:FuncId}{args:Array Operand}{ats:Array TypeId}{zas:List AV}{d q:Nat}{b b':Box}{res:AV}(hg:o.guard=none)(hd:o.dst=some d)(hlt:Nat.ble (d+1) c.nt=true)(ho:o.op= .call {callee:= .value (.func f),args:=args,argTypes:=ats})(hok:callOk P f=true)
 (hG:Glob gs c.E0 c.w0) (hc:CallG gs P f zas [(q,b)] [(q,b')] [] res) (ha:AV.pub.pubs (args.toList.map st.ev)=zas) (hb:st.bx.lookup q=some b) (hbn:b.cs.isEmpty=false) (hm':AV.mentsIn [] b'.cs=true) (hr:AV.mentIn [] res=true)
 (h:L c ⟨(d,res)::st.fr,(q,b')::st.bx,st.tk⟩ (wpList P ops Q rest)):L c st (wpList P ops Q (o::rest)):=
 L.callGN (bxi:= [(q,b)]) [] hg hd hlt hG ho hok hc (.of_pub ha) (.cons hb rfl (Subs.refl _) .nil) rfl (by simp[boOk,keys,hbn]) rfl (by simp[mentsIn_mono _ hm']) (mentIn_mono _ hr) h
theorem Wk.mkX{fr:List (Nat×AV)}{bx:List (Nat×Box)}{tk:List (Nat×Tok)}(h0: ∀id∈c.ins,(bx.lookup id).isSome=true)(h1:WkF st.fr fr)(h2: ∀s v,bx.lookup s=some v→st.bx.lookup s=some v)(h3:WkT st.tk tk):Wk c st ⟨fr,bx,tk⟩:=
 ⟨h0,h1.get,fun s v hv=>⟨v,h2 s v hv,rfl,Subs.refl _⟩,h3.get⟩
theorem keys_some{bx:List (Nat×Box)}: ∀id∈keys bx,(bx.lookup id).isSome=true:=fun id hid=>by
 obtain⟨b,hb⟩:=mem_keys hid;rw[hb];rfl
theorem lookup_app{bx:List (Nat×Box)}{bx':List (Nat×Box)}{s:Nat}{v:Box}(h:bx.lookup s=some v):(bx++bx').lookup s=some v:=by
 rw[List.lookup_append,h];rfl
end Go.Abs
