/- Several texts in one, each with its own sentence ahead of it. Conditions: each one says its own. -/
import Derived.WideLaws
import Derived.LaidMore
import Derived.ChangeArms
import Derived.MakeChecks
import Derived.Test.YthcjohcakdnmmaaGreatDoorZS10
import Derived.Test.YthcjohcakdnmmaaGreatDoorZS15
import Derived.Test.YthcjohcakdnmmaaGreatDoorZS17
set_option linter.all false
namespace Go.Abs
open Go.RowKit (Below)
set_option linter.unusedVariables false
set_option linter.unusedSectionVars false
theorem ments_at{id:Nat}: ∀{l:List AV} {i:Nat} {x:AV},AV.ments id l=false→l[i]?=some x→AV.ment id x=false
 | [],i,x,_,h=>by simp at h
 |y::l,0,x,h,hx=>by
  simp only[AV.ments,Bool.or_eq_false_iff] at h
  simp at hx;subst hx;exact h.1
 |y::l,i+1,x,h,hx=>by
  simp only[AV.ments,Bool.or_eq_false_iff] at h
  exact ments_at h.2 (by simpa using hx)
theorem ments_all{id:Nat}: ∀{l:List AV},(∀x∈l,AV.ment id x=false)→AV.ments id l=false
 | [],_=>rfl
 |y::l,h=>by
  simp only[AV.ments,Bool.or_eq_false_iff]
  exact⟨h y (by simp),ments_all (fun x hx=>h x (by simp[hx]))⟩
theorem ments_mem{id:Nat}{l:List AV}{x:AV}(h:AV.ments id l=false)(hx:x∈l):AV.ment id x=false:=by
 obtain⟨i,hi⟩:=List.mem_iff_getElem?.1 hx
 exact ments_at h hi
section
variable {P:Program}{c:Ctx}{st:St}{ops:Array Oper}{Q:Exit→Act→World→Prop}{rest:List Oper}{o:Oper}
def AddA(P:Program)(c:Ctx)(st:St)(y:Operand)(k m:Nat)(new:List AV):Prop:=
 ∀(E:Env) (a:Act) (w:World),Inv c E st a w→ ∃us:List Value,Src P w (a.eval y) k m us∧RelL E w new us∧us.length=m*k∧ ∀u∈us,u.oneCell'=true
theorem AddA.bsl{y:Operand}{k id off m cap:Nat}{b:Box}{new:List AV}(hy:st.ev y= .bsl id off m cap)(hb:st.bx.lookup id=some b)(hn:(b.cs.drop off).take (m*k)=new)(hl:new.length=m*k):AddA P c st y k m new:=fun E a w hi=>by
 have h:=hi.ev y;rw[hy] at h
 obtain⟨o',hq,hn',hm,hoo⟩:=h.bsl_inv
 obtain⟨arr,rest,_,hr,h1,_,hc⟩:=hi.boxCell hb
 have hlen:((arr.drop off).take (m*k)).length=m*k:=by rw[((hr.drop off).take (m*k)).1,hn,hl]
 refine⟨(arr.drop off).take (m*k),?_,by rw[←hn];exact(hr.drop off).take _,hlen,fun u hu=>h1 u (List.mem_of_mem_drop (List.mem_of_mem_take hu))⟩
 rw[hq]
 refine Src.some hlen (fun p v hv=> ?_)
 have hp:=(List.getElem?_eq_some_iff.1 hv).1
 rw[hlen] at hp
 have hcap:cap≠0:=fun e=>by
  have:m=0:=by omega
  subst this;simp at hp
 rw[hoo hcap]
 rw[List.getElem?_take,if_pos hp,List.getElem?_drop] at hv
 simp only[Addr.add_none]
 rw[hc _ (List.getElem?_eq_some_iff.1 hv).1]
 exact hv
theorem growA_core{E:Env}{a:Act}{w:World}(hi:Inv c E st a w){o':Nat}{t t' e:TypeId}{d:TypeDesc}{x y:Operand}{id id' k off bytes:Nat}{i:TypeInfo}{z:Value}{n cap:Nat}{b:Box}{m:Nat}{old cs:List AV}
 (ho:o.op= .call {callee:= .builtin .append,args:= #[x,y],argTypes:= #[t,t']}) (ht:P.underlying t=some (.slice e)) (hi0:P.info? e=some i) (hik:i.size=k) (hib:i.bytes=bytes) (hiz:i.zero=some z) (hzk:z.cells.size=k) (hz1: ∀u∈z.cells.toList,u.oneCell'=true)
 (hd:P.underlying t'=some d) (hn:notInt d) (hk0:0<k) (hq:a.eval x= .slice (some ⟨E.ρ id,o',none⟩) n cap) (hoo:cap≠0→o'=off) (hn1:n≤cap) (hb:st.bx.lookup id=some b) (hold:(b.cs.drop off).take (n*k)=old) (hol:old.length=n*k) (hcap:cap<n+m) (hy:AddA P c st y k m cs) (hpos:0<m)
 (hm:n+m≤maxLen) (hby:(n+m)*bytes≤140737488355328) (hf:st.fresh id'=true) (hmo':AV.ments id' old=false) (hmo:AV.ments id' cs=false):
 ∃(u:Value) (E':Env) (w':World),(execOp a.eval o).run P w= .ok (.value u) w'∧Inv c E' ⟨st.fr,(id',⟨e,old++cs⟩)::st.bx,st.tk⟩ a w'∧RepA E' w' (.bsh id' 0 (n+m) k) u:=by
 subst hik;subst hib
 obtain⟨us,hsrc,hrn,hul,hu1⟩:=hy E a w hi
 have hexec:(execOp a.eval o).run P w=((Builtin.append_ #[t,t'] o.type #[a.eval x,a.eval y]).run P w).andThen fun v w'=> .ok (.value v) w':=by
  simp[execOp,ho,resolve,invoke,builtin]
 obtain⟨arr,rst,_,hra,h1a,_,hc⟩:=hi.boxCell hb
 have hro:RelL E w old ((arr.drop off).take (n*i.size)):=by rw[←hold];exact(hra.drop off).take _
 generalize hod:(arr.drop off).take (n*i.size)=olds at hro
 have hol2:olds.length=n*i.size:=by rw[hro.1,hol]
 have hfc:(Builtin.firstCells i.size n (.slice (some ⟨E.ρ id,o',none⟩) n cap)).run P w.drew= .ok olds.toArray w.drew:=by
  refine run_firstCells_some w.drew i.size n _ n cap olds hol2 (fun p v hv=> ?_)
  have hp:=(List.getElem?_eq_some_iff.1 hv).1
  rw[hol2] at hp
  have hn0:n≠0:=fun e=>by rw[e] at hp;simp at hp
  rw[hoo (by omega)]
  rw[←hod,List.getElem?_take,if_pos hp,List.getElem?_drop] at hv
  simp only[Addr.add_none]
  show w.cell? _=_
  rw[hc _ (List.getElem?_eq_some_iff.1 hv).1];exact hv
 have hrun:=app_grow (ty:=o.type) ht hd hn hi0 hiz hsrc hfc hcap (by simp only[maxLen] at hm;omega) (growslice_fits hcap hby)
 have hge:n+m≤grownCap w (n+m) cap e:=grownCap_ge _ _ _ _
 have hcm:=grownCap_le_maxLen w (n+m) cap e hm
 have hlen:(olds++(us++(Builtin.zeroCells z.cells (grownCap w (n+m) cap e - (n+m))).toList)).length=grownCap w (n+m) cap e*i.size:=by
  simp only[List.length_append,hul,hol2,Array.length_toList,size_zeroCells,hzk]
  rw[←Nat.add_mul,←Nat.add_mul];congr 1;omega
 have hcl:cs.length=m*i.size:=by rw[←hrn.1,hul]
 have hrel:=RelL.keep (E:=E) (w:=w) (w':=w.drew) (fun _ _ _=>rfl) (hro.append hrn)
 have hi':=hi.drew.newRoom hf (ty:=e) (cs:=old++cs) (us:=olds++(us++(Builtin.zeroCells z.cells (grownCap w (n+m) cap e - (n+m))).toList)) (capV i.size (grownCap w (n+m) cap e))
  (by rw[hlen,List.length_append,hol,hcl,←Nat.add_mul];exact Nat.mul_le_mul_right _ hge)
  (fun p x u hx hu=>by
    have hlt:=(List.getElem?_eq_some_iff.1 hx).1
    rw[←List.append_assoc,List.getElem?_append_left (by rw[hrel.1];exact hlt)] at hu
    exact hrel.2 p x u hx hu)
  (fun u hu=>by
    rcases List.mem_append.1 hu with hu|hu
    · rw[←hod] at hu;exact h1a u (List.mem_of_mem_drop (List.mem_of_mem_take hu))
    rcases List.mem_append.1 hu with hu|hu
    · exact hu1 u hu
    · simp only[Builtin.zeroCells,Array.toList_map,Array.toList_range,List.mem_map,List.mem_range] at hu
      obtain⟨p,_,rfl⟩:=hu
      have hlt:p % z.cells.size<z.cells.size:=Nat.mod_lt _ (by rw[hzk];exact hk0)
      rw[getElem!_pos z.cells _ hlt]
      exact hz1 _ (by simp))
  (ments_app hmo' hmo) (fun k' cap' he=>by
    obtain⟨rfl,rfl⟩:=capV_inj he
    exact Nat.le_of_eq hlen.symm)
 refine⟨_,_,_,?_,hi',.bsh (cap:=grownCap w (n+m) cap e) (o:=0) (by omega) hcm (by simp[Env.upd]) (fun _=>by simp) rfl⟩
 rw[hexec,hq,hrun]
 simp[Env.upd]
theorem L.renameA(s N j0:Nat){X:Act→World→Prop}{id n cap:Nat}(k:Nat){b:Box}(hs:st.fr.lookup s=some (.bsl id 0 n cap))(hb:st.bx.lookup id=some b)(hbn:b.cs≠ [])(hf:st.fresh N=true)
 (h:L c ⟨(s,.bsh N 0 n k)::st.fr,(N,⟨b.ty,.l (b.cs.take j0)⟩)::(id,⟨b.ty,.l []⟩)::st.bx,st.tk⟩ X) (hroom:cap*k≤b.cs.length):L c st X:=by
 rintro a w ⟨E,hi⟩
 have hne:id≠N:=(St.fresh_bx hf hb).1
 obtain⟨o,hq,hn,hmx,hoo⟩:=(hi.slot s _ hs).bsl_inv
 obtain⟨h0,arr,ha,hl,h1,hr,hη⟩:=hi.heap.box id _ hb hbn
 obtain⟨hh,mono⟩:=hi.heap.turn hf (E.ρ id) (capV k cap)
 have hk:=hh.reBox (b':=⟨b.ty,.l []⟩) hb hbn (fun h=>(h rfl).elim)
 refine h a w ⟨⟨E.φ,fun i=>if i=N then E.ρ id else E.ρ i,fun i=>if i=N then capV k cap else E.η i⟩,hi.defers,hi.size,fun s' v hv=> ?_,hk.addBox ?_ ?_ ?_ ?_ ?_⟩
 · by_cases e:s'=s
   · subst e;rw[lookup_cons_eq] at hv;cases hv
     exact .bsh (cap:=cap) (o:=o) (by omega) hmx (by simp) (fun h=>by rw[hoo (by omega)];simp) (by rw[hq];simp)
   · rw[lookup_cons_ne e] at hv;exact mono v _ (St.fresh_fr hf hv) (hi.slot s' v hv)
 · rw[lookup_cons_ne (Ne.symm hne)]
   cases hq':st.bx.lookup N with
   |none=>rfl
   |some b1=>exact((St.fresh_bx hf hq').1 rfl).elim
 · refine⟨by simp only[if_true];exact h0,arr,by simp only[if_true];exact ha,by simp only[Box.cs_l,List.length_take];omega,h1,fun i x u hx hu=> ?_,fun k' cap' he=> ?_⟩
   · simp only[Box.cs_l] at hx
     rw[List.getElem?_take] at hx
     split at hx
     · exact mono x u (ments_at (St.fresh_bx hf hb).2 hx) (hr i x u hx hu)
     · cases hx
   · simp only[if_true] at he
     obtain⟨rfl,rfl⟩:=capV_inj he
     omega
 · intro j b1 hj hjn
   by_cases e:j=id
   · subst e;rw[lookup_cons_eq] at hj;cases hj;exact(hjn rfl).elim
   · rw[lookup_cons_ne e] at hj
     simp only[if_true,if_neg (St.fresh_bx hf hj).1]
     exact fun he=>e (hi.heap.bb j id b1 _ hj hb hjn hbn he)
 · intro j t hj
   simp only[if_true,if_neg (St.fresh_tk hf hj)]
   exact hi.heap.bt id j _ t hb hbn hj
 · simp only[if_true];exact hi.heap.own id _ hb hbn
end
end Go.Abs
namespace Go.Abs
open Go.RowKit (Below)
set_option linter.unusedVariables false
section
variable {P:Program}{c:Ctx}{st:St}{ops:Array Oper}{Q:Exit→Act→World→Prop}{rest:List Oper}{o:Oper}
theorem L.callFnW(N:List Nat){gs:Globs}{f:FuncId}{x:Operand}{args:Array Operand}{ats:Array TypeId}{avs caps:List AV}{bxi bxo:List (Nat×Box)}{res:AV}{d:Nat}(hg:o.guard=none)(hd:o.dst=some d)(hlt:Nat.ble (d+1) c.nt=true)(hG:Glob gs c.E0 c.w0)
 (ho:o.op= .call {callee:= .value x,args:=args,argTypes:=ats}) (hx:st.ev x= .fn f caps) (hok:callOk P f=true) (hc:CallG gs P f (avs++caps) bxi bxo [] res) (ha:Subs (args.toList.map st.ev) avs)
 (hbi:WkB st.bx bxi) (hN:N.all (fun id=>st.fresh id)=true) (hbo:boOk N bxi bxo=true) (hmb:bxo.all (fun p=>AV.mentsIn (N++keys bxi) p.2.cs)=true) (hmr:AV.mentIn (N++keys bxi) res=true)
 (h:L c ⟨(d,res)::st.fr,bxo++st.bx,st.tk⟩ (wpList P ops Q rest)):L c st (wpList P ops Q (o::rest)):=
 L.enterG N hg hd hlt hG (fun E a w hi=>by
   have hv:=hi.ev x
   rw[hx] at hv
   generalize hu:a.eval x=u at hv
   cases hv with
   | @fn _ _ us hl hr=>
     refine⟨args.toList.map a.eval++us,?_,((hi.evs args).sub ha).append ⟨hl,hr⟩⟩
     have hargs:(args.toList.map a.eval++us).toArray=args.map a.eval++us.toArray:=by apply Array.ext';simp
     rw[hargs]
     simp[execOp,ho,resolve,hu,Deferred.ofValue,invoke,run_callOk hok]) hc hbi hN hbo rfl hmb hmr h
theorem s_callFnW(N:List Nat){fr:List (Nat×AV)}{bx:List (Nat×Box)}{tk:List (Nat×Tok)}{d:Nat}{ty:TypeId}{pos:String}{aft:Array Edge}{gs:Globs}{f:FuncId}{x:Operand}{args:Array Operand}{ats:Array TypeId}{avs caps:List AV}{bxi bxo:List (Nat×Box)}{res:AV}(hlt:Nat.ble (d+1) c.nt=true)(hG:Glob gs c.E0 c.w0)(hx:St.ev ⟨fr,bx,tk⟩ x= .fn f caps)[hok:CallTy P f]
 (hc:CallG gs P f (avs++caps) bxi bxo [] res) (ha:Subs (args.toList.map (St.ev ⟨fr,bx,tk⟩)) avs) (hbi:WkB bx bxi) (hN:N.all (fun id=>St.fresh id ⟨fr,bx,tk⟩)=true) (hbo:boOk N bxi bxo=true) (hmb:bxo.all (fun p=>AV.mentsIn (N++keys bxi) p.2.cs)=true) (hmr:AV.mentIn (N++keys bxi) res=true)
 (h:LW P c ⟨(d,res)::fr,bxo++bx,tk⟩ ops Q rest):
 LW P c ⟨fr,bx,tk⟩ ops Q (⟨some d,.call {callee:= .value x,args:=args,argTypes:=ats},ty,pos,aft,none⟩::rest):=
 .mk (L.callFnW N (st:=⟨fr,bx,tk⟩) rfl rfl hlt hG rfl hx hok.h hc ha hbi hN hbo hmb hmr (LW.out h))
end
end Go.Abs
namespace Go.Abs
open Go.RowKit (Below)
set_option linter.unusedVariables false
class Errs where
 s:Value
 r:Value
 hs:s= .nilIface∨ ∃te pe,s= .iface te pe
 hr:r= .nilIface∨ ∃te pe,r= .iface te pe
theorem CallG.sub{gs gs':Globs}{P:Program}{f:FuncId}{args:List AV}{bx bx':List (Nat×Box)}{tk':List (Nat×Tok)}{res:AV}(hs: ∀p∈gs',p∈gs)(h:CallG gs' P f args bx bx' tk' res):CallG gs P f args bx bx' tk' res:=
 fun E w us h1 h2 h3=>h E w us h1 h2 (h3.sub hs)
theorem RepA.tup2{E:Env}{w:World}{x y:IV}{u v:Value}(h:RepI E.φ w x u)(k:RepI E.φ w y v):RepA E w (.tup [.iv x,.iv y]) (.tuple #[u,v]):=by
 refine .tup (us:= [u,v]) rfl (fun i c z hc hz=> ?_)
 match i with
 |0=>simp at hc hz;subst hc;subst hz;exact .iv h
 |1=>simp at hc hz;subst hc;subst hz;exact .iv k
 |i+2=>simp at hc
theorem Glob.one{gs:Globs}{E:Env}{w:World}{g:Nat}{v:Value}(h:Glob gs E w)(hm:(g,[IV.im v])∈gs):w.cell? ⟨g,0,none⟩=some v:=by
 obtain⟨_,u,h1,h2⟩:=h.2 g _ hm 0 _ rfl
 rw[h1,h2.im_eq]
def renF(π:Nat→Nat)(fr:List (Nat×AV)):List (Nat×AV):=fr.map (fun p=>(p.1,p.2.ren π))
theorem Inv.ren{c:Ctx}{E:Env}{st:St}{a:Act}{w:World}(π σ:Nat→Nat)(hσ: ∀n,σ (π n)=n)(hπ: ∀n,π (σ n)=n)(hf: ∀id∈c.ins,π id=id)(hi:Inv c E st a w):
 Inv c ⟨E.φ,fun i=>E.ρ (σ i),fun i=>E.η (σ i)⟩ ⟨renF π st.fr,renB π st.bx,renT π st.tk⟩ a w:=by
 have hE:(Env.of π ⟨E.φ,fun i=>E.ρ (σ i),fun i=>E.η (σ i)⟩)=E:=by simp[Env.of,hσ]
 have hfs: ∀id∈c.ins,σ id=id:=fun id h=>by have:=hσ id;rwa [hf id h] at this
 have hlu: ∀(i:Nat) (b:Box),(renB π st.bx).lookup i=some b→ ∃b0,st.bx.lookup (σ i)=some b0∧b0.ren π=b:=fun i b hb=>by
  unfold renB at hb;rw[lookup_ren' hσ hπ (Box.ren π),Option.map_eq_some_iff] at hb;exact hb
 have hlt: ∀(i:Nat) (t:Tok),(renT π st.tk).lookup i=some t→st.tk.lookup (σ i)=some t:=fun i t ht=>by
  unfold renT at ht
  have:=lookup_ren' hσ hπ (fun t:Tok=>t) st.tk i
  rw[this] at ht;simpa using ht
 have ho:=hi.heap
 refine⟨hi.defers,hi.size,fun s v hv=> ?_,fun i b hb hn=> ?_,fun i t ht=>ho.tok (σ i) t (hlt i t ht),fun i j b b' h1 h2 hn hn' he=> ?_,fun i j t t' g h1 h2 h3 h4=> ?_,fun i j b t h1 hn hj=> ?_,fun i b hb hn=> ?_,fun j t g hj hg=>ho.ownt (σ j) t g (hlt j t hj) hg,ho.new,ho.old,fun i hin=> ?_,ho.kept⟩
 · have hl:(renF π st.fr).lookup s=(st.fr.lookup s).map (AV.ren π):=lookup_map (AV.ren π) st.fr s
   rw[hl,Option.map_eq_some_iff] at hv
   obtain⟨v0,h0,rfl⟩:=hv
   exact RepA.doren v0 (by rw[hE];exact hi.slot s v0 h0)
 · obtain⟨b0,h0,rfl⟩:=hlu i b hb
   have:=BoxOk.doren (π:=π) (E:=⟨E.φ,fun i=>E.ρ (σ i),fun i=>E.η (σ i)⟩) (by rw[hE];exact ho.box (σ i) b0 h0 (Box.ren_ne.1 hn))
   rw[hπ] at this;exact this
 · obtain⟨b0,h0,rfl⟩:=hlu i b h1
   obtain⟨b1,h3,rfl⟩:=hlu j b' h2
   have:=ho.bb (σ i) (σ j) b0 b1 h0 h3 (Box.ren_ne.1 hn) (Box.ren_ne.1 hn') he
   rw[←hπ i,this,hπ]
 · have:=ho.tt (σ i) (σ j) t t' g (hlt i t h1) (hlt j t' h2) h3 h4
   rw[←hπ i,this,hπ]
 · obtain⟨b0,h0,rfl⟩:=hlu i b h1
   exact ho.bt (σ i) (σ j) b0 t h0 (Box.ren_ne.1 hn) (hlt j t hj)
 · obtain⟨b0,h0,rfl⟩:=hlu i b hb
   exact ho.own (σ i) b0 h0 (Box.ren_ne.1 hn)
 · obtain⟨e1,e2,e3⟩:=ho.ins i hin
   refine⟨by simpa[hfs i hin] using e1,by simpa[hfs i hin] using e2,?_⟩
   obtain⟨b,hb⟩:=Option.isSome_iff_exists.1 e3
   show(List.lookup i (renB π st.bx)).isSome=true
   unfold renB
   rw[show i=π i from(hf i hin).symm,lookup_ren hσ (Box.ren π),hb];rfl
theorem L.swap(l:List (Nat×Nat)){c:Ctx}{st:St}{f':List (Nat×AV)}{b':List (Nat×Box)}{t':List (Nat×Tok)}{X:Act→World→Prop}(hf:c.ins.all (fun id=>sws l id==id)=true)(h1:renF (sws l) st.fr=f')(h2:renB (sws l) st.bx=b')(h3:renT (sws l) st.tk=t')(h:L c ⟨f',b',t'⟩ X):L c st X:=by
 rintro a w ⟨E,hi⟩
 subst h1;subst h2;subst h3
 exact h a w ⟨_,hi.ren (sws l) (swsI l) (swsI_sws l) (sws_swsI l) (fun id hid=>by simpa using List.all_eq_true.1 hf id hid)⟩
section
variable {P:Program}{c:Ctx}{st:St}{ops:Array Oper}{Q:Exit→Act→World→Prop}{rest:List Oper}{o:Oper}
theorem L.callWG(N:List Nat){gs:Globs}{f:FuncId}{args:Array Operand}{ats:Array TypeId}{avs:List AV}{bxi bxo:List (Nat×Box)}{res:AV}{d:Nat}(hg:o.guard=none)(hd:o.dst=some d)(hlt:Nat.ble (d+1) c.nt=true)(hG:Glob gs c.E0 c.w0)
 (ho:o.op= .call {callee:= .value (.func f),args:=args,argTypes:=ats}) (hok:callOk P f=true) (hc:CallG gs P f avs bxi bxo [] res) (ha:Subs (args.toList.map st.ev) avs)
 (hbi:WkB st.bx bxi) (hN:N.all (fun id=>st.fresh id)=true) (hbo:boOk N bxi bxo=true) (hmb:bxo.all (fun p=>AV.mentsIn (N++keys bxi) p.2.cs)=true) (hmr:AV.mentIn (N++keys bxi) res=true)
 (h:L c ⟨(d,res)::st.fr,bxo++st.bx,st.tk⟩ (wpList P ops Q rest)):L c st (wpList P ops Q (o::rest)):=
 L.enterG N hg hd hlt hG (fun E a w hi=>by
   refine⟨args.toList.map a.eval,?_,(hi.evs args).sub ha⟩
   have hargs:(args.toList.map a.eval).toArray=args.map a.eval:=by apply Array.ext';simp
   rw[hargs]
   simp[execOp,ho,resolve,Act.eval,Deferred.ofValue,invoke,run_callOk hok]) hc hbi hN hbo rfl hmb hmr h
theorem s_callW(N:List Nat){fr:List (Nat×AV)}{bx:List (Nat×Box)}{tk:List (Nat×Tok)}{d:Nat}{ty:TypeId}{pos:String}{aft:Array Edge}{gs:Globs}{f:FuncId}{args:Array Operand}{ats:Array TypeId}{avs:List AV}{bxi bxo:List (Nat×Box)}{res:AV}(hlt:Nat.ble (d+1) c.nt=true)(hG:Glob gs c.E0 c.w0)[hok:CallTy P f]
 (hc:CallG gs P f avs bxi bxo [] res) (ha:Subs (args.toList.map (St.ev ⟨fr,bx,tk⟩)) avs) (hbi:WkB bx bxi) (hN:N.all (fun id=>St.fresh id ⟨fr,bx,tk⟩)=true) (hbo:boOk N bxi bxo=true) (hmb:bxo.all (fun p=>AV.mentsIn (N++keys bxi) p.2.cs)=true) (hmr:AV.mentIn (N++keys bxi) res=true)
 (h:LW P c ⟨(d,res)::fr,bxo++bx,tk⟩ ops Q rest):
 LW P c ⟨fr,bx,tk⟩ ops Q (⟨some d,.call {callee:= .value (.func f),args:=args,argTypes:=ats},ty,pos,aft,none⟩::rest):=
 .mk (L.callWG N (st:=⟨fr,bx,tk⟩) rfl rfl hlt hG rfl hok.h hc ha hbi hN hbo hmb hmr (LW.out h))
theorem L.callE{gs:Globs}(R:AV→Prop){f:FuncId}{args:Array Operand}{ats:Array TypeId}{zas:List AV}{d:Nat}(hg:o.guard=none)(hd:o.dst=some d)(hlt:Nat.ble (d+1) c.nt=true)(hG:Glob gs c.E0 c.w0)
 (ho:o.op= .call {callee:= .value (.func f),args:=args,argTypes:=ats}) (hok:callOk P f=true)
 (hc: ∀(E:Env) (w:World) (us:List Value),RelL E w zas us→Glob gs E w→Calls P f us.toArray w fun e w'=> ∃res u,R res∧e= .returned u∧RepA E w' res u∧Below w.heap.size w w') (ha:Subs (args.toList.map st.ev) zas)
 (hmr: ∀res,R res→AV.mentIn [] res=true) (h: ∀res,R res→L c ⟨(d,res)::st.fr,st.bx,st.tk⟩ (wpList P ops Q rest)):L c st (wpList P ops Q (o::rest)):=by
 rintro a w ⟨E,hi⟩
 refine wpList_plain hg (fun K hK=> ?_)
 have hrel:=(hi.evs args).sub ha
 have hargs:(args.toList.map a.eval).toArray=args.map a.eval:=by apply Array.ext';simp
 have hrun:(execOp a.eval o).run P w= .ok (.enter f (args.toList.map a.eval).toArray) w:=by
  rw[hargs]
  simp[execOp,ho,resolve,Deferred.ofValue,Act.eval,invoke,run_callOk hok]
 unfold Oper.wp
 rw[hrun,Oper.upon_enter]
 refine(hc E w _ hrel (hG.keep hi)).mono fun e w' ⟨res,u,hR,he,hu,hb⟩=> ?_
 subst he
 have hk:KeptBut (Ctx.M ⟨0,w,E,[]⟩) w w':=KeptBut.ofBelow hb
 have hh:HInv ⟨0,w,E,[]⟩ E [] [] w':=⟨fun id b h=>by simp at h,fun id t h=>by simp at h,fun i j b b' h=>by simp at h,fun i j t t' g h=>by simp at h,fun i j b t h=>by simp at h,fun i b h=>by simp at h,fun i t g h=>by simp at h,
  fun b hb'=>hi.heap.new b (Nat.le_trans hb.size hb'),fun b _=>rfl,fun id h=>by simp at h,hk⟩
 obtain⟨hj,monoN,monoC⟩:=hi.heap.join hh (bxi:= []) (N:= []) (fun id hid=>by cases hid) (fun id hid=>by simp[keys] at hid)
  (fun id hid=>by simp[keys] at hid) (fun id hid=>by simp[keys] at hid) (fun id b hb=>by simp at hb)
 refine hK _ _ ?_
 rw[hd]
 exact h res hR _ _ ⟨_,Inv.put (st:=⟨st.fr,[] ++st.bx,[] ++st.tk⟩) ⟨hi.defers,hi.size,fun s v hv=>monoC v _ (fun id hid=>by cases hid) (hi.slot s v hv),hj⟩ (Nat.le_of_ble_eq_true hlt) (monoN res u (hmr res hR) hu)⟩
theorem s_callE{gs:Globs}(R:AV→Prop){fr:List (Nat×AV)}{bx:List (Nat×Box)}{tk:List (Nat×Tok)}{d:Nat}{ty:TypeId}{pos:String}{aft:Array Edge}{f:FuncId}{args:Array Operand}{ats:Array TypeId}{zas:List AV}(hlt:Nat.ble (d+1) c.nt=true)(hG:Glob gs c.E0 c.w0)[hok:CallTy P f]
 (hc: ∀(E:Env) (w:World) (us:List Value),RelL E w zas us→Glob gs E w→Calls P f us.toArray w fun e w'=> ∃res u,R res∧e= .returned u∧RepA E w' res u∧Below w.heap.size w w') (ha:AV.pub.pubs (args.toList.map (St.ev ⟨fr,bx,tk⟩))=zas)
 (hmr: ∀res,R res→AV.mentIn [] res=true) (h: ∀res,R res→LW P c ⟨(d,res)::fr,bx,tk⟩ ops Q rest):
 LW P c ⟨fr,bx,tk⟩ ops Q (⟨some d,.call {callee:= .value (.func f),args:=args,argTypes:=ats},ty,pos,aft,none⟩::rest):=
 .mk (L.callE R (st:=⟨fr,bx,tk⟩) rfl rfl hlt hG rfl hok.h hc (.of_pub ha) hmr (fun res hR=>LW.out (h res hR)))
class IfTy (P:Program) (t:TypeId):Prop where
 h:P.underlying t=some (.interface (P.methodsAt t))
theorem v_neqIN{fr:List (Nat×AV)}{bx:List (Nat×Box)}{tk:List (Nat×Tok)}{d:Nat}{ty:TypeId}{pos:String}{aft:Array Edge}{x:Operand}{t t':TypeId}(hx:St.ev ⟨fr,bx,tk⟩ x= .iv (.im .nilIface))[ht:IfTy P t]:VV P c ⟨fr,bx,tk⟩ ⟨some d,.binOp .neq t x (.const .nilIface) t',ty,pos,aft,none⟩ (aB false) []:=
 .mk fun st' kE kL=> .im rfl fun E a w hi=>by
   have h:=hi.im ((kE x (by simp[Op.operands,Call.operands])).trans hx)
   simp[execOp,h,show a.eval (.const .nilIface)= .nilIface from rfl,eqGuard,run_neq_nil_nil w t ht.h]
theorem v_neqIS{fr:List (Nat×AV)}{bx:List (Nat×Box)}{tk:List (Nat×Tok)}{d:Nat}{ty:TypeId}{pos:String}{aft:Array Edge}{x:Operand}{t t' te:TypeId}{pe:Value}(hx:St.ev ⟨fr,bx,tk⟩ x= .iv (.im (.iface te pe)))[ht:IfTy P t]:VV P c ⟨fr,bx,tk⟩ ⟨some d,.binOp .neq t x (.const .nilIface) t',ty,pos,aft,none⟩ (aB true) []:=
 .mk fun st' kE kL=> .im rfl fun E a w hi=>by
   have h:=hi.im ((kE x (by simp[Op.operands,Call.operands])).trans hx)
   simp[execOp,h,show a.eval (.const .nilIface)= .nilIface from rfl,eqGuard,run_neq_held_nil w t te pe ht.h]
end
end Go.Abs
namespace Go.Abs
open Go.RowKit (Below)
set_option linter.unusedVariables false
theorem law_callsG{P:Program}{gs:Globs}{f:FuncId}{avs:List AV}(hc:CallG gs P f avs [] [] [] (aB true)){W:World}{us:List Value}(φ:Nat→Nat)(hφ: ∀b,W.heap.size≤b→φ b=0)(hG:Glob gs (lawEnv φ) W)(hr:RelL (lawEnv φ) W avs us):
 Calls P f us.toArray W fun e w'=>e= .returned (.bool true)∧Below W.heap.size W w':=by
 refine(hc (lawEnv φ) W us hr ?_ hG).mono ?_
 · exact⟨fun id b h=>by simp at h,fun id t h=>by simp at h,fun i j b b' h=>by simp at h,fun i j t t' g h=>by simp at h,fun i j b t h=>by simp at h,fun i b h=>by simp at h,fun i t g h=>by simp at h,
    hφ,fun b _=>rfl,fun id h=>by simp[keys] at h,KeptBut.refl _ _⟩
 · rintro e w' ⟨u,E',he,hu,hh⟩
   have hv:=hu.iv_im
   subst hv
   refine⟨he,?_⟩
   have hk:=hh.kept
   exact⟨hk.os,hk.tape,hk.output,hk.size,fun k hlt=>hk.block k hlt (fun⟨id,hid,_⟩=>by simp[keys] at hid)⟩
theorem laid_strs{P:Program}{W:World}{n:String}{g:Nat}{t e:TypeId}{cs:Array Value}{fuel:Nat}{p:List MemPlace}{ws:List (List UInt8)}(hg:P.globalNamed n=some g)(hv:W.var? P n=some cs)(ht:P.underlying t=some (.slice e))(he:P.underlying e=some .string)(hce:P.cellsOf e=1)(hne:ws≠ [])
 (hd:DataW.trod (fun _=>()) P W 0 (fun _=>true) false fuel t cs.toList=some (.slice (ws.map fun s=> .lit (.string s)) [],p)):
 ∀(i:Nat) (x:IV),[IV.sl (ws.map fun s=> [S s])][i]?=some x→i<sizes W g∧ ∃v,W.cell? ⟨g,i,none⟩=some v∧RepI (sizes W) W x v:=by
 intro i x hx
 cases i with
 |succ i=>simp at hx
 |zero=>
  simp only[List.getElem?_cons_zero,Option.some.injEq] at hx
  subst hx
  rcases DataW.trod_slice ht hd with⟨_,h⟩|⟨a,len,cap,elems,rest,n',_,hcs,hxe,_,hlc,hcm,hel,hget,_,_⟩
  · simp at h
  · simp only[Prod.mk.injEq,DataW.slice.injEq] at hxe
    obtain⟨⟨hm,hr⟩,_⟩:=hxe
    have hlen:len=ws.length:=by rw[←hel];have:=congrArg List.length hm;simpa using this.symm
    have hcell:W.cell? ⟨g,0,none⟩=some (.slice (some a) len cap):=by
     rw[World.var?_cell hg hv 0,←Array.getElem?_toList,hcs];rfl
    have each: ∀j s,ws[j]?=some s→W.cell? ((a.add j).add 0)=some (.string ⟨s.toArray⟩):=by
     intro j s hs
     have hj:j<ws.length:=(List.getElem?_eq_some_iff.1 hs).1
     have h1:=hget j (by omega)
     rw[hce,Nat.mul_one] at h1
     have hje:elems[j]?=some elems[j]:=List.getElem?_eq_getElem (by omega)
     rw[hje] at h1
     obtain⟨c1,hc1,hc2⟩:=Option.bind_eq_some_iff.1 h1
     obtain⟨b,rfl,hb,_⟩:=DataW.trod_string he hc2
     obtain⟨_,hc3,hc4⟩:=World.cells?_some hc1
     have h0:=hc4 0 (by decide)
     have hmj:=congrArg (fun l=>l[j]?) hm
     simp only[List.getElem?_map,hs,hje,Option.map_some,Option.some.injEq] at hmj
     rw[hb] at hmj
     simp only[DataW.lit.injEq,Lit.string.injEq] at hmj
     rw[h0,hmj]
     rfl
    refine⟨sizes_cell hcell,_,hcell,?_⟩
    obtain⟨b,o,spot⟩:=a
    obtain⟨s0,hs0⟩: ∃s0,ws[0]?=some s0:=⟨_,List.getElem?_eq_getElem (List.length_pos_iff.2 hne)⟩
    have hsp:spot=none:=by simpa[Addr.add] using World.cell?_spot (each 0 s0 hs0)
    subst hsp
    have hl2:len=(ws.map fun s=> [S s]).length:=by rw[hlen,List.length_map]
    rw[hl2]
    refine .sl (k:=1) (fun i j=> .string ⟨(ws.getD i []).toArray⟩) (by omega) hcm ?_ ?_ ?_ ?_
    · intro i e' he'
      simp only[List.getElem?_map,Option.map_eq_some_iff] at he'
      obtain⟨s,_,rfl⟩:=he'
      rfl
    all_goals
     intro i e' j x' he' hx'
     simp only[List.getElem?_map,Option.map_eq_some_iff] at he'
     obtain⟨s,hs,rfl⟩:=he'
     have hj:j=0:=by have:=(List.getElem?_eq_some_iff.1 hx').1;simp at this;omega
     subst hj
     have hc:=each i s hs
     rw[Addr.add_none,Addr.add_none] at hc
     have hgd:ws.getD i [] =s:=by rw[List.getD_eq_getElem?_getD,hs];rfl
     simp only[List.getElem?_cons_zero,Option.some.injEq] at hx'
     subst hx'
     try rw[hgd]
     first
      |(have:=sizes_cell hc;omega)
      |(rw[show o+i*1+0=o+i+0 by omega];exact hc)
      |exact .im rfl
end Go.Abs
