/- Several texts in one, each with its own sentence ahead of it. Conditions: each one says its own. -/
import Derived.ChangeKeysEq
import Derived.Test.YthcjohcakdnmmaaGreatDoorZS14
import Derived.Test.YthcjohcakdnmmaaGreatDoorZS15
import Derived.Test.YthcjohcakdnmmaaGreatDoorZS18
set_option linter.all false
namespace Go.Proofs.YthcjohcakdnmmaaGreatDoor
open Go.Abs
set_option maxRecDepth 100000
attribute [local irreducible] L Code.wp bodyPost Exit.then Exit.inBlock
set_option linter.unusedVariables false
set_option linter.unusedSimpArgs false
structure Val where
 k:Int
 n:Int
 s:List UInt8
def Val.c(v:Val):List IV:= [I v.k,I v.n,S v.s]
def charOk(b:UInt8):Bool:=32≤b.toNat && b.toNat≤126 && b.toNat !=39
def goodM(v:Val):Bool:=
 if v.k=0 then v.n==0 && v.s== []
 else if v.k=1 then v.s== [] && (-1000000≤v.n && v.n≤1000000)
 else if v.k=2 then v.n==0 && (v.s.length≤8 && v.s.all charOk)
 else false
theorem good_any(v:Val):CallA Tryz.prog 56 [.agg (v.c.map .iv)] [] [] [] (aB (goodM v)):=by
 obtain⟨k,n,s⟩:=v
 refine CallA.intro 63 Tryz.func56 rfl rfl rfl (fun w0 E0=> ?_)
 (repeat' (first|refine wk1 ?_|refine wk2 (fun hb hp=> ?_) (fun hb hp=> ?_)|fail))
 all_goals try refine wkf ?_
 all_goals try (simp[goodM, *];done)
 all_goals try (simp[goodM, *];intros;omega)
 rename_i hk0 hk0' hk1 hk1' hk2 hk2' hn hn'
 subst hk2';subst hn'
 have hg:goodM ⟨2,0,s⟩=s.all charOk:=by simp[goodM];omega
 rw[hg]
 refine L.loopP (ι:=Nat) (fun i=>⟨[(40,aI (i:Int)),(39,aI (s.length:Int)),(1,.ptr 1 0)],[(1,⟨32,.l [.iv (I 2),.iv (I 0),.iv (S s)]⟩)],[]⟩) (fun i=>s.length - i) (fun i=>s.all charOk=(s.drop i).all charOk) (i0:=0) ?_ rfl ?_
 · exact wkk
 intro i hi K hK
 cases hv:s[i]? with
 |none=>
  have hlt:=ltF hv
  (repeat' (first|refine wk1 ?_|refine wk2 (fun hb hp=> ?_) (fun hb hp=> ?_)|fail))
  all_goals refine wkf ?_
  rw[hi,dropN hv];rfl
 |some b=>
  have hlt:=ltT hv
  have hlt':=ltN hv
  rw[dropC hv,List.all_cons] at hi
  (repeat' (first|refine wk1 ?_|refine wk2 (fun hb hp=> ?_) (fun hb hp=> ?_)|fail))
  all_goals try refine wkf ?_
  all_goals try (rw[hi];simp[charOk, *];done)
  all_goals try (rw[hi];simp[charOk, *];intros;omega)
  refine hK _ (i+1) ?_ (by omega) ?_
  · have h1:charOk b=true:=by
     simp[charOk];omega
    rw[hi,h1];rfl
  · exact wkk
end Go.Proofs.YthcjohcakdnmmaaGreatDoor
namespace Go.Proofs.YthcjohcakdnmmaaGreatDoor
open Go.Abs
set_option maxRecDepth 100000
attribute [local irreducible] L Code.wp bodyPost Exit.then Exit.inBlock
set_option linter.unusedVariables false
set_option linter.unusedSimpArgs false
def u8(n:Int):UInt8:=UInt8.ofNat (IntKind.u8.wrap n).toNat
def be4(x:Int):List UInt8:= [u8 (x / 16777216),u8 (x / 65536),u8 (x / 256),u8 x]
end Go.Proofs.YthcjohcakdnmmaaGreatDoor
namespace Go.Proofs.YthcjohcakdnmmaaGreatDoor
open Go.Abs
set_option maxRecDepth 100000
attribute [local irreducible] L Code.wp bodyPost Exit.then Exit.inBlock
set_option linter.unusedVariables false
set_option linter.unusedSimpArgs false
set_option maxRecDepth 100000
section
variable {s:List UInt8}{acc:List Val}{b:UInt8}{r r':List UInt8}{v:Val}
end
end Go.Proofs.YthcjohcakdnmmaaGreatDoor
namespace Go.Proofs.YthcjohcakdnmmaaGreatDoor
open Go.Abs
set_option maxRecDepth 100000
attribute [local irreducible] L Code.wp bodyPost Exit.then Exit.inBlock
set_option linter.unusedVariables false
set_option linter.unusedSimpArgs false
end Go.Proofs.YthcjohcakdnmmaaGreatDoor
namespace Go.Proofs.YthcjohcakdnmmaaGreatDoor
open Go.Abs
set_option linter.unusedVariables false
set_option linter.unusedSimpArgs false
end Go.Proofs.YthcjohcakdnmmaaGreatDoor
namespace Go.Proofs.YthcjohcakdnmmaaGreatDoor
open Go.Abs
set_option maxRecDepth 100000
attribute [local irreducible] L Code.wp bodyPost Exit.then Exit.inBlock
set_option linter.unusedVariables false
set_option linter.unusedSimpArgs false
end Go.Proofs.YthcjohcakdnmmaaGreatDoor
namespace Go.Abs
open Go.RowKit (Below)
set_option linter.unusedVariables false
set_option linter.unusedSectionVars false
section
variable {P:Program}{c:Ctx}{st:St}{ops:Array Oper}{Q:Exit→Act→World→Prop}{rest:List Oper}{o:Oper}
theorem L.appendA(N:Nat){t t' e:TypeId}{dd:TypeDesc}{x y:Operand}{id k bytes d:Nat}{i:TypeInfo}{z:Value}{n m:Nat}{b:Box}{old cs:List AV}(hg:o.guard=none)(hdst:o.dst=some d)(hlt:Nat.ble (d+1) c.nt=true)
 (ho:o.op= .call {callee:= .builtin .append,args:= #[x,y],argTypes:= #[t,t']}) (ht:P.underlying t=some (.slice e)) (hi0:P.info? e=some i) (hik:i.size=k) (hib:i.bytes=bytes) (hiz:i.zero=some z) (hzk:z.cells.size=k) (hz1: ∀u∈z.cells.toList,u.oneCell'=true)
 (hd:P.underlying t'=some dd) (hn:notInt dd) (hk0:0<k) (hx:st.ev x= .bsh id 0 n k) (hb:st.bx.lookup id=some b) (hbe:b.ty=e) (hbn:b.cs≠ []) (hold:b.cs.take (n*k)=old) (hol:old.length=n*k) (hy:AddA P c st y k m cs) (hcl:cs.length=m*k) (hpos:0<m)
 (hm:n+m≤maxLen) (hby:(n+m)*bytes≤140737488355328) (hf:st.fresh N=true) (hmo:AV.ments N cs=false)
 (h:L c ⟨(d,.bsh N 0 (n+m) k)::st.fr,(N,⟨e,.l (old++cs)⟩)::(id,⟨e,.l []⟩)::st.bx,st.tk⟩ (wpList P ops Q rest)):L c st (wpList P ops Q (o::rest)):=by
 subst hik;subst hib;subst hbe
 rintro a w ⟨E,hi⟩
 have hne':id≠N:=(St.fresh_bx hf hb).1
 have hv:=hi.ev x;rw[hx] at hv
 obtain⟨cap,o',hq,hn1,hmx,he,hoo⟩:=hv.bsh_inv
 simp only[Nat.sub_zero,Nat.zero_mul,Nat.zero_add] at hq hn1 hoo
 have hmold:AV.ments N old=false:=ments_all (fun x hx=>by
  rw[←hold] at hx
  exact ments_mem (St.fresh_bx hf hb).2 (List.mem_of_mem_take hx))
 by_cases hroom:n+m≤cap
 ·
  have hoe:o'=0:=hoo (by omega)
  subst hoe
  obtain⟨us,hsrc,hrn,hul,h1u⟩:=hy E a w hi
  obtain⟨h0,arr,ha,hla,h1,hra,hη⟩:=hi.heap.box id _ hb hbn
  have hcap:=hη i.size cap he
  have hmul:(n+m)*i.size≤cap*i.size:=Nat.mul_le_mul_right _ hroom
  rw[Nat.add_mul] at hmul
  have hap:=app_room2 (ty:=o.type) ht hd hn hi0 hsrc.1 hsrc.2.1 ha h1u hroom (n:=n) (by rw[hul];simp;omega)
  have hrun:(execOp a.eval o).run P w= .ok (.value (.slice (some ⟨E.ρ id,0,none⟩) (n+m) cap)) (w.setRow (E.ρ id) ((arr.take (n*i.size)++us++arr.drop (n*i.size+us.length)).toArray)):=by
   simp[execOp,ho,resolve,invoke,builtin,hq,hap]
  have hol2:(arr.take (n*i.size)).length=n*i.size:=by rw[List.length_take];omega
  have hrel:RelL E w (old++cs++List.replicate (arr.length - (n*i.size+m*i.size)) .any) (arr.take (n*i.size)++us++arr.drop (n*i.size+us.length)):=by
   refine⟨by simp only[List.length_append,List.length_replicate,List.length_take,List.length_drop,hol,hcl,hul];omega,fun p x u hxp hup=> ?_⟩
   by_cases hp1:p<n*i.size
   · rw[List.append_assoc,List.getElem?_append_left (by omega)] at hxp hup
     rw[List.getElem?_take,if_pos hp1] at hup
     refine hra p x u ?_ hup
     rw[←hold,List.getElem?_take,if_pos hp1] at hxp
     exact hxp
   · by_cases hp2:p<n*i.size+m*i.size
     · rw[List.getElem?_append_left (by simp only[List.length_append];omega),List.getElem?_append_right (by omega),hol] at hxp
       rw[List.getElem?_append_left (by simp only[List.length_append];omega),List.getElem?_append_right (by omega),hol2] at hup
       exact hrn.2 _ x u hxp hup
     · rw[List.getElem?_append_right (by simp only[List.length_append];omega),List.getElem?_replicate] at hxp
       split at hxp
       · cases hxp;exact .any
       · cases hxp
  have hus1: ∀u∈arr.take (n*i.size)++us++arr.drop (n*i.size+us.length),u.oneCell'=true:=fun u hu=>by
   rcases List.mem_append.1 hu with hu|hu
   · rcases List.mem_append.1 hu with hu|hu
     · exact h1 u (List.mem_of_mem_take hu)
     · exact h1u u hu
   · exact h1 u (List.mem_of_mem_drop hu)
  have husl:(arr.take (n*i.size)++us++arr.drop (n*i.size+us.length)).length=arr.length:=by
   simp only[List.length_append,List.length_take,List.length_drop,hul];omega
  have hi2:=hi.setBox hb hbn (arr:=arr) (rest:= []) (by simpa using ha) (by simp) husl hrel hus1
  rw[List.append_nil] at hi2
  have hcapl:cap*i.size≤arr.length:=hcap
  refine wpList_plain hg (fun K hK=>Oper.wp_value hrun (hK _ _ ?_))
  rw[hdst]
  have hXl:(old++cs++List.replicate (arr.length - (n*i.size+m*i.size)) AV.any).length=arr.length:=by
   simp only[List.length_append,List.length_replicate,hol,hcl];omega
  have hpk:0<m*i.size:=Nat.mul_pos hpos hk0
  have hXn:(⟨b.ty,.l (old++cs++List.replicate (arr.length - (n*i.size+m*i.size)) AV.any)⟩:Box).cs≠ []:=fun e0=>by
   have:=congrArg List.length e0
   simp only[Box.cs_l,List.length_nil] at this
   rw[hXl] at this;omega
  have hL:L c ⟨(d,.bsl id 0 (n+m) cap)::st.fr,(id,⟨b.ty,.l (old++cs++List.replicate (arr.length - (n*i.size+m*i.size)) AV.any)⟩)::st.bx,st.tk⟩ (wpList P ops Q rest):=by
   refine L.renameA d N ((n+m)*i.size) i.size lookup_cons_eq lookup_cons_eq hXn ?_ ?_ (by simp only[Box.cs_l];rw[hXl];exact hcapl)
   · have hmx':AV.ments N (old++cs++List.replicate (arr.length - (n*i.size+m*i.size)) AV.any)=false:=ments_app (ments_app hmold hmo) (ments_any _ _)
     have hment:Box.ment N ⟨b.ty,.l (old++cs++List.replicate (arr.length - (n*i.size+m*i.size)) AV.any)⟩=false:=by rw[Box.ment_eq];exact hmx'
     revert hment
     generalize (⟨b.ty,.l (old++cs++List.replicate (arr.length - (n*i.size+m*i.size)) AV.any)⟩:Box)=B
     intro hment
     simp only[St.fresh,List.all_cons,AV.ment] at hf⊢
     simp only[Bool.and_eq_true] at hf⊢
     have e1:(id==N)=false:=by simpa using hne'
     have e2:(id !=N)=true:=by simpa using hne'
     simp[e1,e2,hf.1.1,hf.1.2,hf.2,hment]
   have htk:(old++cs++List.replicate (arr.length - (n*i.size+m*i.size)) AV.any).take ((n+m)*i.size)=old++cs:=by
    rw[List.take_append_of_le_length (by rw[List.length_append,hol,hcl,Nat.add_mul];exact Nat.le_refl _),List.take_of_length_le (by rw[List.length_append,hol,hcl,Nat.add_mul];exact Nat.le_refl _)]
   simp only[Box.cs_l,htk]
   refine L.wk (st':=⟨(d,.bsh N 0 (n+m) i.size)::st.fr,(N,⟨b.ty,.l (old++cs)⟩)::(id,⟨b.ty,.l []⟩)::st.bx,st.tk⟩) ⟨fun i hin=> ?_,fun s v hs=> ?_,fun i b hi=> ?_,fun i t h=>h⟩ h
   · have h3:=(hi2.heap.ins i hin).2.2
     simp only at h3⊢
     by_cases e1:i=N
     · subst e1;rw[lookup_cons_eq];rfl
     · rw[lookup_cons_ne e1]
       by_cases e2:i=id
       · subst e2;rw[lookup_cons_eq];rfl
       · rw[lookup_cons_ne e2] at h3⊢;exact h3
   · simp only at hs⊢
     by_cases e1:s=d
     · subst e1;rw[lookup_cons_eq] at hs⊢;exact⟨v,hs,Sub.refl _⟩
     · rw[lookup_cons_ne e1] at hs;rw[lookup_cons_ne e1,lookup_cons_ne e1];exact⟨v,hs,Sub.refl _⟩
   · simp only at hi⊢
     by_cases e1:i=N
     · subst e1;rw[lookup_cons_eq] at hi⊢;exact⟨b,hi,rfl,Subs.refl _⟩
     · rw[lookup_cons_ne e1] at hi;rw[lookup_cons_ne e1]
       by_cases e2:i=id
       · subst e2;rw[lookup_cons_eq] at hi⊢;exact⟨b,hi,rfl,Subs.refl _⟩
       · rw[lookup_cons_ne e2] at hi;rw[lookup_cons_ne e2,lookup_cons_ne e2];exact⟨b,hi,rfl,Subs.refl _⟩
  exact hL _ _ ⟨E,hi2.put (st:=⟨st.fr,_,st.tk⟩) (Nat.le_of_ble_eq_true hlt) (.bsl (by omega) hmx (fun h=>by omega) (by simp))⟩
 · obtain⟨u,E',w',hrun,hi3,hu⟩:=growA_core (off:=0) hi ho ht hi0 rfl rfl hiz hzk hz1 hd hn hk0 hq hoo hn1 hb (by simpa using hold) hol (by omega) hy hpos hm hby hf hmold hmo
   refine wpList_plain hg (fun K hK=>Oper.wp_value hrun (hK _ _ ?_))
   rw[hdst]
   have hL:L c ⟨(d,.bsh N 0 (n+m) i.size)::st.fr,(N,⟨b.ty,.l (old++cs)⟩)::st.bx,st.tk⟩ (wpList P ops Q rest):=by
    refine L.kill id (b:=b) (by simp only;rw[lookup_cons_ne hne'];exact hb) hbn ?_
    refine L.wk (st':=⟨(d,.bsh N 0 (n+m) i.size)::st.fr,(N,⟨b.ty,.l (old++cs)⟩)::(id,⟨b.ty,.l []⟩)::st.bx,st.tk⟩) ⟨fun i hin=> ?_,fun s v hs=>⟨v,hs,Sub.refl _⟩,fun i b hi=> ?_,fun i t h=>h⟩ h
    · have h3:=(hi3.heap.ins i hin).2.2
      simp only at h3⊢
      by_cases e1:i=N
      · subst e1;rw[lookup_cons_eq];rfl
      · rw[lookup_cons_ne e1] at h3⊢
        by_cases e2:i=id
        · subst e2;rw[lookup_cons_eq];rfl
        · rw[lookup_cons_ne e2];exact h3
    · simp only at hi⊢
      by_cases e1:i=N
      · subst e1;rw[lookup_cons_eq] at hi;rw[lookup_cons_ne (Ne.symm hne'),lookup_cons_eq];exact⟨b,hi,rfl,Subs.refl _⟩
      · rw[lookup_cons_ne e1] at hi
        by_cases e2:i=id
        · subst e2;rw[lookup_cons_eq] at hi⊢;exact⟨b,hi,rfl,Subs.refl _⟩
        · rw[lookup_cons_ne e2] at hi;rw[lookup_cons_ne e2,lookup_cons_ne e1];exact⟨b,hi,rfl,Subs.refl _⟩
   exact hL _ _ ⟨E',hi3.put (st:=⟨st.fr,_,st.tk⟩) (Nat.le_of_ble_eq_true hlt) hu⟩
theorem Makes.growAn{t t' e:TypeId}{dd:TypeDesc}{x y:Operand}{id' k bytes:Nat}{i:TypeInfo}{z:Value}{m:Nat}{cs:List AV}
 (ho:o.op= .call {callee:= .builtin .append,args:= #[x,y],argTypes:= #[t,t']}) (ht:P.underlying t=some (.slice e)) (hi0:P.info? e=some i) (hik:i.size=k) (hib:i.bytes=bytes) (hiz:i.zero=some z) (hzk:z.cells.size=k) (hz1: ∀u∈z.cells.toList,u.oneCell'=true)
 (hd:P.underlying t'=some dd) (hn:notInt dd) (hk0:0<k) (hx:st.ev x= .nils) (hy:AddA P c st y k m cs) (hcl:cs.length=m*k) (hpos:0<m)
 (hm:m≤maxLen) (hby:m*bytes≤140737488355328) (hf:st.fresh id'=true) (hmo:AV.ments id' cs=false):Makes P c st o (.bsh id' 0 m k) ((id',⟨e,.l cs⟩)::st.bx) st.tk:=fun E a w hi=>by
 subst hik;subst hib
 have h:=hi.ev x;rw[hx] at h
 have hq:a.eval x= .slice none 0 0:=by generalize a.eval x=u at h;cases h;rfl
 obtain⟨us,hsrc,hrn,hul,hu1⟩:=hy E a w hi
 have hexec:(execOp a.eval o).run P w=((Builtin.append_ #[t,t'] o.type #[a.eval x,a.eval y]).run P w).andThen fun v w'=> .ok (.value v) w':=by
  simp[execOp,ho,resolve,invoke,builtin]
 have hfc:(Builtin.firstCells i.size 0 (.slice none 0 0)).run P w.drew= .ok ([]:List Value).toArray w.drew:=by simp[Builtin.firstCells]
 have hrun:=app_grow (ty:=o.type) (n:=0) (cap:=0) ht hd hn hi0 hiz hsrc hfc (by omega) (by simp only[maxLen] at hm;omega) (growslice_fits (by omega) (by simpa using hby))
 simp only[Nat.zero_add] at hrun
 have hge:m≤grownCap w m 0 e:=grownCap_ge _ _ _ _
 have hcm:=grownCap_le_maxLen w m 0 e hm
 have hlen:(us++(Builtin.zeroCells z.cells (grownCap w m 0 e - m)).toList).length=grownCap w m 0 e*i.size:=by
  simp only[List.length_append,hul,Array.length_toList,size_zeroCells,hzk]
  rw[←Nat.add_mul];congr 1;omega
 have hrel:=RelL.keep (E:=E) (w:=w) (w':=w.drew) (fun _ _ _=>rfl) hrn
 have hi':=hi.drew.newRoom hf (ty:=e) (cs:=cs) (us:=us++(Builtin.zeroCells z.cells (grownCap w m 0 e - m)).toList) (capV i.size (grownCap w m 0 e))
  (by rw[hlen,hcl];exact Nat.mul_le_mul_right _ hge)
  (fun p x u hx hu=>by
    have hlt:=(List.getElem?_eq_some_iff.1 hx).1
    rw[List.getElem?_append_left (by rw[hrel.1];exact hlt)] at hu
    exact hrel.2 p x u hx hu)
  (fun u hu=>by
    rcases List.mem_append.1 hu with hu|hu
    · exact hu1 u hu
    · simp only[Builtin.zeroCells,Array.toList_map,Array.toList_range,List.mem_map,List.mem_range] at hu
      obtain⟨p,_,rfl⟩:=hu
      have hlt:p % z.cells.size<z.cells.size:=Nat.mod_lt _ (by rw[hzk];exact hk0)
      rw[getElem!_pos z.cells _ hlt]
      exact hz1 _ (by simp))
  hmo (fun k' cap' he=>by
   obtain⟨rfl,rfl⟩:=capV_inj he
   exact Nat.le_of_eq hlen.symm)
 refine⟨_,_,_,?_,hi',.bsh (cap:=grownCap w m 0 e) (o:=0) (by omega) hcm (by simp[Env.upd]) (fun _=>by simp) rfl⟩
 rw[hexec,hq,hrun]
 simp[Env.upd]
end
section
variable {P:Program}{c:Ctx}{fr:List (Nat×AV)}{bx:List (Nat×Box)}{tk:List (Nat×Tok)}{ops:Array Oper}{Q:Exit→Act→World→Prop}{rest:List Oper}
 {d:Nat} {ty:TypeId} {pos:String} {aft:Array Edge} {st0:St} {done:List Eff}
theorem s_appendA(N:Nat){t t' e e':TypeId}{x y:Operand}{k k2 bytes n nr id lit m capy:Nat}{b bl:Box}{old new cs:List AV}(hlt:Nat.ble (d+1) c.nt=true)(hx:St.ev ⟨fr,bx,tk⟩ x= .bsh id 0 n k)(hy:St.ev ⟨fr,bx,tk⟩ y= .bsl lit 0 m capy)[hr:RowTy P t e k bytes][hs2:SliceTy P t' e' k2](hb:bx.lookup id=some b)(hbe:b.ty=e)(hbn:b.cs≠ [])(hold:b.cs.take (n*k)=old)(hol:old.length=n*k)(hbl:bx.lookup lit=some bl)(hnew:bl.cs.take (m*k)=new)(hnl:new.length=m*k)(hpos:0<m)(hm:n+m≤maxLen)(hby:(n+m)*bytes≤140737488355328)(hf:St.fresh N ⟨fr,bx,tk⟩=true)(hmo:AV.ments N new=false)(her:old++new=cs)(hnr:n+m=nr)
 (h:LW P c ⟨(d,.bsh N 0 nr k)::fr,(N,⟨e,.l cs⟩)::(id,⟨e,.l []⟩)::bx,tk⟩ ops Q rest):LW P c ⟨fr,bx,tk⟩ ops Q (⟨some d,.call {callee:= .builtin .append,args:= #[x,y],argTypes:= #[t,t']},ty,pos,aft,none⟩::rest):=by
 obtain⟨ht,hk0,i0,z,hi0,hik,hib,hiz,hzk,hz1⟩:=rowOk_run hr.h
 subst her;subst hnr
 exact .mk (L.appendA (st:=⟨fr,bx,tk⟩) N rfl rfl hlt rfl ht hi0 hik hib hiz hzk hz1 (sliceOk_run hs2.h).1 (.inl ⟨_,rfl⟩) hk0 hx hb hbe hbn hold hol (.bsl hy hbl (by rw[List.drop_zero];exact hnew) hnl) hnl hpos hm hby hf hmo (LW.out h))
theorem d_appendA(N:Nat){t t' e e':TypeId}{x y:Operand}{k k2 bytes n nr id lit m capy:Nat}{b bl:Box}{old new cs:List AV}(hlt:Nat.ble (d+1) c.nt=true)(hx:St.ev ⟨fr,bx,tk⟩ x= .bsh id 0 n k)(hy:St.ev ⟨fr,bx,tk⟩ y= .bsl lit 0 m capy)[hr:RowTy P t e k bytes][hs2:SliceTy P t' e' k2](hb:bx.lookup id=some b)(hbe:b.ty=e)(hbn:b.cs≠ [])(hold:b.cs.take (n*k)=old)(hol:old.length=n*k)(hbl:bx.lookup lit=some bl)(hnew:bl.cs.take (m*k)=new)(hnl:new.length=m*k)(hpos:0<m)(hm:n+m≤maxLen)(hby:(n+m)*bytes≤140737488355328)(hf:St.fresh N ⟨fr,bx,tk⟩=true)(hmo:AV.ments N new=false)(her:old++new=cs)(hnr:n+m=nr)
 (h:DR P c ops Q st0 (⟨some (d,.bsh N 0 nr k),((N,⟨e,.l cs⟩)::(id,⟨e,.l []⟩):: []),[],[],[id,lit],[],[N]⟩::done) ⟨(d,.bsh N 0 nr k)::fr,(N,⟨e,.l cs⟩)::(id,⟨e,.l []⟩)::bx,tk⟩ rest):DR P c ops Q st0 done ⟨fr,bx,tk⟩ (⟨some d,.call {callee:= .builtin .append,args:= #[x,y],argTypes:= #[t,t']},ty,pos,aft,none⟩::rest):=
 DR.cons (e:=⟨some (d,.bsh N 0 nr k),((N,⟨e,.l cs⟩)::(id,⟨e,.l []⟩):: []),[],[],[id,lit],[],[N]⟩) (fun st' hag Q' hL=>LW.out (s_appendA (fr:=st'.fr) (bx:=st'.bx) (tk:=st'.tk) N hlt ((hag.ev x (by simp[Op.operands,Call.operands])).trans hx) ((hag.ev y (by simp[Op.operands,Call.operands])).trans hy) ((hag.bx id (by simp)).trans hb) hbe hbn hold hol ((hag.bx lit (by simp)).trans hbl) hnew hnl hpos hm hby (hag.fs N (by simp)) hmo her hnr (s_nil hL))) h
theorem s_appendAn(N:Nat){t t' e e':TypeId}{x y:Operand}{k k2 bytes lit m capy:Nat}{bl:Box}{new:List AV}(hlt:Nat.ble (d+1) c.nt=true)(hx:St.ev ⟨fr,bx,tk⟩ x= .nils)(hy:St.ev ⟨fr,bx,tk⟩ y= .bsl lit 0 m capy)[hr:RowTy P t e k bytes][hs2:SliceTy P t' e' k2](hbl:bx.lookup lit=some bl)(hnew:bl.cs.take (m*k)=new)(hnl:new.length=m*k)(hpos:0<m)(hm:m≤maxLen)(hby:m*bytes≤140737488355328)(hf:St.fresh N ⟨fr,bx,tk⟩=true)(hmo:AV.ments N new=false)
 (h:LW P c ⟨(d,.bsh N 0 m k)::fr,(N,⟨e,.l new⟩)::bx,tk⟩ ops Q rest):LW P c ⟨fr,bx,tk⟩ ops Q (⟨some d,.call {callee:= .builtin .append,args:= #[x,y],argTypes:= #[t,t']},ty,pos,aft,none⟩::rest):=by
 obtain⟨ht,hk0,i0,z,hi0,hik,hib,hiz,hzk,hz1⟩:=rowOk_run hr.h
 exact .mk (L.make (st:=⟨fr,bx,tk⟩) rfl rfl hlt (.growAn rfl ht hi0 hik hib hiz hzk hz1 (sliceOk_run hs2.h).1 (.inl ⟨_,rfl⟩) hk0 hx (.bsl hy hbl (by rw[List.drop_zero];exact hnew) hnl) hnl hpos hm hby hf hmo) (LW.out h))
theorem d_appendAn(N:Nat){t t' e e':TypeId}{x y:Operand}{k k2 bytes lit m capy:Nat}{bl:Box}{new:List AV}(hlt:Nat.ble (d+1) c.nt=true)(hx:St.ev ⟨fr,bx,tk⟩ x= .nils)(hy:St.ev ⟨fr,bx,tk⟩ y= .bsl lit 0 m capy)[hr:RowTy P t e k bytes][hs2:SliceTy P t' e' k2](hbl:bx.lookup lit=some bl)(hnew:bl.cs.take (m*k)=new)(hnl:new.length=m*k)(hpos:0<m)(hm:m≤maxLen)(hby:m*bytes≤140737488355328)(hf:St.fresh N ⟨fr,bx,tk⟩=true)(hmo:AV.ments N new=false)
 (h:DR P c ops Q st0 (⟨some (d,.bsh N 0 m k),((N,⟨e,.l new⟩):: []),[],[],[lit],[],[N]⟩::done) ⟨(d,.bsh N 0 m k)::fr,(N,⟨e,.l new⟩)::bx,tk⟩ rest):DR P c ops Q st0 done ⟨fr,bx,tk⟩ (⟨some d,.call {callee:= .builtin .append,args:= #[x,y],argTypes:= #[t,t']},ty,pos,aft,none⟩::rest):=
 DR.cons (e:=⟨some (d,.bsh N 0 m k),((N,⟨e,.l new⟩):: []),[],[],[lit],[],[N]⟩) (fun st' hag Q' hL=>LW.out (s_appendAn (fr:=st'.fr) (bx:=st'.bx) (tk:=st'.tk) N hlt ((hag.ev x (by simp[Op.operands,Call.operands])).trans hx) ((hag.ev y (by simp[Op.operands,Call.operands])).trans hy) ((hag.bx lit (by simp)).trans hbl) hnew hnl hpos hm hby (hag.fs N (by simp)) hmo (s_nil hL))) h
theorem s_buildA{t e:TypeId}{n k:Nat}{parts:Array (Nat×Operand)}{zs:List Value}{cs:List AV}(hlt:Nat.ble (d+1) c.nt=true)[hs:SliceTy P t e k][hz:ZeroTy P e zs](h1:zs.all (·.oneCell')=true)(hzl:zs.length=k)(hn:Nat.ble (n*k) 16777216=true)(hnk:Nat.ble 1 k=true)(hf:fillA (fun i=>some (i*k,k)) ((List.range (n*k)).map fun i=>constCell (zs.getD (i % k) undef)) (parts.toList.map fun x=>(x.1,St.ev ⟨fr,bx,tk⟩ x.2))=some cs)(hcl:cs.length=n*k)(hm:AV.ments d cs=false)(hfr:St.fresh d ⟨fr,bx,tk⟩=true)
 (h:LW P c ⟨(d,.bsl d 0 n n)::fr,(d,⟨e,.l cs⟩)::bx,tk⟩ ops Q rest):LW P c ⟨fr,bx,tk⟩ ops Q (⟨some d,.buildSlice t n parts,ty,pos,aft,none⟩::rest):=by
 exact .mk (L.make (st:=⟨fr,bx,tk⟩) rfl rfl hlt (.buildBox rfl hs.h hz.h h1 hzl (Nat.le_of_ble_eq_true hn) (Nat.le_of_ble_eq_true hnk) hf hcl hm hfr) (LW.out h))
theorem d_buildA{t e:TypeId}{n k:Nat}{parts:Array (Nat×Operand)}{zs:List Value}{cs:List AV}(hlt:Nat.ble (d+1) c.nt=true)[hs:SliceTy P t e k][hz:ZeroTy P e zs](h1:zs.all (·.oneCell')=true)(hzl:zs.length=k)(hn:Nat.ble (n*k) 16777216=true)(hnk:Nat.ble 1 k=true)(hf:fillA (fun i=>some (i*k,k)) ((List.range (n*k)).map fun i=>constCell (zs.getD (i % k) undef)) (parts.toList.map fun x=>(x.1,St.ev ⟨fr,bx,tk⟩ x.2))=some cs)(hcl:cs.length=n*k)(hm:AV.ments d cs=false)(hfr:St.fresh d ⟨fr,bx,tk⟩=true)
 (h:DR P c ops Q st0 (⟨some (d,.bsl d 0 n n),((d,⟨e,.l cs⟩):: []),[],[],[],[],[d]⟩::done) ⟨(d,.bsl d 0 n n)::fr,(d,⟨e,.l cs⟩)::bx,tk⟩ rest):DR P c ops Q st0 done ⟨fr,bx,tk⟩ (⟨some d,.buildSlice t n parts,ty,pos,aft,none⟩::rest):=
 DR.cons (e:=⟨some (d,.bsl d 0 n n),((d,⟨e,.l cs⟩):: []),[],[],[],[],[d]⟩) (fun st' hag Q' hL=>LW.out (s_buildA (fr:=st'.fr) (bx:=st'.bx) (tk:=st'.tk) hlt h1 hzl hn hnk ((by rw[agP hag.ev (fun x hx=>by simp only[Op.operands];exact List.mem_toArray.2 (List.mem_map.2 ⟨x,by simpa using hx,rfl⟩))];exact hf)) hcl hm (hag.fs d (by simp)) (s_nil hL))) h
end
section
variable {c:Ctx}{F:List Rw}{st:St}{X:Act→World→Prop}
theorem LF.closeB(K j d:Nat){t:TypeId}{n k m:Nat}{es:List (List IV)}{ty:TypeId}{cs:List AV}(hin:c.ins= [])(hK:st.bx.lookup K=some ⟨ty,.l cs⟩)(hj:cs[j]?=some (.bsh d 0 n k))(hd:st.bx.lookup d=some ⟨t,.r es.flatten m⟩)(hKd:K≠d)(hk: ∀e∈es,e.length=k)(hk0:0<k)(hn:es.length=n)(hn0:0<n)
 (h: ∀r:Rw,r.t=t→r.n=n→r.k=k→r.xs=es.flatten→LF c (r::F) ⟨st.fr,(K,⟨ty,.l (cs.set j (.iv (.im r.u)))⟩)::(d,⟨t,.l []⟩)::st.bx,st.tk⟩ X):LF c F st X:=by
 rintro a w E hi hF
 have hfl:=flatten_len es hk
 have hbn:(⟨t,.r es.flatten m⟩:Box).cs≠ []:=fun e=>by
  simp only[Box.cs_r,List.append_eq_nil_iff,List.map_eq_nil_iff] at e
  rw[e.1] at hfl
  have:=Nat.mul_pos (by omega:0<es.length) hk0
  simp at hfl;omega
 have hjl:=(List.getElem?_eq_some_iff.1 hj).1
 have hKn:(⟨ty,.l cs⟩:Box).cs≠ []:=fun e=>by
  simp only[Box.cs_l] at e
  rw[e] at hjl;simp at hjl
 obtain⟨g0,arK,haK,hlK,h1K,hrK,hηK⟩:=hi.heap.box K _ hK hKn
 have hjK:j<arK.length:=by simp only[Box.cs_l] at hlK;omega
 obtain⟨cap,o,hq,hnc,hcm,heta,hoo⟩:=(hrK j (.bsh d 0 n k) arK[j] (by simpa using hj) (List.getElem?_eq_getElem hjK)).bsh_inv
 obtain⟨h0,arr,ha,hl,h1,hr,hη⟩:=hi.heap.box d _ hd hbn
 simp only[Nat.sub_zero,Nat.zero_add,Nat.zero_mul] at hq hnc hoo
 have ho0:o=0:=hoo (by omega)
 subst ho0
 have hcapl:=hη k cap heta
 have hh:=hi.heap.reBox (b':=⟨t,.l []⟩) hd hbn (fun h=>(h rfl).elim)
 have hh2:=hh.reBox (id:=K) (b:=⟨ty,.l cs⟩) (b':=⟨ty,.l (cs.set j (.iv (.im (Rw.u ⟨t,E.ρ d,n,cap,k,es.flatten⟩))))⟩) (by rw[lookup_cons_ne hKd];exact hK) hKn (fun _=>⟨g0,arK,haK,by simpa using hlK,h1K,fun p x u hx hu=>by
  simp only[Box.cs_l] at hx
  by_cases e:p=j
  · subst e
    rw[List.getElem?_set_self hjl] at hx
    cases hx
    rw[List.getElem?_eq_getElem hjK] at hu
    cases hu
    rw[hq]
    exact .iv (.im rfl)
  · rw[List.getElem?_set_ne (Ne.symm e)] at hx
    exact hrK p x u (by simpa using hx) hu,hηK⟩)
 refine h ⟨t,E.ρ d,n,cap,k,es.flatten⟩ rfl rfl rfl rfl a w E ⟨hi.defers,hi.size,hi.slot,hh2⟩ ⟨fun r hr'=> ?_,fun r hr'=> ?_,fun r hr' id b hl' hn'=> ?_,?_⟩
 · rcases List.mem_cons.1 hr' with rfl|hr'
   · exact⟨h0,hnc,hcm,by rw[hfl,hn],arr,ha,hcapl,h1,fun i x u hx hu=>by
      refine(hr i (.iv x) u ?_ hu).iv_inv
      simp only[Box.cs_r]
      rw[List.getElem?_append_left (by rw[List.length_map];exact(List.getElem?_eq_some_iff.1 hx).1),List.getElem?_map,hx];rfl⟩
   · exact hF.ok r hr'
 · rcases List.mem_cons.1 hr' with rfl|hr'
   · rcases hi.heap.own d _ hd hbn with h|⟨id,hid,_⟩
     · exact h
     · rw[hin] at hid;cases hid
   · exact hF.own r hr'
 · have hid:id≠d:=fun e=>by
    subst e
    rw[lookup_cons_ne (Ne.symm hKd),lookup_cons_eq] at hl';cases hl';exact hn' rfl
   have hex: ∃b0,st.bx.lookup id=some b0∧b0.cs≠ []:=by
    by_cases e:id=K
    · subst e;exact⟨_,hK,hKn⟩
    · rw[lookup_cons_ne e,lookup_cons_ne hid] at hl';exact⟨b,hl',hn'⟩
   obtain⟨b0,hb0,hn0'⟩:=hex
   rcases List.mem_cons.1 hr' with rfl|hr'
   · exact fun e=>hid (hi.heap.bb id d b0 _ hb0 hd hn0' hbn e)
   · exact hF.bx r hr' id b0 hb0 hn0'
 · rw[List.map_cons,List.nodup_cons]
   refine⟨fun hm=> ?_,hF.nd⟩
   obtain⟨r,hr',e⟩:=List.mem_map.1 hm
   exact hF.bx r hr' d _ hd hbn e.symm
end
end Go.Abs
namespace Go.Abs
set_option linter.unusedVariables false
end Go.Abs
namespace Go.Abs
set_option linter.unusedVariables false
set_option linter.unusedSectionVars false
set_option linter.unusedSimpArgs false
theorem arrOk_run{P:Program}{t e:TypeId}{n:Nat}(hs:arrOk P t e n=true):P.underlying t=some (.array n e)∧ ∃inf,P.info? e=some inf∧inf.size=1:=by
 unfold arrOk at hs
 simp only[Bool.and_eq_true] at hs
 obtain⟨hs1,hs2⟩:=hs
 refine⟨?_,?_⟩
 · split at hs1
   · rename_i m e' hm
     simp only[Bool.and_eq_true,beq_iff_eq] at hs1
     rw[hm,hs1.1,hs1.2]
   · cases hs1
 · cases hinf:P.info? e with
   |none=>rw[hinf] at hs2;simp at hs2
   |some inf=>rw[hinf] at hs2;exact⟨inf,rfl,by simpa using hs2⟩
section
variable {P:Program}{c:Ctx}{st:St}{o:Oper}
theorem Yields.indexArr{x i:Operand}{t e:TypeId}{m:Nat}{cs:List AV}{kd:IntKind}{n:Int}{v:AV}(ho:o.op= .index t x i)(hs:arrOk P t e m=true)(he:P.plainKey e=true)(hx:st.ev x= .agg cs)(hm:cs.length=m)(hi':st.ev i= .iv (.im (.int kd n)))(h0:0≤n)(hv:cs[n.toNat]?=some v):Yields P c st o v:=fun E a w hi=>by
 have e1:=hi.im hi'
 obtain⟨hu,inf,hinf,hsz⟩:=arrOk_run hs
 have h:=hi.ev x;rw[hx] at h
 generalize hq:a.eval x=u at h
 cases h with
 | @agg _ us hl h1 hr=>
   have hlt:=(List.getElem?_eq_some_iff.1 hv).1
   have hlu:n.toNat<us.length:=by omega
   have hget:us.toArray[n.toNat*1]?=some us[n.toNat]:=by simp[hlu]
   refine⟨us[n.toNat],?_,hr _ _ _ hv (List.getElem?_eq_getElem hlu)⟩
   have hp:=run_part_plain (P:=P) (w:=w) he hget
   have hb:0≤n∧n<(m:Int):=⟨h0,by omega⟩
   simp[execOp,ho,hq,e1,Instr.index,asIntOf,run_underlying hu,sizeOf,typeInfo,hinf,hsz,hb]
   rw[Nat.mul_one] at hp
   rw[hp];rfl
theorem Yields.buildArr{t e:TypeId}{m:Nat}{parts:Array (Nat×Operand)}{zs:List Value}{cs:List AV}(ho:o.op= .build t parts)(hz:zeroCellsOf P t=some zs)(h1:zs.all (·.oneCell')=true)
 (hs:arrOk P t e m=true) (hf:fillA (fun i=>some (i*1,1)) (zs.map constCell) (parts.toList.map fun x=>(x.1,st.ev x.2))=some cs):Yields P c st o (.agg cs):=fun E a w hi=>by
 obtain⟨hu,inf,hinf,hsz⟩:=arrOk_run hs
 obtain⟨arr,ha,hr,h1'⟩:=fill_rel (E:=E) (w:=w) _ (parts.map fun(i,x)=>(i,a.eval x)).toList _ _ zs.toArray (by simpa using RelL.consts E w zs h1) (by simpa using List.all_eq_true.1 h1)
  (by simp) (fun n p q=>parts_rep hi parts n p q) hf
 have hb:P.built t (parts.map fun(i,x)=>(i,a.eval x)).toList=some arr:=by
  unfold zeroCellsOf at hz
  unfold Program.built
  cases hi':P.info? t with
  |none=>simp[hi'] at hz
  |some i=>
   simp only[hi',Option.bind_some,Option.map_eq_some_iff] at hz
   obtain⟨z,hz1,hz2⟩:=hz
   have e1:z.cells=zs.toArray:=by rw[←hz2]
   simp only[hu,hz1,hinf,hsz,e1]
   exact ha
 refine⟨.agg arr,by simp only[execOp,ho,run_build w t _ _ hb,Sem.run_bind,Result.andThen_ok,Sem.run_pure],?_⟩
 have:=hr.agg h1'
 simpa using this
theorem Yields.indexArrP{x i:Operand}{t e:TypeId}{m id off:Nat}{kd:IntKind}{n:Int}(ho:o.op= .indexAddr t x i)(hs:arrOk P t e m=true)(hx:st.ev x= .ptr id off)(hi':st.ev i= .iv (.im (.int kd n)))(h0:0≤n)(h1:n<(m:Int)):Yields P c st o (.ptr id (off+n.toNat)):=fun E a w hi=>by
 have e1:=hi.im hi'
 obtain⟨hu,inf,hinf,hsz⟩:=arrOk_run hs
 have hb:0≤n∧n<(m:Int):=⟨h0,h1⟩
 refine⟨.pointer (some ⟨E.ρ id,off+n.toNat,none⟩),?_,.ptr rfl⟩
 simp[execOp,ho,hi.ptr hx,e1,Instr.indexAt,asIntOf,Instr.sureAddr,run_underlying hu,sizeOf,typeInfo,hinf,hsz,hb,Addr.add_none]
end
theorem L.cutK{ι:Type}{c:Ctx}{st:St}{Y:Act→World→Prop}(inv:ι→St)(I:ι→Prop){X:Act→World→Prop}(h:(∀(st':St) (i:ι),I i→Wk c st' (inv i)→L c st' X)→L c st Y)(t: ∀i,I i→L c (inv i) X):L c st Y:=h fun st' i hi hw=> .wk hw (t i hi)
class PlainTy (P:Program) (e:TypeId):Prop where
 h:P.plainKey e=true
section
variable {P:Program}{c:Ctx}{fr:List (Nat×AV)}{bx:List (Nat×Box)}{tk:List (Nat×Tok)}{d:Nat}{ty:TypeId}{pos:String}{aft:Array Edge}
theorem v_indexArr{x i:Operand}{t e:TypeId}{m:Nat}{cs:List AV}{kd:IntKind}{n:Int}{v:AV}[hs:ArrTy P t e m][he:PlainTy P e](hx:St.ev ⟨fr,bx,tk⟩ x= .agg cs)(hn:St.ev ⟨fr,bx,tk⟩ i= .iv (.im (.int kd n)))(hm:cs.length=m)(h0:0≤n)(hv:cs[n.toNat]?=some v):VV P c ⟨fr,bx,tk⟩ ⟨some d,.index t x i,ty,pos,aft,none⟩ v []:=
 .mk fun st' kE kL=> .indexArr rfl hs.h he.h ((kE x (by simp[Op.operands,Call.operands])).trans hx) hm ((kE i (by simp[Op.operands,Call.operands])).trans hn) h0 hv
theorem v_buildArr{t e:TypeId}{m:Nat}{parts:Array (Nat×Operand)}{zs:List Value}{cs:List AV}[hz:ZeroTy P t zs][hs:ArrTy P t e m](h1:zs.all (·.oneCell')=true)(hf:fillA (fun i=>some (i*1,1)) (zs.map constCell) (parts.toList.map fun x=>(x.1,St.ev ⟨fr,bx,tk⟩ x.2))=some cs):VV P c ⟨fr,bx,tk⟩ ⟨some d,.build t parts,ty,pos,aft,none⟩ (.agg cs) []:=
 .mk fun st' kE kL=> .buildArr rfl hz.h h1 hs.h (by rw[agP kE (fun x hx=>by simp only[Op.operands];exact List.mem_toArray.2 (List.mem_map.2 ⟨x,by simpa using hx,rfl⟩))];exact hf)
theorem v_indexArrP{x i:Operand}{t e:TypeId}{m id off off':Nat}{kd:IntKind}{n:Int}[hs:ArrTy P t e m](hx:St.ev ⟨fr,bx,tk⟩ x= .ptr id off)(hn:St.ev ⟨fr,bx,tk⟩ i= .iv (.im (.int kd n)))(h0:0≤n)(h1:n<(m:Int))(ho:off+n.toNat=off'):VV P c ⟨fr,bx,tk⟩ ⟨some d,.indexAddr t x i,ty,pos,aft,none⟩ (.ptr id off') []:=
 ho▸ .mk fun st' kE kL=> .indexArrP rfl hs.h ((kE x (by simp[Op.operands,Call.operands])).trans hx) ((kE i (by simp[Op.operands,Call.operands])).trans hn) h0 h1
end
end Go.Abs
namespace Go.Proofs.YthcjohcakdnmmaaGreatDoor
open Go.Abs
set_option maxRecDepth 100000
attribute [local irreducible] L Code.wp bodyPost Exit.then Exit.inBlock
set_option linter.unusedVariables false
set_option linter.unusedSimpArgs false
theorem all_take{s:List UInt8}{i:Nat}{b:UInt8}(h:s[i]?=some b):(s.take (i+1)).all charOk=((s.take i).all charOk && charOk b):=by
 rw[takeC h];simp
set_option maxRecDepth 100000 in
set_option maxHeartbeats 1000000 in
theorem isval_any(v:Val)(hs:v.s.length≤140737488355328):CallA Tryz.prog 65 [.agg (v.c.map .iv)] [] [] [] (aB (goodM v)):=by
 obtain⟨k,n,s⟩:=v
 refine CallA.intro _ Tryz.func65 rfl Tryz.ntmps65 rfl (fun w0 E0=> ?_)
 dsimp only at hs
 (repeat' (first|refine wk1 ?_|refine wk2 (fun hb hp=> ?_) (fun hb hp=> ?_)|fail))
 refine L.loopP (ι:=Nat×Bool) (fun i=>⟨[(10,aI (i.1:Int)),(9,aI ((s.map cB).length:Int)),(8,.iv (.sl (s.map cB))),(3,aB i.2),(1,.ptr 1 0)],[(1,⟨32,.l [.iv (I k),.iv (I n),.iv (S s)]⟩)],[]⟩) (fun i=>s.length - i.1) (fun i=>i.2=(s.take i.1).all charOk) (i0:=(0,true)) ?_ rfl ?_
 · exact wkk
 rintro ⟨i,b⟩ hi K hK
 dsimp only at hi⊢
 cases hv:s[i]? with
 |none=>
  have hlt:=ltF (l:=s.map cB) (getFN hv)
  rw[takeN hv] at hi
  clear hK
  by_cases hz:k=0∧n=0∧s= []
  · obtain⟨rfl,rfl,rfl⟩:=hz
    have eq1:eqVs [.iv (I 0),.iv (I 0),.iv (S [])] [.iv (I 0),.iv (I 0),.iv (S [])] =some true:=rfl
    rw[show goodM ⟨0,0,[]⟩=true from rfl]
    (repeat' (first|(refine LW.is ?_;first|(apply s_vr;exact rfl;apply v_eqlAgg;exact rfl;exact rfl;exact rfl;exact eq1))|(refine DR.is ?_;first|(apply d_vr;exact rfl;apply v_eqlAgg;exact rfl;exact rfl;exact rfl;exact eq1))|refine wk1 ?_|refine wk2 (fun hb hp=> ?_) (fun hb hp=> ?_)|fail))
    all_goals refine wkf ?_
    all_goals rfl
  have eq1:eqVs [.iv (I k),.iv (I n),.iv (S s)] [.iv (I 0),.iv (I 0),.iv (S [])] =some false:=by
   have:(k==0 && (n==0 && (s==([]:List UInt8))))=false:=by
    cases h:(k==0 && (n==0 && (s==([]:List UInt8)))) with
    |false=>rfl
    |true=>simp only[Bool.and_eq_true,beq_iff_eq] at h;exact absurd h hz
   simpa[eqVs,eqV,Bool.and_assoc] using this
  by_cases h1:k=1
  · subst h1
    have c1:((1:Int)==1)=true:=rfl
    have c2:((1:Int)==2)=false:=rfl
    by_cases h2:s= []
    · subst h2
      have q1:(([]:List UInt8)== [])=true:=rfl
      by_cases h3:(-1000000:Int)≤n
      · have q2:decide ((-1000000:Int)≤n)=true:=decide_eq_true h3
        by_cases h4:n≤(1000000:Int)
        · have q3:decide (n≤(1000000:Int))=true:=decide_eq_true h4
          rw[show goodM ⟨1,n,[]⟩=true by simp[goodM,h3,h4]]
          (repeat' (first|(refine LW.is ?_;first|(apply s_vr;exact rfl;apply v_eqlAgg;exact rfl;exact rfl;exact rfl;exact eq1))|(refine DR.is ?_;first|(apply d_vr;exact rfl;apply v_eqlAgg;exact rfl;exact rfl;exact rfl;exact eq1))|refine wk1 ?_|refine wk2 (fun hb hp=> ?_) (fun hb hp=> ?_)|fail))
          all_goals refine wkf ?_
          all_goals rfl
        · have q3:decide (n≤(1000000:Int))=false:=decide_eq_false h4
          rw[show goodM ⟨1,n,[]⟩=false by simp[goodM];intro;omega]
          (repeat' (first|(refine LW.is ?_;first|(apply s_vr;exact rfl;apply v_eqlAgg;exact rfl;exact rfl;exact rfl;exact eq1))|(refine DR.is ?_;first|(apply d_vr;exact rfl;apply v_eqlAgg;exact rfl;exact rfl;exact rfl;exact eq1))|refine wk1 ?_|refine wk2 (fun hb hp=> ?_) (fun hb hp=> ?_)|fail))
          all_goals refine wkf ?_
          all_goals rfl
      · have q2:decide ((-1000000:Int)≤n)=false:=decide_eq_false h3
        rw[show goodM ⟨1,n,[]⟩=false by simp[goodM];intro;omega]
        (repeat' (first|(refine LW.is ?_;first|(apply s_vr;exact rfl;apply v_eqlAgg;exact rfl;exact rfl;exact rfl;exact eq1))|(refine DR.is ?_;first|(apply d_vr;exact rfl;apply v_eqlAgg;exact rfl;exact rfl;exact rfl;exact eq1))|refine wk1 ?_|refine wk2 (fun hb hp=> ?_) (fun hb hp=> ?_)|fail))
        all_goals refine wkf ?_
        all_goals rfl
    · have q1:(s==([]:List UInt8))=false:=by cases s with|nil=>exact absurd rfl h2|cons x xs=>rfl
      rw[show goodM ⟨1,n,s⟩=false by simp[goodM,h2]]
      (repeat' (first|(refine LW.is ?_;first|(apply s_vr;exact rfl;apply v_eqlAgg;exact rfl;exact rfl;exact rfl;exact eq1))|(refine DR.is ?_;first|(apply d_vr;exact rfl;apply v_eqlAgg;exact rfl;exact rfl;exact rfl;exact eq1))|refine wk1 ?_|refine wk2 (fun hb hp=> ?_) (fun hb hp=> ?_)|fail))
      all_goals refine wkf ?_
      all_goals rfl
  have c1:(k==1)=false:=by simpa using h1
  by_cases h2:k=2
  · subst h2
    have c2:((2:Int)==2)=true:=rfl
    by_cases h3:n=0
    · subst h3
      have q1:((0:Int)==0)=true:=rfl
      cases b with
      |false=>
       rw[show goodM ⟨2,0,s⟩=false by simp only[goodM];rw[←hi];simp]
       (repeat' (first|(refine LW.is ?_;first|(apply s_vr;exact rfl;apply v_eqlAgg;exact rfl;exact rfl;exact rfl;exact eq1))|(refine DR.is ?_;first|(apply d_vr;exact rfl;apply v_eqlAgg;exact rfl;exact rfl;exact rfl;exact eq1))|refine wk1 ?_|refine wk2 (fun hb hp=> ?_) (fun hb hp=> ?_)|fail))
       all_goals refine wkf ?_
       all_goals rfl
      |true=>
       by_cases h4:s.length≤8
       · have q2:decide ((s.length:Int)<9)=true:=decide_eq_true (by omega)
         rw[show goodM ⟨2,0,s⟩=true by simp only[goodM];rw[←hi];simp[h4]]
         (repeat' (first|(refine LW.is ?_;first|(apply s_vr;exact rfl;apply v_eqlAgg;exact rfl;exact rfl;exact rfl;exact eq1))|(refine DR.is ?_;first|(apply d_vr;exact rfl;apply v_eqlAgg;exact rfl;exact rfl;exact rfl;exact eq1))|refine wk1 ?_|refine wk2 (fun hb hp=> ?_) (fun hb hp=> ?_)|fail))
         all_goals refine wkf ?_
         all_goals(rw[q2])
       · have q2:decide ((s.length:Int)<9)=false:=decide_eq_false (by omega)
         rw[show goodM ⟨2,0,s⟩=false by simp only[goodM];rw[←hi];simp;omega]
         (repeat' (first|(refine LW.is ?_;first|(apply s_vr;exact rfl;apply v_eqlAgg;exact rfl;exact rfl;exact rfl;exact eq1))|(refine DR.is ?_;first|(apply d_vr;exact rfl;apply v_eqlAgg;exact rfl;exact rfl;exact rfl;exact eq1))|refine wk1 ?_|refine wk2 (fun hb hp=> ?_) (fun hb hp=> ?_)|fail))
         all_goals refine wkf ?_
         all_goals(rw[q2])
    · have q1:(n==0)=false:=by simpa using h3
      rw[show goodM ⟨2,n,s⟩=false by simp[goodM,h3]]
      (repeat' (first|(refine LW.is ?_;first|(apply s_vr;exact rfl;apply v_eqlAgg;exact rfl;exact rfl;exact rfl;exact eq1))|(refine DR.is ?_;first|(apply d_vr;exact rfl;apply v_eqlAgg;exact rfl;exact rfl;exact rfl;exact eq1))|refine wk1 ?_|refine wk2 (fun hb hp=> ?_) (fun hb hp=> ?_)|fail))
      all_goals refine wkf ?_
      all_goals rfl
  have c2:(k==2)=false:=by simpa using h2
  rw[show goodM ⟨k,n,s⟩=false by
   simp only[goodM]
   split
   · rename_i h0
     cases hh:(n==0 && s== []) with
     |false=>rfl
     |true=>simp only[Bool.and_eq_true,beq_iff_eq] at hh;exact absurd ⟨h0,hh.1,hh.2⟩ hz
   · simp[h1,h2]]
  (repeat' (first|(refine LW.is ?_;first|(apply s_vr;exact rfl;apply v_eqlAgg;exact rfl;exact rfl;exact rfl;exact eq1))|(refine DR.is ?_;first|(apply d_vr;exact rfl;apply v_eqlAgg;exact rfl;exact rfl;exact rfl;exact eq1))|refine wk1 ?_|refine wk2 (fun hb hp=> ?_) (fun hb hp=> ?_)|fail))
  all_goals refine wkf ?_
  all_goals rfl
 |some c=>
  have hlt:=ltT (l:=s.map cB) (getF hv)
  have hlt':=ltN hv
  have hat:=all_take hv
  rw[←hi] at hat
  cases b with
  |false=>
   (repeat' (first|refine wk1 ?_|refine wk2 (fun hb hp=> ?_) (fun hb hp=> ?_)|fail))
   refine hK _ (i+1,false) (by rw[hat];rfl) (by simp;omega) ?_
   exact wkk
  |true=>
   cases h1:decide ((32:Int)≤(c.toNat:Int)) with
   |false=>
    (repeat' (first|refine wk1 ?_|refine wk2 (fun hb hp=> ?_) (fun hb hp=> ?_)|fail))
    refine hK _ (i+1,false) (by rw[hat];simp at h1;simp[charOk];omega) (by simp;omega) ?_
    exact wkk
   |true=>
    cases h2:decide ((c.toNat:Int)<(127:Int)) with
    |false=>
     (repeat' (first|refine wk1 ?_|refine wk2 (fun hb hp=> ?_) (fun hb hp=> ?_)|fail))
     refine hK _ (i+1,false) (by rw[hat];simp at h1 h2;simp[charOk];omega) (by simp;omega) ?_
     exact wkk
    |true=>
     (repeat' (first|refine wk1 ?_|refine wk2 (fun hb hp=> ?_) (fun hb hp=> ?_)|fail))
     refine hK _ (i+1,(c.toNat:Int) !=39) ?_ (by simp;omega) ?_
     · simp at h1 h2
       have e1:decide (32≤c.toNat)=true:=by simp;omega
       have e2:decide (c.toNat≤126)=true:=by simp;omega
       rw[hat,charOk,e1,e2]
       simp only[Bool.true_and]
       rw[Bool.eq_iff_iff];simp;omega
     · exact wkk
end Go.Proofs.YthcjohcakdnmmaaGreatDoor
