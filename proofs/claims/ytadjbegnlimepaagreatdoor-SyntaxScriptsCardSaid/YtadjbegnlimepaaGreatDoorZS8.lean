/- Several texts in one, each with its own sentence ahead of it. Conditions: each one says its own. -/
import Derived.Laws.Slices
import Derived.Laws.Cover3
import Derived.Test.YtadjbegnlimepaaGreatDoorZS7
set_option linter.all false
namespace Go.Abs
variable [Dr]
set_option linter.unusedSectionVars false
open Go.RowKit (Below)
set_option linter.unusedVariables false
section
variable {P:Program}{c:Ctx}{st:St}{ops:Array Oper}{Q:Exit→Act→World→Prop}{rest:List Oper}{o:Oper}
theorem Yields.lenBsl{t:TypeId}{x:Operand}{id off n cap:Nat}(ho:o.op= .call {callee:= .builtin .len,args:= #[x],argTypes:= #[t]}){e:TypeId}{k:Nat}(hs:sliceOk P t e k=true)(hx:st.ev x= .bsl id off n cap):Yields P c st o (aI n):=
 .im rfl fun E a w hi=>by
   obtain⟨hu,_⟩:=sliceOk_run hs
   have h:=hi.ev x;rw[hx] at h
   obtain⟨o',hq,_⟩:=h.bsl_inv
   simp[execOp,ho,resolve,invoke,builtin,hq,Builtin.len_,run_underlying hu,goInt]
theorem Yields.lenBsh{t:TypeId}{x:Operand}{id off n k':Nat}(ho:o.op= .call {callee:= .builtin .len,args:= #[x],argTypes:= #[t]}){e:TypeId}{k:Nat}(hs:sliceOk P t e k=true)(hx:st.ev x= .bsh id off n k'):Yields P c st o (aI n):=
 .im rfl fun E a w hi=>by
   obtain⟨hu,_⟩:=sliceOk_run hs
   have h:=hi.ev x;rw[hx] at h
   obtain⟨cap,o',hq,_⟩:=h.bsh_inv
   simp[execOp,ho,resolve,invoke,builtin,hq,Builtin.len_,run_underlying hu,goInt]
theorem Yields.capBsl{t:TypeId}{x:Operand}{id off n cap:Nat}(ho:o.op= .call {callee:= .builtin .cap,args:= #[x],argTypes:= #[t]}){e:TypeId}{k:Nat}(hs:sliceOk P t e k=true)(hx:st.ev x= .bsl id off n cap):Yields P c st o (aI cap):=
 .im rfl fun E a w hi=>by
   obtain⟨hu,_⟩:=sliceOk_run hs
   have h:=hi.ev x;rw[hx] at h
   obtain⟨o',hq,_⟩:=h.bsl_inv
   simp[execOp,ho,resolve,invoke,builtin,hq,Builtin.cap_,run_underlying hu,goInt]
theorem Yields.indexBsl{t e:TypeId}{x i:Operand}{k:Nat}{kd:IntKind}{j:Int}{id off n cap:Nat}(ho:o.op= .indexAddr t x i)(hs:sliceOk P t e k=true)(hx:st.ev x= .bsl id off n cap)
 (hj:st.ev i= .iv (.im (.int kd j))) (h0:0≤j) (h1:j<n):Yields P c st o (.ptr id (off+j.toNat*k)):=
 fun E a w hi=>by
  obtain⟨hu,inf,hinf,hsz⟩:=sliceOk_run hs
  have h:=hi.ev x;rw[hx] at h
  obtain⟨o',hq,hn,_,hoo⟩:=h.bsl_inv
  have:=hoo (by omega);subst this
  refine⟨.pointer (some ⟨E.ρ id,o'+j.toNat*k,none⟩),?_,.ptr rfl⟩
  simp[execOp,ho,hq,hi.im hj,Instr.indexAt,asIntOf,run_underlying hu,h0,h1,sizeOf,typeInfo,hinf,hsz,Addr.add_none]
theorem Yields.indexBsh{t e:TypeId}{x i:Operand}{k:Nat}{kd:IntKind}{j:Int}{id off n:Nat}(ho:o.op= .indexAddr t x i)(hs:sliceOk P t e k=true)(hx:st.ev x= .bsh id off n k)
 (hj:st.ev i= .iv (.im (.int kd j))) (h0:0≤j) (h1:j<n):Yields P c st o (.ptr id ((off+j.toNat)*k)):=
 fun E a w hi=>by
  obtain⟨hu,inf,hinf,hsz⟩:=sliceOk_run hs
  have h:=hi.ev x;rw[hx] at h
  obtain⟨cap,o',hq,hn,_,_,hoo⟩:=h.bsh_inv
  have:=hoo (by omega);subst this
  refine⟨.pointer (some ⟨E.ρ id,off*k+j.toNat*k,none⟩),?_,.ptr (by rw[Nat.add_mul])⟩
  simp[execOp,ho,hq,hi.im hj,Instr.indexAt,asIntOf,run_underlying hu,h0,h1,sizeOf,typeInfo,hinf,hsz,Addr.add_none]
theorem sliced_bsl{E:Env}{w:World}{id off cap o' l h m s:Nat}(hl:l≤h)(hh:h≤m)(hm:m≤cap)(hx:cap≤maxLen)(ho:cap≠0→o'=off):
 RepA E w (.bsl id (off+l*s) (h - l) (m - l)) (sliced (some ⟨E.ρ id,o',none⟩) l h m s):=by
 unfold sliced
 by_cases e:m=l
 · rw[if_pos e]
   exact .bsl (by omega) (by omega) (fun h=>by omega) rfl
 · rw[if_neg e]
   exact .bsl (by omega) (by omega) (fun _=>rfl) (by rw[ho (by omega)];simp[Addr.add_none])
theorem sl_facts{t e:TypeId}{k:Nat}(hs:sliceOk P t e k=true)(w:World):P.underlying t=some (.slice (P.elem t))∧(sizeOf (P.elem t)).run P w= .ok k w:=by
 obtain⟨hu,inf,hinf,hsz⟩:=sliceOk_run hs
 have he:P.elem t=e:=by simp[Program.elem,hu]
 exact⟨by rw[he];exact hu,by rw[he];simp[sizeOf,typeInfo,hinf,hsz]⟩
theorem Yields.slBl{x y:Operand}{t e:TypeId}{k id off n cap:Nat}{kd:IntKind}{j:Int}(ho:o.op= .slice t x (some y) none none)(hx:st.ev x= .bsl id off n cap)(hy:st.ev y= .iv (.im (.int kd j)))(hs:sliceOk P t e k=true)
 (h0:0≤j) (h1:j≤n):Yields P c st o (.bsl id (off+j.toNat*k) (n - j.toNat) (cap - j.toNat)):=fun E a w hi=>by
 obtain⟨hu,hz⟩:=sl_facts hs w
 have h:=hi.ev x;rw[hx] at h
 obtain⟨o',hq,hn,hm,hoo⟩:=h.bsl_inv
 refine⟨_,?_,sliced_bsl (s:=k) (by omega) hn (Nat.le_refl _) hm hoo⟩
 have:=run_slice_l (P:=P) w t (some ⟨E.ρ id,o',none⟩) n cap hu kd j h0 h1
 simp[execOp,ho,hq,hi.im hy,run_sliceAt_slice w t _ _ _ _ hu,this,hz,Result.andThen]
theorem Yields.slBh{x y:Operand}{t e:TypeId}{k id off n cap:Nat}{kd:IntKind}{j:Int}(ho:o.op= .slice t x none (some y) none)(hx:st.ev x= .bsl id off n cap)(hy:st.ev y= .iv (.im (.int kd j)))(hs:sliceOk P t e k=true)
 (h0:0≤j) (h1:j≤cap):Yields P c st o (.bsl id off j.toNat cap):=fun E a w hi=>by
 obtain⟨hu,hz⟩:=sl_facts hs w
 have h:=hi.ev x;rw[hx] at h
 obtain⟨o',hq,hn,hm,hoo⟩:=h.bsl_inv
 have h2:=sliced_bsl (E:=E) (w:=w) (id:=id) (s:=k) (Nat.zero_le j.toNat) (by omega:j.toNat≤cap) (Nat.le_refl _) hm hoo
 simp only[Nat.zero_mul,Nat.add_zero,Nat.sub_zero] at h2
 refine⟨_,?_,h2⟩
 have:=run_slice_h (P:=P) w t (some ⟨E.ρ id,o',none⟩) n cap hu kd j h0 h1
 simp[execOp,ho,hq,hi.im hy,run_sliceAt_slice w t _ _ _ _ hu,this,hz,Result.andThen]
theorem Yields.slBlh{x y z:Operand}{t e:TypeId}{k id off n cap:Nat}{kd kd':IntKind}{i j:Int}(ho:o.op= .slice t x (some y) (some z) none)(hx:st.ev x= .bsl id off n cap)(hy:st.ev y= .iv (.im (.int kd i)))(hz':st.ev z= .iv (.im (.int kd' j)))
 (hs:sliceOk P t e k=true) (h0:0≤i) (h1:i≤j) (h2:j≤cap):Yields P c st o (.bsl id (off+i.toNat*k) (j.toNat - i.toNat) (cap - i.toNat)):=fun E a w hi=>by
 obtain⟨hu,hz⟩:=sl_facts hs w
 have h:=hi.ev x;rw[hx] at h
 obtain⟨o',hq,hn,hm,hoo⟩:=h.bsl_inv
 refine⟨_,?_,sliced_bsl (E:=E) (w:=w) (id:=id) (s:=k) (by omega:i.toNat≤j.toNat) (by omega:j.toNat≤cap) (Nat.le_refl _) hm hoo⟩
 have:=run_slice_lh (P:=P) w t (some ⟨E.ρ id,o',none⟩) n cap hu kd kd' i j h0 h1 h2
 simp[execOp,ho,hq,hi.im hy,hi.im hz',run_sliceAt_slice w t _ _ _ _ hu,this,hz,Result.andThen]
end
end Go.Abs
namespace Go.Abs
variable [Dr]
set_option linter.unusedSectionVars false
open Go.RowKit (Below)
set_option linter.unusedVariables false
theorem HInv.reBox{c:Ctx}{E:Env}{bx:List (Nat×Box)}{tk:List (Nat×Tok)}{w:World}(h:HInv c E bx tk w){id:Nat}{b b':Box}(hb:bx.lookup id=some b)(hbn:b.cs≠ [])(hb':b'.cs≠ [] →BoxOk E w id b'):
 HInv c E ((id,b')::bx) tk w:=by
 have f: ∀(i:Nat) (b1:Box),List.lookup i ((id,b')::bx)=some b1→b1.cs≠ [] → ∃b2,bx.lookup i=some b2∧b2.cs≠ []:=fun i b1 h hn=>by
  by_cases e:i=id
  · subst e;exact⟨b,hb,hbn⟩
  · rw[lookup_cons_ne e] at h;exact⟨b1,h,hn⟩
 refine⟨fun i b1 hi hn=> ?_,h.tok,fun i j b1 b2 hi hj hn hn' he=> ?_,h.tt,fun i j b1 t hi hn hj=> ?_,fun i b1 hi hn=> ?_,h.ownt,h.new,h.old,fun i hin=> ?_,h.kept⟩
 · by_cases e:i=id
   · subst e;rw[lookup_cons_eq] at hi;cases hi;exact hb' hn
   · rw[lookup_cons_ne e] at hi;exact h.box i b1 hi hn
 · obtain⟨b3,h3,n3⟩:=f i b1 hi hn
   obtain⟨b4,h4,n4⟩:=f j b2 hj hn'
   exact h.bb i j b3 b4 h3 h4 n3 n4 he
 · obtain⟨b3,h3,n3⟩:=f i b1 hi hn
   exact h.bt i j b3 t h3 n3 hj
 · obtain⟨b3,h3,n3⟩:=f i b1 hi hn
   exact h.own i b3 h3 n3
 · obtain⟨e1,e2,e3⟩:=h.ins i hin
   refine⟨e1,e2,?_⟩
   by_cases e:i=id
   · subst e;rw[lookup_cons_eq];rfl
   · rw[lookup_cons_ne e];exact e3
theorem HInv.turn{c:Ctx}{E:Env}{st:St}{w:World}(h:HInv c E st.bx st.tk w){id:Nat}(hf:st.fresh id=true)(g:Nat)(v:Value):
 HInv c ⟨E.φ,fun i=>if i=id then g else E.ρ i,fun i=>if i=id then v else E.η i⟩ st.bx st.tk w∧
  (∀(x:AV) (u:Value),AV.ment id x=false→RepA E w x u→RepA ⟨E.φ,fun i=>if i=id then g else E.ρ i,fun i=>if i=id then v else E.η i⟩ w x u):=by
 have hρ: ∀i,i≠id→(if i=id then g else E.ρ i)=E.ρ i:=fun i hi=>by simp[hi]
 have hη: ∀i,i≠id→(if i=id then v else E.η i)=E.η i:=fun i hi=>by simp[hi]
 have mono: ∀(x:AV) (u:Value),AV.ment id x=false→RepA E w x u→RepA ⟨E.φ,fun i=>if i=id then g else E.ρ i,fun i=>if i=id then v else E.η i⟩ w x u:=fun x u hm hr=>
  RepA.mono (E:=E) (w:=w) (h:=hr) (E':=⟨E.φ,fun i=>if i=id then g else E.ρ i,fun i=>if i=id then v else E.η i⟩) (fun _ _ _=>rfl) (fun _=>Nat.le_refl _) (fun i hi=>by
   have:i≠id:=fun e=>by subst e;rw[hm] at hi;cases hi
   exact⟨hρ i this,hη i this⟩)
 refine⟨⟨fun i b hb hn=> ?_,fun i t ht=> ?_,fun i j b b' hi hj hn hn' he=> ?_,fun i j t t' g' hi hj h1 h2=> ?_,fun i j b t hi hn hj=> ?_,fun i b hi hn=> ?_,fun j t g' hj hg=> ?_,h.new,h.old,fun i hin=> ?_,h.kept⟩,mono⟩
 · obtain⟨hne,hm⟩:=St.fresh_bx hf hb
   obtain⟨h0,arr,ha,hl,h1,hr,hq⟩:=h.box i b hb hn
   refine⟨by simp only[hρ i hne];exact h0,arr,by simp only[hρ i hne];exact ha,hl,h1,fun k x u hx hu=>mono x u (AV.ments_false hm k x hx) (hr k x u hx hu),fun k cap he=>hq k cap (by simpa only[hη i hne] using he)⟩
 · have:=h.tok i t ht
   simp only[TokOk,hη i (St.fresh_tk hf ht)] at this⊢
   exact this
 · simp only[hρ i (St.fresh_bx hf hi).1,hρ j (St.fresh_bx hf hj).1] at he
   exact h.bb i j b b' hi hj hn hn' he
 · simp only[hη i (St.fresh_tk hf hi)] at h1
   simp only[hη j (St.fresh_tk hf hj)] at h2
   exact h.tt i j t t' g' hi hj h1 h2
 · simp only[hρ i (St.fresh_bx hf hi).1,hη j (St.fresh_tk hf hj)]
   exact h.bt i j b t hi hn hj
 · simp only[hρ i (St.fresh_bx hf hi).1];exact h.own i b hi hn
 · simp only[hη j (St.fresh_tk hf hj)] at hg;exact h.ownt j t g' hj hg
 · obtain⟨e1,e2,e3⟩:=h.ins i hin
   obtain⟨b,hb⟩:=Option.isSome_iff_exists.1 e3
   have hne:=(St.fresh_bx hf hb).1
   exact⟨(hρ i hne).trans e1,(hη i hne).trans e2,e3⟩
section
variable {c:Ctx}{st:St}{X:Act→World→Prop}
theorem L.openRow(s:Nat){id n k m:Nat}{ty:TypeId}{xs:List IV}(hs:st.fr.lookup s=some (.bsh id 0 n k))(hb:st.bx.lookup id=some ⟨ty,.r xs m⟩)(hbn:xs≠ [] ∨0<m)(hl:n*k≤xs.length+m)
 (h: ∀cap,n≤cap→cap≤maxLen→L c ⟨(s,.bsl id 0 n cap)::st.fr,(id,⟨ty,.r xs (cap*k - xs.length)⟩)::st.bx,st.tk⟩ X):L c st X:=by
 rintro a w ⟨E,hi⟩
 have hbn':(⟨ty,.r xs m⟩:Box).cs≠ []:=fun e=>by
  simp only[Box.cs_r,List.append_eq_nil_iff,List.map_eq_nil_iff,List.replicate_eq_nil_iff] at e
  rcases hbn with h|h
  · exact h e.1
  · omega
 obtain⟨cap,o,hq,hn,hm,he,hoo⟩:=(hi.slot s _ hs).bsh_inv
 obtain⟨h0,arr,ha,hla,h1,hr,hη⟩:=hi.heap.box id _ hb hbn'
 simp only[Box.cs_r,List.length_append,List.length_map,List.length_replicate] at hla
 refine h cap (by omega) hm a w ⟨E,hi.defers,hi.size,fun s' v hv=> ?_,hi.heap.reBox hb hbn' (fun _=>⟨h0,arr,ha,?_,h1,fun i x u hx hu=> ?_,hη⟩)⟩
 · by_cases e:s'=s
   · subst e;rw[lookup_cons_eq] at hv;cases hv
     exact .bsl (o:=o) (by omega) hm (fun h=>by rw[hoo (by omega)];simp) (by rw[hq];simp)
   · rw[lookup_cons_ne e] at hv;exact hi.slot s' v hv
 · have:=hη k cap he
   simp only[Box.cs_r,List.length_append,List.length_map,List.length_replicate];omega
 · simp only[Box.cs_r] at hx
   rw[List.getElem?_append] at hx
   split at hx
   · rename_i hlt
     exact hr i x u (by simp only[Box.cs_r];rw[List.getElem?_append_left hlt];exact hx) hu
   · simp only[List.getElem?_replicate] at hx
     split at hx
     · cases hx;exact .any
     · cases hx
theorem L.kill(id:Nat){b:Box}(hb:st.bx.lookup id=some b)(hbn:b.cs≠ [])(h:L c ⟨st.fr,(id,⟨b.ty,.l []⟩)::st.bx,st.tk⟩ X):L c st X:=by
 rintro a w ⟨E,hi⟩
 exact h a w ⟨E,hi.defers,hi.size,hi.slot,hi.heap.reBox hb hbn (fun h=>(h rfl).elim)⟩
theorem L.recell(id:Nat){b b':Box}(hb:st.bx.lookup id=some b)(ht:b.ty=b'.ty)(hc:Subs b.cs b'.cs)(h:L c ⟨st.fr,(id,b')::st.bx,st.tk⟩ X):L c st X:=by
 rintro a w ⟨E,hi⟩
 exact h a w ⟨E,hi.defers,hi.size,hi.slot,hi.heap.recell hb ht hc⟩
theorem L.rename(s N:Nat){id n cap m:Nat}(k:Nat){ty:TypeId}{xs:List IV}(hs:st.fr.lookup s=some (.bsl id 0 n cap))(hb:st.bx.lookup id=some ⟨ty,.r xs m⟩)(hf:st.fresh N=true)(hbn:xs≠ [] ∨0<m)(hcap:cap*k≤xs.length+m)
 (h:L c ⟨(s,.bsh N 0 n k)::st.fr,(N,⟨ty,.r (xs.take (n*k)) 0⟩)::(id,⟨ty,.l []⟩)::st.bx,st.tk⟩ X):L c st X:=by
 rintro a w ⟨E,hi⟩
 have hbn':(⟨ty,.r xs m⟩:Box).cs≠ []:=fun e=>by
  simp only[Box.cs_r,List.append_eq_nil_iff,List.map_eq_nil_iff,List.replicate_eq_nil_iff] at e
  rcases hbn with h|h
  · exact h e.1
  · omega
 have hne:id≠N:=(St.fresh_bx hf hb).1
 obtain⟨o,hq,hn,hmx,hoo⟩:=(hi.slot s _ hs).bsl_inv
 obtain⟨h0,arr,ha,hl,h1,hr,hη⟩:=hi.heap.box id _ hb hbn'
 simp only[Box.cs_r,List.length_append,List.length_map,List.length_replicate] at hl
 obtain⟨hh,mono⟩:=hi.heap.turn hf (E.ρ id) (capV k cap)
 have hid:(if id=N then E.ρ id else E.ρ id)=E.ρ id:=by simp
 have hk:=hh.reBox (b':=⟨ty,.l []⟩) hb hbn' (fun h=>(h rfl).elim)
 refine h a w ⟨⟨E.φ,fun i=>if i=N then E.ρ id else E.ρ i,fun i=>if i=N then capV k cap else E.η i⟩,hi.defers,hi.size,fun s' v hv=> ?_,hk.addBox ?_ ?_ ?_ ?_ ?_⟩
 · by_cases e:s'=s
   · subst e;rw[lookup_cons_eq] at hv;cases hv
     exact .bsh (cap:=cap) (o:=o) (by omega) hmx (by simp) (fun h=>by rw[hoo (by omega)];simp) (by rw[hq];simp)
   · rw[lookup_cons_ne e] at hv;exact mono v _ (St.fresh_fr hf hv) (hi.slot s' v hv)
 · rw[lookup_cons_ne (Ne.symm hne)]
   cases hq':st.bx.lookup N with
   |none=>rfl
   |some b1=>exact((St.fresh_bx hf hq').1 rfl).elim
 · refine⟨by simp only[if_true];exact h0,arr,by simp only[if_true];exact ha,?_,h1,fun i x u hx hu=> ?_,fun k' cap' he=> ?_⟩
   · simp only[Box.cs_r,List.length_append,List.length_map,List.length_replicate,List.length_take];omega
   · simp only[Box.cs_r,List.replicate_zero,List.append_nil,List.map_take] at hx
     rw[List.getElem?_take] at hx
     split at hx
     · refine mono x u ?_ (hr i x u ?_ hu)
       · rw[List.getElem?_map,Option.map_eq_some_iff] at hx
         obtain⟨y,_,rfl⟩:=hx
         rfl
       · simp only[Box.cs_r]
         have:=(List.getElem?_eq_some_iff.1 hx).1
         rw[List.getElem?_append_left this];exact hx
     · cases hx
   · simp only[if_true] at he
     obtain⟨rfl,rfl⟩:=capV_inj he
     omega
 · intro j b1 hj hjn
   by_cases e:j=id
   · subst e;rw[lookup_cons_eq] at hj;cases hj;exact(hjn rfl).elim
   · rw[lookup_cons_ne e] at hj
     simp only[if_true,if_neg (St.fresh_bx hf hj).1]
     exact fun he=>e (hi.heap.bb j id b1 _ hj hb hjn hbn' he)
 · intro j t hj
   simp only[if_true,if_neg (St.fresh_tk hf hj)]
   exact hi.heap.bt id j _ t hb hbn' hj
 · simp only[if_true];exact hi.heap.own id _ hb hbn'
end
end Go.Abs
namespace Go.Abs
variable [Dr]
set_option linter.unusedSectionVars false
open Go.RowKit (Below)
set_option linter.unusedVariables false
section
variable {P:Program}{c:Ctx}{st:St}{ops:Array Oper}{Q:Exit→Act→World→Prop}{rest:List Oper}{o:Oper}
theorem Yields.eqlNil{x y:Operand}{t t' e:TypeId}{k:Nat}{es:List (List IV)}(ho:o.op= .binOp .eql t x y t')(hx:(st.ev x).sl?=some es)(hy:st.ev y= .nils)(hs:sliceOk P t e k=true)(hne:es≠ []):Yields P c st o (aB false):=
 .im rfl fun E a w hi=>by
   obtain⟨hu,_⟩:=sliceOk_run hs
   have h2:=hi.ev y;rw[hy] at h2
   generalize hqy:a.eval y=uy at h2
   cases h2
   rcases((hi.ev x).sl hx).sl_inv with⟨_,rfl⟩|⟨_,_,_,_,_,rfl⟩|⟨b,o',cap,k',f,hq,_⟩
   · exact(hne rfl).elim
   · exact(hne rfl).elim
   · simp[execOp,ho,hq,hqy,eqGuard,binOp,run_equal_slice_nil w t e _ _ _ hu]
theorem L.eqlNil0{x y:Operand}{t t' e:TypeId}{k d:Nat}(hg:o.guard=none)(hd:o.dst=some d)(hlt:Nat.ble (d+1) c.nt=true)(ho:o.op= .binOp .eql t x y t')(hx:(st.ev x).sl?=some [])(hy:st.ev y= .nils)(hs:sliceOk P t e k=true)
 (h: ∀b,L c ⟨(d,aB b)::st.fr,st.bx,st.tk⟩ (wpList P ops Q rest)):L c st (wpList P ops Q (o::rest)):=by
 rintro a w ⟨E,hi⟩
 obtain⟨hu,_⟩:=sliceOk_run hs
 have h2:=hi.ev y;rw[hy] at h2
 generalize hqy:a.eval y=uy at h2
 cases h2
 have hr: ∃b,(execOp a.eval o).run P w= .ok (.value (.bool b)) w:=by
  rcases((hi.ev x).sl hx).sl_inv with⟨hq,_⟩|⟨ad,cap,hq,_,_,_⟩|⟨b,o',cap,k',f,hq,_⟩
  · exact⟨true,by simp[execOp,ho,hq,hqy,eqGuard,binOp,run_equal_slice_nil w t e _ _ _ hu]⟩
  · exact⟨false,by simp[execOp,ho,hq,hqy,eqGuard,binOp,run_equal_slice_nil w t e _ _ _ hu]⟩
  · exact⟨false,by simp[execOp,ho,hq,hqy,eqGuard,binOp,run_equal_slice_nil w t e _ _ _ hu]⟩
 obtain⟨b,hr⟩:=hr
 refine wpList_plain hg (fun K hK=>Oper.wp_value hr (hK _ _ ?_))
 rw[hd]
 exact h b _ _ ⟨E,hi.put (Nat.le_of_ble_eq_true hlt) (.iv (.im rfl))⟩
theorem Makes.buildBox{t e:TypeId}{n k id:Nat}{parts:Array (Nat×Operand)}{zs:List Value}{cs:List AV}(ho:o.op= .buildSlice t n parts)(hs:sliceOk P t e k=true)
 (hz:zeroCellsOf P e=some zs) (h1:zs.all (·.oneCell')=true) (hzl:zs.length=k) (hn:n*k≤16777216) (hnk:0<k)
 (hf:fillA (fun i=>some (i*k,k)) ((List.range (n*k)).map fun i=>constCell (zs.getD (i % k) undef)) (parts.toList.map fun x=>(x.1,st.ev x.2))=some cs)
 (hcl:cs.length=n*k) (hm:AV.ments id cs=false) (hfr:st.fresh id=true):Makes P c st o (.bsl id 0 n n) ((id,⟨e,cs⟩)::st.bx) st.tk:=fun E a w hi=>by
 obtain⟨hu,inf,hinf,hsz⟩:=sliceOk_run hs
 have hz0: ∃z,inf.zero=some z∧z.cells=zs.toArray:=by
  unfold zeroCellsOf at hz
  simp only[hinf,Option.bind_some,Option.map_eq_some_iff] at hz
  obtain⟨z,hz1,hz2⟩:=hz
  exact⟨z,hz1,by rw[←hz2]⟩
 obtain⟨z,hz1,hz2⟩:=hz0
 have hget: ∀i,i<n*k→zs.toArray[i % zs.toArray.size]! =zs.getD (i % k) undef:=fun i hi=>by
  have:i % k<zs.length:=by rw[hzl];exact Nat.mod_lt _ hnk
  simp[hzl]
  rw[List.getElem?_eq_getElem this];rfl
 have hinit:((Array.range (n*k)).map (zs.toArray[· % zs.toArray.size]!))=((List.range (n*k)).map fun i=>zs.getD (i % k) undef).toArray:=by
  apply Array.ext'
  simp only[Array.toList_map,Array.toList_range]
  exact List.map_congr_left (fun i hi=>hget i (List.mem_range.1 hi))
 have hone: ∀i,i<n*k→(zs.getD (i % k) undef).oneCell'=true:=fun i hi=>by
  have hlt:i % k<zs.length:=by rw[hzl];exact Nat.mod_lt _ hnk
  have:zs.getD (i % k) undef=zs[i % k]:=by simp[hlt]
  rw[this];exact List.all_eq_true.1 h1 _ (List.getElem_mem hlt)
 have hrel:RelL E w ((List.range (n*k)).map fun i=>constCell (zs.getD (i % k) undef)) ((List.range (n*k)).map fun i=>zs.getD (i % k) undef):=by
  refine⟨by simp,fun i c u hc hu=> ?_⟩
  simp only[List.getElem?_map] at hc hu
  cases hr:(List.range (n*k))[i]? with
  |none=>rw[hr] at hc;simp at hc
  |some j=>
   rw[hr] at hc hu
   simp only[Option.map_some,Option.some.injEq] at hc hu
   subst hc;subst hu
   exact constCell_rep E w _ (hone j (List.mem_range.1 (List.mem_of_getElem? hr)))
 obtain⟨arr,ha,hr,h1'⟩:=fill_rel (E:=E) (w:=w) _ (parts.map fun(i,x)=>(i,a.eval x)).toList _ _ ((List.range (n*k)).map fun i=>zs.getD (i % k) undef).toArray (by simpa using hrel)
  (fun u hu=>by
    simp only[List.mem_map,List.mem_range] at hu
    obtain⟨i,hi',rfl⟩:=hu
    exact hone i hi')
  (by simp) (fun n p q=>parts_rep hi parts n p q) hf
 refine⟨.slice (some ⟨w.heap.size,0,none⟩) n n,_,_,?_,hi.newBox hfr (ty:=e) (us:=arr.toList) hr h1' hm,.bsl (o:=0) (Nat.le_refl _) (by have:n≤n*k:=Nat.le_mul_of_pos_right n hnk;simp only[maxLen];omega) (fun _=>rfl) (by simp[Env.upd])⟩
 have hbig: ¬(n*k>2 ^ 24):=by omega
 have hfill:Instr.fill (fun i=>some (i*k,k)) ((Array.range (n*k)).map (zs.toArray[· % zs.toArray.size]!)) (parts.map fun(i,x)=>(i,a.eval x)).toList=some arr:=by rw[hinit];exact ha
 have hat:arr.toList.toArray=arr:=by simp
 rw[hat]
 by_cases h0:n*k=0
 · have:n=0:=by
    rcases Nat.mul_eq_zero.1 h0 with h|h
    · exact h
    · omega
   subst this
   have e0:Array.range 0= #[]:=rfl
   have hfill':Instr.fill (fun i=>some (i*k,k)) #[] (parts.map fun(i,x)=>(i,a.eval x)).toList=some arr:=by simpa[e0] using hfill
   simp only[Array.toList_map] at hfill'
   simp[execOp,ho,Instr.buildSlice,run_underlying hu,sizeOf,typeInfo,hinf,hsz,newRow,e0,hfill']
 · simp only[execOp,ho,Instr.buildSlice,Sem.run_bind,run_underlying hu,sizeOf,typeInfo,zeroValue,run_program,hinf,hsz,hz1,hz2,Result.andThen_ok,Sem.run_pure,hbig,h0,if_false,hfill,newRow,run_newObj,Sem.run_ite]
   rfl
theorem Inv.newRoom{E:Env}{a:Act}{w:World}(hi:Inv c E st a w){id:Nat}(hf:st.fresh id=true){ty:TypeId}{cs:List AV}{us:List Value}(v:Value)
 (hl:cs.length≤us.length) (hr: ∀(i:Nat) (x:AV) (u:Value),cs[i]?=some x→us[i]?=some u→RepA E w x u) (h1: ∀u∈us,u.oneCell'=true) (hm:AV.ments id cs=false) (hv: ∀k cap,v=capV k cap→cap*k≤us.length):
 Inv c (E.upd id w.heap.size 0 v) ⟨st.fr,(id,⟨ty,cs⟩)::st.bx,st.tk⟩ a (w.alloc (.cells us.toArray ty (0,0))):=by
 obtain⟨hh,mono⟩:=hi.heap.alloc hf (.cells us.toArray ty (0,0)) 0 v
 have hid:(E.upd id w.heap.size 0 v).ρ id=w.heap.size:=by simp[Env.upd]
 refine⟨hi.defers,hi.size,fun s v hv=>mono v _ (St.fresh_fr hf hv) (hi.slot s v hv),hh.addBox ?_ ?_ ?_ ?_ ?_⟩
 · cases hq:st.bx.lookup id with
   |none=>rfl
   |some b=>exact((St.fresh_bx hf hq).1 rfl).elim
 · refine⟨by rw[hid];simp[Env.upd],us,by rw[hid];exact heapNew w _,hl,h1,fun i x u hx hu=>mono x u (AV.ments_false hm i x hx) (hr i x u hx hu),fun k cap he=>hv k cap (by simpa[Env.upd] using he)⟩
 · intro j b' hj hn
   rw[hid]
   have:(E.upd id w.heap.size 0 v).ρ j=E.ρ j:=by simp[Env.upd,(St.fresh_bx hf hj).1]
   rw[this]
   have:=box_lt (hi.heap.box j b' hj hn)
   omega
 · intro j t hj
   rw[hid]
   have e:(E.upd id w.heap.size 0 v).η j=E.η j:=by simp[Env.upd,St.fresh_tk hf hj]
   rw[e]
   intro hg
   have:=ownBlock_lt (hi.heap.tok j t hj) hg
   omega
 · rw[hid];exact .inl hi.heap.kept.size
theorem flatten_get{α:Type}{k:Nat}(hk0:0<k): ∀(news:List (List α)) (p:Nat) (x:α),(∀e∈news,e.length=k)→news.flatten[p]?=some x→ ∃e,news[p / k]?=some e∧e[p % k]?=some x
 | [],p,x,_,h=>by simp at h
 |e::r,p,x,hn,h=>by
  have he:e.length=k:=hn e List.mem_cons_self
  rw[List.flatten_cons,List.getElem?_append] at h
  split at h
  · rename_i hlt
    rw[he] at hlt
    exact⟨e,by rw[Nat.div_eq_of_lt hlt];rfl,by rw[Nat.mod_eq_of_lt hlt];exact h⟩
  · rename_i hge
    rw[he] at hge h
    obtain⟨e',h1,h2⟩:=flatten_get hk0 r (p - k) x (fun e' h'=>hn e' (List.mem_cons_of_mem _ h')) h
    have hp:p=(p - k)+k:=by omega
    refine⟨e',?_,?_⟩
    · rw[hp,Nat.add_div_right _ hk0];simpa using h1
    · rw[hp,Nat.add_mod_right];simpa using h2
theorem flatten_len{α:Type}{k:Nat}: ∀(news:List (List α)),(∀e∈news,e.length=k)→news.flatten.length=news.length*k
 | [],_=>by simp
 |e::r,hn=>by
  rw[List.flatten_cons,List.length_append,hn e List.mem_cons_self,flatten_len r (fun e' h'=>hn e' (List.mem_cons_of_mem _ h')),List.length_cons,Nat.add_mul,Nat.one_mul,Nat.add_comm]
theorem Makes.cloneB0{t t' e:TypeId}{d:TypeDesc}{x y:Operand}{id' k bytes:Nat}{i:TypeInfo}{z:Value}{news:List (List IV)}{cs:List AV}
 (ho:o.op= .call {callee:= .builtin .append,args:= #[x,y],argTypes:= #[t,t']}) (ht:P.underlying t=some (.slice e)) (hi0:P.info? e=some i) (hik:i.size=k) (hib:i.bytes=bytes) (hiz:i.zero=some z) (hzk:z.cells.size=k) (hz1: ∀u∈z.cells.toList,u.oneCell'=true)
 (hd:P.underlying t'=some d) (hn:notInt d) (hk0:0<k) (hx: ∀(E:Env) (a:Act) (w:World),Inv c E st a w→ ∃base,a.eval x= .slice base 0 0) (hnk: ∀e∈news,e.length=k) (hy:Adds P c st y k news) (hne:news≠ [])
 (hm:news.length≤maxLen) (hby:news.length*bytes≤140737488355328) (hf:st.fresh id'=true) (hcs:news.flatten.map .iv=cs) (hmo:AV.ments id' cs=false):
 Makes P c st o (.bsh id' 0 news.length k) ((id',⟨e,cs⟩)::st.bx) st.tk:=fun E a w hi=>by
 subst hik;subst hib
 obtain⟨us,hsrc,hul,hu1,hur⟩:=hy E a w hi
 obtain⟨base,hq⟩:=hx E a w hi
 have hpos:0<news.length:=List.length_pos_iff.2 hne
 have hsmall:news.length≤9223372036854775807:=by simp only[maxLen] at hm;omega
 have hexec:(execOp a.eval o).run P w=((Builtin.append_ #[t,t'] o.type #[a.eval x,a.eval y]).run P w).andThen fun v w'=> .ok (.value v) w':=by
  simp[execOp,ho,resolve,invoke,builtin]
 have hrun:=app_grow (ty:=o.type) ht hd hn hi0 hiz hsrc (base:=base) (n:=0) (cap:=0) (olds:= []) (by cases base<;>simp[Builtin.firstCells,loadCells,loadCellsFrom]) (by omega) (by omega) (growslice_fits (by omega) (by simpa using hby))
 simp only[Nat.zero_add,List.nil_append] at hrun
 have hge:news.length≤grownCap w news.length 0 e:=grownCap_ge _ _ _ _
 have hcm:=grownCap_le_maxLen w news.length 0 e hm
 have hlen:(us++(Builtin.zeroCells z.cells (grownCap w news.length 0 e - news.length)).toList).length=grownCap w news.length 0 e*i.size:=by
  simp only[List.length_append,hul,Array.length_toList,size_zeroCells,hzk]
  rw[←Nat.add_mul];congr 1;omega
 have hcl:cs.length=news.length*i.size:=by rw[←hcs,List.length_map,flatten_len news hnk]
 have hi':=hi.drew.newRoom hf (ty:=e) (cs:=cs) (us:=us++(Builtin.zeroCells z.cells (grownCap w news.length 0 e - news.length)).toList) (capV i.size (grownCap w news.length 0 e))
  (by rw[hlen,hcl];exact Nat.mul_le_mul_right _ hge)
  (fun p x u hx hu=>by
    have hlt:=(List.getElem?_eq_some_iff.1 hx).1
    rw[List.getElem?_append_left (by rw[hul,←hcl];exact hlt)] at hu
    rw[←hcs,List.getElem?_map,Option.map_eq_some_iff] at hx
    obtain⟨x',hx',rfl⟩:=hx
    obtain⟨e',h1,h2⟩:=flatten_get hk0 news p x' hnk hx'
    have hp:p / i.size*i.size+p % i.size=p:=by rw[Nat.mul_comm];exact Nat.div_add_mod p i.size
    exact .iv (RepI.mono (φ:=E.φ) (w:=w) (w':=w.drew) (fun _ _ _=>rfl) (fun _=>Nat.le_refl _) (hur _ e' _ x' u h1 h2 (by rw[hp];exact hu))))
  (fun u hu=>by
    rcases List.mem_append.1 hu with hu|hu
    · exact hu1 u hu
    · simp only[Builtin.zeroCells,Array.toList_map,Array.toList_range,List.mem_map,List.mem_range] at hu
      obtain⟨p,_,rfl⟩:=hu
      have hlt:p % z.cells.size<z.cells.size:=Nat.mod_lt _ (by rw[hzk];exact hk0)
      rw[getElem!_pos z.cells _ hlt]
      exact hz1 _ (by simp))
  hmo (fun k' cap' he=>by
   obtain⟨rfl,rfl⟩:=capV_inj he
   exact Nat.le_of_eq hlen.symm)
 refine⟨_,_,_,?_,hi',.bsh (cap:=grownCap w news.length 0 e) (o:=0) (by omega) hcm (by simp[Env.upd]) (fun _=>by simp) rfl⟩
 rw[hexec,hq,hrun]
 simp[Env.upd]
theorem Makes.cloneB{t t' e:TypeId}{d:TypeDesc}{x y:Operand}{id id' k off bytes:Nat}{i:TypeInfo}{z:Value}{news:List (List IV)}{cs:List AV}
 (ho:o.op= .call {callee:= .builtin .append,args:= #[x,y],argTypes:= #[t,t']}) (ht:P.underlying t=some (.slice e)) (hi0:P.info? e=some i) (hik:i.size=k) (hib:i.bytes=bytes) (hiz:i.zero=some z) (hzk:z.cells.size=k) (hz1: ∀u∈z.cells.toList,u.oneCell'=true)
 (hd:P.underlying t'=some d) (hn:notInt d) (hk0:0<k) (hx:st.ev x= .bsl id off 0 0) (hnk: ∀e∈news,e.length=k) (hy:Adds P c st y k news) (hne:news≠ [])
 (hm:news.length≤maxLen) (hby:news.length*bytes≤140737488355328) (hf:st.fresh id'=true) (hcs:news.flatten.map .iv=cs) (hmo:AV.ments id' cs=false):
 Makes P c st o (.bsh id' 0 news.length k) ((id',⟨e,cs⟩)::st.bx) st.tk:=
 Makes.cloneB0 ho ht hi0 hik hib hiz hzk hz1 hd hn hk0 (fun E a w hi=>by
  have h:=hi.ev x;rw[hx] at h
  obtain⟨o',hq,_⟩:=h.bsl_inv
  exact⟨_,hq⟩) hnk hy hne hm hby hf hcs hmo
end
end Go.Abs
