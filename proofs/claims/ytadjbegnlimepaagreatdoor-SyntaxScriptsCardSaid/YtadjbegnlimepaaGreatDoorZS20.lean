/- Several texts in one, each with its own sentence ahead of it. Conditions: each one says its own. -/
import Derived.MapKept
import Derived.Test.YtadjbegnlimepaaGreatDoorZS17
import Derived.Test.YtadjbegnlimepaaGreatDoorZS18
set_option linter.all false
namespace Go.Abs
open Go.RowKit (Below)
set_option linter.unusedVariables false
theorem HInv.aside{c:Ctx}{E:Env}{bx:List (Nat×Box)}{tk:List (Nat×Tok)}{w w':World}{g:Nat}(h:HInv c E bx tk w)(hk:KeptBut (· =g) w w')(hg:c.w0.heap.size≤g)(hφ:E.φ g=0)
 (hb: ∀(id:Nat) (b:Box),bx.lookup id=some b→b.cs≠ [] →E.ρ id≠g) (ht: ∀(j:Nat) (t:Tok),tk.lookup j=some t→(E.η j).ownBlock≠some g):
 HInv c E bx tk w'∧ ∀(x:AV) (u:Value),RepA E w x u→RepA E w' x u:=by
 have hkp:Keeps E.φ w w':=fun b o ho=>by
  have hlt:b<w.heap.size:=by
   rcases Nat.lt_or_ge b w.heap.size with h1|h1
   · exact h1
   · rw[h.new b h1] at ho;cases ho
  exact World.cell?_of_block (hk.block b hlt (fun e=>by rw[e,hφ] at ho;cases ho))
 have mono: ∀(x:AV) (u:Value),RepA E w x u→RepA E w' x u:=fun x u hr=>RepA.mono (h:=hr) hkp (fun _=>Nat.le_refl _) (fun _ _=>⟨rfl,rfl⟩)
 refine⟨⟨fun id b hi hn=> ?_,fun j t hj=> ?_,h.bb,h.tt,h.bt,h.own,h.ownt,fun b hb'=>h.new b (Nat.le_trans hk.size hb'),h.old,h.ins,?_⟩,mono⟩
 · have hlt:=box_lt (h.box id b hi hn)
   obtain⟨h0,arr,ha,hl,h1,hr,hq⟩:=h.box id b hi hn
   exact⟨h0,arr,by rw[hk.block _ hlt (hb id b hi hn)];exact ha,hl,h1,fun i x u hx hu=>mono x u (hr i x u hx hu),hq⟩
 · rcases h.tok j t hj with hn|⟨g',n,cap,cur,hv,hh,rest⟩
   · exact .inl hn
   · refine .inr ⟨g',n,cap,cur,hv,?_,rest⟩
     have hlt:g'<w.heap.size:=(Array.getElem?_eq_some_iff.1 hh).1
     rw[hk.block g' hlt (fun e=>ht j t hj (by rw[hv,e];rfl))];exact hh
 · exact h.kept.next hk.os hk.tape hk.output hk.size (fun k hk' _=>hk.block k (Nat.lt_of_lt_of_le hk' h.kept.size) (by omega)) (fun h=>False.elim h)
def Ents(es:Array MapEntry)(l:List (Int×Int)):Prop:=es.toList.map (fun e=>(e.key,e.val))=l.map (fun p=>(Value.int .i64 p.1,Value.int .i64 p.2))
def lookM(l:List (Int×Int))(k:Int):Option Int:=(l.find? (fun p=>k==p.1)).map (·.2)
theorem findNow_ents(k:Int): ∀(es:List MapEntry) (l:List (Int×Int)) (i:Nat),es.map (fun e=>(e.key,e.val))=l.map (fun p=>(Value.int .i64 p.1,Value.int .i64 p.2))→
 ∃r,Instr.findNow (.int .i64) (.int .i64 k) es i=some r∧r.map Prod.snd=(lookM l k).map (Value.int .i64)
 | [],[],i,_=>⟨none,rfl,rfl⟩
 | [],p::l,i,h=>by simp at h
 |e::es,[],i,h=>by simp at h
 |e::es,p::l,i,h=>by
  simp only[List.map_cons,List.cons.injEq,Prod.mk.injEq] at h
  obtain⟨⟨h1,h2⟩,h3⟩:=h
  cases hq:k==p.1 with
  |true=>
   refine⟨some (i,e.val),by simp only[Instr.findNow,h1,Instr.sameNow,if_true];rw[hq],?_⟩
   rw[lookM,List.find?_cons,hq,h2];rfl
  |false=>
   obtain⟨r,hr,hv⟩:=findNow_ents k es l (i+1) h3
   refine⟨r,by simp only[Instr.findNow,h1,Instr.sameNow,if_true];rw[hq];exact hr,?_⟩
   rw[hv,lookM,lookM,List.find?_cons,hq]
structure MapTy (P:Program) (t:TypeId):Prop where
 h: ∃kt et,P.underlying t=some (.map kt et)∧P.underlying kt=some (.int .i64)∧(P.info? et).bind (·.zero)=some (.int .i64 0)
theorem run_zero{P:Program}{w:World}{t:TypeId}{z:Value}(h:(P.info? t).bind (·.zero)=some z):(zeroValue t).run P w= .ok z w:=by
 cases hq:P.info? t with
 |none=>rw[hq] at h;simp at h
 |some i=>
  rw[hq] at h
  simp only[Option.bind_some] at h
  simp[zeroValue,typeInfo,Sem.run_bind,run_program,Result.andThen,hq,h]
section
variable {P:Program}{c:Ctx}{st:St}{ops:Array Oper}{Q:Exit→Act→World→Prop}{rest:List Oper}{o:Oper}
def LM(c:Ctx)(b:Nat)(l:List (Int×Int))(st:St)(X:Act→World→Prop):Prop:=
 ∀(a:Act) (w:World) (E:Env),Inv c E st a w→c.w0.heap.size≤b→E.φ b=0→(∃es clk,w.heap[b]?=some (.map es clk)∧Ents es l)→X a w
theorem LM.make{t:TypeId}{d:Nat}(ho:o.op= .makeMap t none)(hg:o.guard=none)(hd:o.dst=some d)(hlt:Nat.ble (d+1) c.nt=true)
 (h: ∀b:Nat,LM c b [] ⟨(d,.iv (.im (.map (some b))))::st.fr,st.bx,st.tk⟩ (wpList P ops Q rest)):L c st (wpList P ops Q (o::rest)):=by
 rintro a w ⟨E,hi⟩
 have hrun:(execOp a.eval o).run P w= .ok (.value (.map (some w.heap.size))) (w.alloc (.map #[] 0)):=by
  simp[execOp,ho,Instr.makeMap,Result.andThen]
 refine wpList_plain hg (fun K hK=>Oper.wp_value hrun (hK _ _ ?_))
 rw[hd]
 have hal:=MapKept.heap_alloc w (.map #[] 0)
 have hkb:KeptBut (· =w.heap.size) w (w.alloc (.map #[] 0)):=⟨rfl,rfl,rfl,by show w.heap.size≤(w.heap.push _).size;simp,fun k hk _=>hal.2 k hk,fun _=>Nat.le_refl _⟩
 obtain⟨h1,h2⟩:=hi.heap.aside hkb hi.heap.kept.size (hi.heap.new _ (Nat.le_refl _)) (fun id b hb hn=>Nat.ne_of_lt (box_lt (hi.heap.box id b hb hn))) (fun j t' hj e=>Nat.lt_irrefl _ (ownBlock_lt (hi.heap.tok j t' hj) e))
 exact h w.heap.size _ _ E (Inv.put ⟨hi.defers,hi.size,fun s v hs=>h2 _ _ (hi.slot s v hs),h1⟩ (Nat.le_of_ble_eq_true hlt) (.iv (.im rfl))) hi.heap.kept.size (hi.heap.new _ (Nat.le_refl _)) ⟨#[],0,hal.1,rfl⟩
theorem LM.insert{t:TypeId}{b:Nat}{l:List (Int×Int)}{x y z:Operand}{k v:Int}(ho:o.op= .insert t x y z)(hg:o.guard=none)(hd:o.dst=none)(hx:st.ev x= .iv (.im (.map (some b))))(hy:st.ev y=aI k)(hz:st.ev z=aI v)
 (ht:MapTy P t) (hnew:lookM l k=none) (h:LM c b (l++ [(k,v)]) st (wpList P ops Q rest)):LM c b l st (wpList P ops Q (o::rest)):=by
 rintro a w E hi hb hφ ⟨es,clk,hh,he⟩
 obtain⟨kt,et,t1,t2,t3⟩:=ht.h
 obtain⟨r,hr,hrv⟩:=findNow_ents k es.toList l 0 he
 rw[hnew] at hrv
 have hr0:r=none:=by cases r with|none=>rfl|some _=>cases hrv
 subst hr0
 have e1:a.eval x= .map (some b):=by have:=hi.ev x;rw[hx] at this;exact this.iv_im
 have e2:a.eval y= .int .i64 k:=by have:=hi.ev y;rw[hy] at this;exact this.iv_im
 have e3:a.eval z= .int .i64 v:=by have:=hi.ev z;rw[hz] at this;exact this.iv_im
 have hkey:MapKept.IsKey (.int .i64) (.int .i64 k):=rfl
 have hrun:(execOp a.eval o).run P w= .ok .skip {w with heap:=w.heap.setIfInBounds b (.map (es.push {key:= .int .i64 k,val:= .int .i64 v,born:=clk}) (clk+1))}:=by
  simp[execOp,ho,e1,e2,e3,Instr.mapUpdate,run_underlying t1,MapKept.run_getObj_map hh,MapKept.run_checkKey t2 hkey,MapKept.run_findKey t2 hr,MapKept.run_setObj_map _ hh,Result.andThen]
 refine wpList_plain hg (fun K hK=> ?_)
 unfold Oper.wp
 rw[hrun]
 simp only[Oper.upon_skip,hd,Act.put]
 refine hK _ _ ?_
 have hs:=MapKept.heap_set (o':= .map (es.push {key:= .int .i64 k,val:= .int .i64 v,born:=clk}) (clk+1)) hh
 have hkb:KeptBut (· =b) w {w with heap:=w.heap.setIfInBounds b (.map (es.push {key:= .int .i64 k,val:= .int .i64 v,born:=clk}) (clk+1))}:=⟨rfl,rfl,rfl,by simp,fun k' _ hk=>hs.2 k' hk,fun _=>Nat.le_refl _⟩
 obtain⟨h1,h2⟩:=hi.heap.aside hkb hb hφ (fun id bb hbb hn e=>by
  obtain⟨_,arr,ha,_⟩:=hi.heap.box id bb hbb hn
  rw[e,hh] at ha;cases ha) (fun j t' hj e=>by
  rcases hi.heap.tok j t' hj with hn|⟨g',n,cap,cur,hv,hh',_⟩
  · rw[hn] at e;simp[Value.ownBlock] at e
  · rw[hv] at e;simp[Value.ownBlock] at e;rw[e,hh] at hh';cases hh')
 refine h a _ E ⟨hi.defers,hi.size,fun s v hs=>h2 _ _ (hi.slot s v hs),h1⟩ hb hφ ⟨_,_,hs.1,?_⟩
 unfold Ents at he⊢
 simp[he]
structure Link (c c':Ctx):Prop where
 nt:c'.nt=c.nt
 own: ∀id∈c'.ins,c.w0.heap.size≤c'.E0.ρ id∨c.M (c'.E0.ρ id)
 ins: ∀id∈c.ins,id∈c'.ins∧c'.E0.ρ id=c.E0.ρ id∧c'.E0.η id=c.E0.η id
 old: ∀b,b<c.w0.heap.size→c'.E0.φ b=c.E0.φ b
 kept:KeptBut c.M c.w0 c'.w0
def MapIn(c:Ctx)(b:Nat)(l:List (Int×Int)):Prop:=(∃es clk,c.w0.heap[b]?=some (.map es clk)∧Ents es l)∧ ¬c.M b
theorem LM.rebase{b:Nat}{l:List (Int×Int)}{X:Act→World→Prop}(htk:st.tk= [])(hlive:st.bx.all (fun p=> !p.2.cs.isEmpty)=true)
 (h: ∀c':Ctx,c'.ins=keys st.bx→Link c c'→MapIn c' b l→L c' st X):LM c b l st X:=by
 rintro a w E hi hb hφ ⟨es,clk,hh,he⟩
 have hne: ∀(id:Nat) (bb:Box),st.bx.lookup id=some bb→bb.cs≠ []:=fun id bb hl=>by
  have:=List.all_eq_true.1 hlive _ (lookup_mem hl)
  simpa using this
 refine h ⟨c.nt,w,E,keys st.bx⟩ rfl ⟨rfl,fun id hid=> ?_,fun id hid=> ?_,fun b' hb'=>hi.heap.old b' hb',hi.heap.kept⟩ ⟨⟨es,clk,hh,he⟩,?_⟩ a w ⟨E,hi.defers,hi.size,hi.slot,?_⟩
 · obtain⟨bb,hl⟩:=mem_keys hid
   exact hi.heap.own id bb hl (hne id bb hl)
 · obtain⟨e1,e2,e3⟩:=hi.heap.ins id hid
   obtain⟨bb,hl⟩:=Option.isSome_iff_exists.1 e3
   exact⟨keys_mem hl,e1,e2⟩
 · rintro ⟨id,hid,e,_⟩
   obtain⟨bb,hl⟩:=mem_keys hid
   obtain⟨_,arr,ha,_⟩:=hi.heap.box id bb hl (hne id bb hl)
   dsimp only at e
   rw[e,hh] at ha;cases ha
 · refine⟨hi.heap.box,hi.heap.tok,hi.heap.bb,hi.heap.tt,hi.heap.bt,fun i bb hl hn=> .inr ⟨i,keys_mem hl,rfl,(hi.heap.box i bb hl hn).1⟩,fun j t g hj=>by rw[htk] at hj;simp at hj,hi.heap.new,fun _ _=>rfl,fun id hid=> ?_,KeptBut.refl _ _⟩
   obtain⟨bb,hl⟩:=mem_keys hid
   exact⟨rfl,rfl,by rw[hl];rfl⟩
theorem L.back{c':Ctx}{X:Act→World→Prop}(hk:Link c c')(h:L c st X):L c' st X:=by
 rintro a w ⟨E,hi⟩
 refine h a w ⟨E,hi.defers,hi.size.trans hk.nt,hi.slot,hi.heap.box,hi.heap.tok,hi.heap.bb,hi.heap.tt,hi.heap.bt,fun i b hl hn=> ?_,fun j t g hj hg=>Nat.le_trans hk.kept.size (hi.heap.ownt j t g hj hg),hi.heap.new,fun b hb=> ?_,fun id hid=> ?_,?_⟩
 · rcases hi.heap.own i b hl hn with h1|⟨id,hid,e,_⟩
   · exact .inl (Nat.le_trans hk.kept.size h1)
   · rw[←e];exact hk.own id hid
 · rw[hi.heap.old b (Nat.lt_of_lt_of_le hb hk.kept.size),hk.old b hb]
 · obtain⟨k1,k2,k3⟩:=hk.ins id hid
   obtain⟨e1,e2,e3⟩:=hi.heap.ins id k1
   exact⟨e1.trans k2,e2.trans k3,e3⟩
 · refine hk.kept.next hi.heap.kept.os hi.heap.kept.tape hi.heap.kept.output hi.heap.kept.size (fun k hk' hm=>hi.heap.kept.block k (Nat.lt_of_lt_of_le hk' hk.kept.size) (fun hM=> ?_)) (fun h=>False.elim h)
   obtain⟨id,hid,e,_⟩:=hM
   rcases hk.own id hid with h1|h1
   · rw[e] at h1;omega
   · rw[e] at h1;exact hm h1
theorem Yields.lookM{t:TypeId}{b:Nat}{l:List (Int×Int)}{x y:Operand}{k:Int}(ho:o.op= .lookup t x y true)(ht:MapTy P t)(hm:MapIn c b l)(hx:st.ev x= .iv (.im (.map (some b))))(hy:st.ev y=aI k):
 Yields P c st o (.tup [aI ((Abs.lookM l k).getD 0),aB (Abs.lookM l k).isSome]):=fun E a w hi=>by
 obtain⟨⟨es,clk,hh,he⟩,hM⟩:=hm
 obtain⟨kt,et,t1,t2,t3⟩:=ht.h
 have hlt:b<c.w0.heap.size:=(Array.getElem?_eq_some_iff.1 hh).1
 rw[←hi.heap.kept.block b hlt hM] at hh
 obtain⟨r,hr,hrv⟩:=findNow_ents k es.toList l 0 he
 have e1:a.eval x= .map (some b):=by have:=hi.ev x;rw[hx] at this;exact this.iv_im
 have e2:a.eval y= .int .i64 k:=by have:=hi.ev y;rw[hy] at this;exact this.iv_im
 have hkey:MapKept.IsKey (.int .i64) (.int .i64 k):=rfl
 have hz:=run_zero (w:=w) t3
 refine⟨.tuple #[.int .i64 ((Abs.lookM l k).getD 0),.bool (Abs.lookM l k).isSome],?_,.tup rfl (fun i cc u hc hu=> ?_)⟩
 · cases r with
   |none=>
    have:Abs.lookM l k=none:=by cases hl:Abs.lookM l k with|none=>rfl|some _=>rw[hl] at hrv;cases hrv
    simp[execOp,ho,e1,e2,Instr.lookup,run_underlying t1,MapKept.run_getObj_map hh,MapKept.run_checkKey t2 hkey,MapKept.run_findKey t2 hr,hz,Result.andThen,this]
   |some q=>
    obtain⟨j,v⟩:=q
    cases hl:Abs.lookM l k with
    |none=>rw[hl] at hrv;cases hrv
    |some v'=>
     rw[hl] at hrv
     simp only[Option.map_some,Option.some.injEq] at hrv
     subst hrv
     simp[execOp,ho,e1,e2,Instr.lookup,run_underlying t1,MapKept.run_getObj_map hh,MapKept.run_checkKey t2 hkey,MapKept.run_findKey t2 hr,Result.andThen]
 · match i,hc,hu with
   |0,hc,hu=>simp at hc hu;subst hc;subst hu;exact .iv (.im rfl)
   |1,hc,hu=>simp at hc hu;subst hc;subst hu;exact .iv (.im rfl)
   |n+2,hc,hu=>simp at hc
end
end Go.Abs
namespace Go.Abs
open Go.RowKit (Below)
set_option linter.unusedVariables false
theorem L.rowS(K N s:Nat){c:Ctx}{st:St}{X:Act→World→Prop}{k n:Nat}{ty:TypeId}{es:List (List IV)}(hin:c.ins= [])(hb:st.bx.lookup K=some ⟨ty,.r es.flatten 0⟩)(hk: ∀e∈es,e.length=k)(hk0:0<k)(hne:es≠ [])(hn:es.length=n)
 (hs:st.fr.lookup s=some (.bsh K 0 n k)) (hf:st.fresh N=true) (h:L c ⟨(s,.row N es)::st.fr,(K,⟨ty,.l []⟩)::st.bx,(N,⟨ty,k⟩)::st.tk⟩ X):L c st X:=by
 subst hn
 rintro a w ⟨E,hi⟩
 have hbn:(⟨ty,.r es.flatten 0⟩:Box).cs≠ []:=fun e=>by
  have hl:=flatten_len es hk
  simp only[Box.cs_r,List.append_eq_nil_iff,List.map_eq_nil_iff] at e
  rw[e.1] at hl
  have:=Nat.mul_pos (List.length_pos_iff.2 hne) hk0
  simp at hl;omega
 obtain⟨h0,arr,ha,hla,h1,hr,hη⟩:=hi.heap.box K _ hb hbn
 have hslot:=hi.slot s _ hs
 obtain⟨cap,o,hu,hnc,hcm,heta,hoo⟩:=hslot.bsh_inv
 have hpos:=List.length_pos_iff.2 hne
 have ho0:o=0:=by rw[hoo (by omega)];simp
 subst ho0
 obtain⟨E2,hi2,hm,hpub,hρ,hη2,hφ⟩:=publish_core K (n:=es.length) (k:=k) (xs:=es.flatten) (by rw[hin];rfl) hb (by simp only[Box.cs_r,List.replicate_zero,List.append_nil];exact toIs_iv _) (by simp only[Box.cs_r,List.replicate_zero,List.append_nil,List.length_map];exact flatten_len es hk) hk0 hpos hi
 have hfr2:St.fresh N ⟨st.fr,(K,⟨ty,.l []⟩)::st.bx,st.tk⟩=true:=by
  simp only[St.fresh,List.all_cons,Bool.and_eq_true] at hf⊢
  have hKN:K≠N:=(St.fresh_bx (st:=st) (by simp only[St.fresh,Bool.and_eq_true];exact hf) hb).1
  exact⟨⟨hf.1.1,by simpa[Box.ment,AV.ments] using hKN,hf.1.2⟩,hf.2⟩
 have hNK:K≠N:=(St.fresh_bx hf hb).1
 obtain⟨ht,mono⟩:=hi2.heap.turn (st:=⟨st.fr,(K,⟨ty,.l []⟩)::st.bx,st.tk⟩) hfr2 0 (.slice (some ⟨E.ρ K,0,none⟩) es.length cap)
 have hmap: ∀(i:Nat) (b1:Box),List.lookup i ((K,(⟨ty,.l []⟩:Box))::st.bx)=some b1→b1.cs≠ [] →i≠K∧st.bx.lookup i=some b1:=fun i b1 h hn=>by
  by_cases e:i=K
  · subst e;rw[lookup_cons_eq] at h;cases h;exact(hn rfl).elim
  · rw[lookup_cons_ne e] at h;exact⟨e,h⟩
 have hown:c.w0.heap.size≤E.ρ K:=by
  rcases hi.heap.own K _ hb hbn with h|⟨id,hid,_⟩
  · exact h
  · rw[hin] at hid;cases hid
 have hcapl:cap*k≤arr.length:=hη k cap heta
 refine h a w ⟨_,hi2.defers,hi2.size,fun s' v hv=> ?_,ht.addTok (id:=N) (t:=⟨ty,k⟩) ?_ (fun j t' g hj hl hg hg'=> ?_) (fun i b1 hb1 hn1 hg'=> ?_) (fun g hg=> ?_)⟩
 · by_cases e:s'=s
   · subst e
     simp only[lookup_cons_eq,Option.some.injEq] at hv
     subst hv
     have hp:=hpub _ hslot
     rw[chunks_flat es hk] at hp
     refine .row (by simp[hu]) ?_
     cases hp with|iv hp=>exact hp
   · simp only[lookup_cons_ne e] at hv
     exact mono v _ (St.fresh_fr hf hv) (hi2.slot s' v hv)
 · refine .inr ⟨E.ρ K,es.length,cap,arr.toArray,by simp,ha,by omega,hcm,by simpa using hcapl,?_⟩
   show E2.φ (E.ρ K)≤_
   rw[hφ];exact Nat.le_refl _
 · simp only[if_true,Value.ownBlock,Option.some.injEq] at hg'
   simp only[if_neg hj] at hg
   rw[hη2] at hg
   exact hi.heap.bt K j _ t' hb hbn hl (by rw[hg,hg'])
 · obtain⟨hne1,h2⟩:=hmap i b1 hb1 hn1
   have hiN:i≠N:=(St.fresh_bx hf h2).1
   simp only[if_true,Value.ownBlock,Option.some.injEq,if_neg hiN] at hg'
   rw[hρ] at hg'
   exact hne1 (hi.heap.bb i K b1 _ h2 hb hn1 hbn hg'.symm)
 · simp only[if_true,Value.ownBlock,Option.some.injEq] at hg
   rw[←hg];exact hown
end Go.Abs
namespace Go.Abs
open Go.RowKit (Below)
set_option linter.unusedVariables false
section
variable {P:Program}{c:Ctx}{fr:List (Nat×AV)}{bx:List (Nat×Box)}{tk:List (Nat×Tok)}{ops:Array Oper}{Q:Exit→Act→World→Prop}{rest:List Oper}
 {d:Nat} {ty:TypeId} {pos:String} {aft:Array Edge} {st:St}
theorem LW.mk(h:L c st (wpList P ops Q rest)):LW P c st ops Q rest:=by unfold LW;exact h
theorem VV.mk{o:Oper}{v:AV}{tb:List Nat}(h: ∀st':St,(∀x∈o.op.operands,st'.ev x=st.ev x)→(∀id∈tb,st'.bx.lookup id=st.bx.lookup id)→Yields P c st' o v):VV P c st o v tb:=by unfold VV;exact h
theorem LM.rebaseG{gs:Globs}{b:Nat}{l:List (Int×Int)}{X:Act→World→Prop}(hG:Glob gs c.E0 c.w0)(htk:st.tk= [])(hlive:st.bx.all (fun p=> !p.2.cs.isEmpty)=true)
 (h: ∀c':Ctx,c'.ins=keys st.bx→Link c c'→MapIn c' b l→Glob gs c'.E0 c'.w0→L c' st X):LM c b l st X:=by
 rintro a w E hi hb hφ ⟨es,clk,hh,he⟩
 have hne: ∀(id:Nat) (bb:Box),st.bx.lookup id=some bb→bb.cs≠ []:=fun id bb hl=>by
  have:=List.all_eq_true.1 hlive _ (lookup_mem hl)
  simpa using this
 refine h ⟨c.nt,w,E,keys st.bx⟩ rfl ⟨rfl,fun id hid=> ?_,fun id hid=> ?_,fun b' hb'=>hi.heap.old b' hb',hi.heap.kept⟩ ⟨⟨es,clk,hh,he⟩,?_⟩ (hG.keep hi) a w ⟨E,hi.defers,hi.size,hi.slot,?_⟩
 · obtain⟨bb,hl⟩:=mem_keys hid
   exact hi.heap.own id bb hl (hne id bb hl)
 · obtain⟨e1,e2,e3⟩:=hi.heap.ins id hid
   obtain⟨bb,hl⟩:=Option.isSome_iff_exists.1 e3
   exact⟨keys_mem hl,e1,e2⟩
 · rintro ⟨id,hid,e,_⟩
   obtain⟨bb,hl⟩:=mem_keys hid
   obtain⟨_,arr,ha,_⟩:=hi.heap.box id bb hl (hne id bb hl)
   dsimp only at e
   rw[e,hh] at ha;cases ha
 · refine⟨hi.heap.box,hi.heap.tok,hi.heap.bb,hi.heap.tt,hi.heap.bt,fun i bb hl hn=> .inr ⟨i,keys_mem hl,rfl,(hi.heap.box i bb hl hn).1⟩,fun j t g hj=>by rw[htk] at hj;simp at hj,hi.heap.new,fun _ _=>rfl,fun id hid=> ?_,KeptBut.refl _ _⟩
   obtain⟨bb,hl⟩:=mem_keys hid
   exact⟨rfl,rfl,by rw[hl];rfl⟩
theorem v_lookM{t:TypeId}{b:Nat}{l:List (Int×Int)}{x y:Operand}{k:Int}{v:AV}(ht:MapTy P t)(hm:MapIn c b l)(hx:St.ev ⟨fr,bx,tk⟩ x= .iv (.im (.map (some b))))(hy:St.ev ⟨fr,bx,tk⟩ y=aI k)(hv: .tup [aI ((Abs.lookM l k).getD 0),aB (Abs.lookM l k).isSome] =v):
 VV P c ⟨fr,bx,tk⟩ ⟨some d,.lookup t x y true,ty,pos,aft,none⟩ v []:=
 .mk fun st' kE kL=>hv▸ .lookM rfl ht hm ((kE x (by simp[Op.operands,Call.operands])).trans hx) ((kE y (by simp[Op.operands,Call.operands])).trans hy)
theorem Sub.bslE(id off:Nat):Sub (.bsl id off 0 0) .emp:=fun _ _ _ h=>by
 obtain⟨o,hu,_⟩:=h.bsl_inv
 exact .emp hu
theorem v_appE0{t t' e e':TypeId}{k k':Nat}{x y:Operand}{v:AV}[hs:SliceTy P t e k][hs':SliceTy P t' e' k'](hx:St.ev ⟨fr,bx,tk⟩ x=v)(hv:Sub v .emp)(hy:(St.ev ⟨fr,bx,tk⟩ y).sl?=some []):
 VV P c ⟨fr,bx,tk⟩ ⟨some d,.call {callee:= .builtin .append,args:= #[x,y],argTypes:= #[t,t']},ty,pos,aft,none⟩ .emp []:= .mk fun st' kE kL E a w hi=>by
 obtain⟨hu,inf,hinf,hsz⟩:=sliceOk_run hs.h
 obtain⟨hu',_⟩:=sliceOk_run hs'.h
 have h0:=hi.ev x
 rw[(kE x (by simp[Op.operands,Call.operands])).trans hx] at h0
 have h0:=hv _ _ _ h0
 have h2:RepI E.φ w (.sl []) (a.eval y):=(hi.ev y).sl ((congrArg AV.sl? (kE y (by simp[Op.operands,Call.operands]))).trans hy)
 have hy2:(Builtin.lenOf (a.eval y)).run P w= .ok 0 w∧(Builtin.firstCells inf.size 0 (a.eval y)).run P w= .ok #[] w:=by
  generalize a.eval y=uy at h2
  rcases h2.sl_inv with⟨hq,_⟩|⟨ad,cap,hq,_,_,_⟩|⟨b,o',cap,k',f,hq,hc,_⟩
  · rw[hq];exact⟨rfl,by simp[Builtin.firstCells]⟩
  · rw[hq];exact⟨rfl,by simp[Builtin.firstCells,loadCells,loadCellsFrom]⟩
  · rw[hq];exact⟨rfl,by simp[Builtin.firstCells,loadCells,loadCellsFrom]⟩
 have hap:(Builtin.append_ #[t,t'] ty #[a.eval x,a.eval y]).run P w= .ok (a.eval x) w:=by
  generalize a.eval x=ux at h0
  cases h0 with
  | @emp ad _ hq=>subst hq;cases ad<;>simp[Builtin.append_,run_underlying hu,run_underlying hu',sizeOf,typeInfo,hinf,hy2.1,hy2.2,storeCells]
 exact⟨a.eval x,by simp[execOp,resolve,invoke,builtin,hap],h0⟩
theorem CallA.pubRow{f:FuncId}{zas:List AV}{N:Nat}{t:Tok}{es:List (List IV)}(h:CallA P f zas [] [] [(N,t)] (.row N es)):CallA P f zas [] [] [] (.iv (.sl es)):=fun E w us hr hh=>
 (h E w us hr hh).mono (fun e w' ⟨u,E',he,hrep,hinv⟩=>⟨u,E',he,Sub.row _ _ _ _ _ hrep,hinv.wk (st:=⟨[],[],[(N,t)]⟩) (st':=⟨[],[],[]⟩) (Wk.mk' (by intro id h;simp[keys] at h) .nil .nil .nil)⟩)
theorem s_callRowN{f:FuncId}{args:Array Operand}{ats:Array TypeId}{zas:List AV}{t:Tok}{es:List (List IV)}(hlt:Nat.ble (d+1) c.nt=true)[hok:CallTy P f](hc:CallA P f zas [] [] [(d,t)] (.row d es))(ha:args.toList.map (St.ev ⟨fr,bx,tk⟩)=zas)
 (hf:St.fresh d ⟨fr,bx,tk⟩=true) (h:LW P c ⟨(d,.row d es)::fr,bx,(d,t)::tk⟩ ops Q rest):
 LW P c ⟨fr,bx,tk⟩ ops Q (⟨some d,.call {callee:= .value (.func f),args:=args,argTypes:=ats},ty,pos,aft,none⟩::rest):=
 .mk (L.callN (st:=⟨fr,bx,tk⟩) [d] rfl rfl hlt rfl hok.h hc (ha▸Subs.refl _) .nil (by simp[hf]) rfl (by simp[keys]) rfl (by simp[AV.mentIn]) h.out)
theorem s_call0N{f:FuncId}{args:Array Operand}{ats:Array TypeId}{zas:List AV}{res:AV}(hlt:Nat.ble (d+1) c.nt=true)[hok:CallTy P f](hc:CallA P f zas [] [] [] res)(ha:args.toList.map (St.ev ⟨fr,bx,tk⟩)=zas)
 (hmr:AV.mentIn [] res=true) (h:LW P c ⟨(d,res)::fr,bx,tk⟩ ops Q rest):
 LW P c ⟨fr,bx,tk⟩ ops Q (⟨some d,.call {callee:= .value (.func f),args:=args,argTypes:=ats},ty,pos,aft,none⟩::rest):=
 .mk (L.call0 (st:=⟨fr,bx,tk⟩) rfl rfl hlt rfl hok.h hc (ha▸Subs.refl _) hmr h.out)
theorem L.rowS0(K N s s2:Nat){X:Act→World→Prop}{k m m':Nat}{ty:TypeId}(hin:c.ins= [])(hb:st.bx.lookup K=some ⟨ty,.r [] m⟩)(hm0:0<m)
 (hs:st.fr.lookup s=some (.bsh K 0 0 k)) (hs2:st.fr.lookup s2=some (.bsh K 0 m' k)) (hm':0<m') (hf:st.fresh N=true) (h:L c ⟨(s,.row N [])::st.fr,(K,⟨ty,.l []⟩)::st.bx,(N,⟨ty,k⟩)::st.tk⟩ X):L c st X:=by
 rintro a w ⟨E,hi⟩
 have hbn:(⟨ty,.r [] m⟩:Box).cs≠ []:=fun e=>by
  simp only[Box.cs_r,List.map_nil,List.nil_append] at e
  have:=congrArg List.length e;simp at this;omega
 obtain⟨h0,arr,ha,hla,h1,hr,hη⟩:=hi.heap.box K _ hb hbn
 have hslot:=hi.slot s _ hs
 obtain⟨cap,o,hu,hnc,hcm,heta,hoo⟩:=hslot.bsh_inv
 have hkill:HInv c E ((K,⟨ty,.l []⟩)::st.bx) st.tk w:=hi.heap.reBox hb hbn (fun h=>absurd rfl h)
 have hNK:K≠N:=(St.fresh_bx hf hb).1
 have hfr2:St.fresh N ⟨st.fr,(K,⟨ty,.l []⟩)::st.bx,st.tk⟩=true:=by
  simp only[St.fresh,List.all_cons,Bool.and_eq_true] at hf⊢
  exact⟨⟨hf.1.1,by simpa[Box.ment,AV.ments] using hNK,hf.1.2⟩,hf.2⟩
 have hcapl:cap*k≤arr.length:=hη k cap heta
 have hown:c.w0.heap.size≤E.ρ K:=by
  rcases hi.heap.own K _ hb hbn with h|⟨id,hid,_⟩
  · exact h
  · rw[hin] at hid;cases hid
 have hmap: ∀(i:Nat) (b1:Box),List.lookup i ((K,(⟨ty,.l []⟩:Box))::st.bx)=some b1→b1.cs≠ [] →i≠K∧st.bx.lookup i=some b1:=fun i b1 h hn=>by
  by_cases e:i=K
  · subst e;rw[lookup_cons_eq] at h;cases h;exact(hn rfl).elim
  · rw[lookup_cons_ne e] at h;exact⟨e,h⟩
 obtain⟨cap2,o2,_,hnc2,_,heta2,_⟩:=(hi.slot s2 _ hs2).bsh_inv
 have hcc:=(capV_inj (heta.symm.trans heta2)).2
 have ho0:o=0:=by rw[hoo (by omega)];simp
 subst ho0
 obtain⟨ht,mono⟩:=HInv.turn (st:=⟨st.fr,(K,⟨ty,.l []⟩)::st.bx,st.tk⟩) hkill hfr2 0 (.slice (some ⟨E.ρ K,0,none⟩) 0 cap)
 refine h a w ⟨_,hi.defers,hi.size,fun s' v hv=> ?_,ht.addTok (id:=N) (t:=⟨ty,k⟩) ?_ (fun j t' g hj hl hg hg'=> ?_) (fun i b1 hb1 hn1 hg'=> ?_) (fun g hg=> ?_)⟩
 · by_cases e:s'=s
   · subst e
     simp only[lookup_cons_eq,Option.some.injEq] at hv
     subst hv
     exact .row (by simp[hu]) (by rw[hu];exact .emp (fun e=>by cases e) (by omega))
   · simp only[lookup_cons_ne e] at hv
     exact mono v _ (St.fresh_fr hf hv) (hi.slot s' v hv)
 · refine .inr ⟨E.ρ K,0,cap,arr.toArray,by simp,ha,by omega,by omega,by simpa using hcapl,?_⟩
   show E.φ (E.ρ K)≤_
   rw[h0];exact Nat.zero_le _
 · simp only[if_true,Value.ownBlock,Option.some.injEq] at hg'
   simp only[if_neg hj] at hg
   exact hi.heap.bt K j _ t' hb hbn hl (by rw[hg,hg'])
 · obtain⟨hne1,h2⟩:=hmap i b1 hb1 hn1
   have hiN:i≠N:=(St.fresh_bx hf h2).1
   simp only[if_true,Value.ownBlock,Option.some.injEq,if_neg hiN] at hg'
   exact hne1 (hi.heap.bb i K b1 _ h2 hb hn1 hbn hg'.symm)
 · simp only[if_true,Value.ownBlock,Option.some.injEq] at hg
   rw[←hg];exact hown
end
end Go.Abs
