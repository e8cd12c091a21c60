/- Several texts in one, each with its own sentence ahead of it. Conditions: each one says its own. -/
import Derived.Test.YthcjohcakdnmmaaGreatDoorZS10
import Derived.Test.YthcjohcakdnmmaaGreatDoorZS14
import Derived.Test.YthcjohcakdnmmaaGreatDoorZS15
set_option linter.all false
namespace Go.Abs
open Go.RowKit (Below)
set_option linter.unusedVariables false
theorem L.rowS(K N s:Nat){c:Ctx}{st:St}{X:Act→World→Prop}{k n:Nat}{ty:TypeId}{es:List (List IV)}(hin:c.ins= [])(hb:st.bx.lookup K=some ⟨ty,.r es.flatten 0⟩)(hk: ∀e∈es,e.length=k)(hk0:0<k)(hne:es≠ [])(hn:es.length=n)
 (hs:st.fr.lookup s=some (.bsh K 0 n k)) (hf:st.fresh N=true) (h:L c ⟨(s,.row N es)::st.fr,(K,⟨ty,.l []⟩)::st.bx,(N,⟨ty,k⟩)::st.tk⟩ X):L c st X:=by
 subst hn
 rintro a w ⟨E,hi⟩
 have hbn:(⟨ty,.r es.flatten 0⟩:Box).cs≠ []:=fun e=>by
  have hl:=flatten_len es hk
  simp only[Box.cs_r,List.append_eq_nil_iff,List.map_eq_nil_iff] at e
  rw[e.1] at hl
  have:=Nat.mul_pos (List.length_pos_iff.2 hne) hk0
  simp at hl;omega
 obtain⟨h0,arr,ha,hla,h1,hr,hη⟩:=hi.heap.box K _ hb hbn
 have hslot:=hi.slot s _ hs
 obtain⟨cap,o,hu,hnc,hcm,heta,hoo⟩:=hslot.bsh_inv
 have hpos:=List.length_pos_iff.2 hne
 have ho0:o=0:=by rw[hoo (by omega)];simp
 subst ho0
 obtain⟨E2,hi2,hm,hpub,hρ,hη2,hφ⟩:=publish_core K (n:=es.length) (k:=k) (xs:=es.flatten) (by rw[hin];rfl) hb (by simp only[Box.cs_r,List.replicate_zero,List.append_nil];exact toIs_iv _) (by simp only[Box.cs_r,List.replicate_zero,List.append_nil,List.length_map];exact flatten_len es hk) hk0 hpos hi
 have hfr2:St.fresh N ⟨st.fr,(K,⟨ty,.l []⟩)::st.bx,st.tk⟩=true:=by
  simp only[St.fresh,List.all_cons,Bool.and_eq_true] at hf⊢
  have hKN:K≠N:=(St.fresh_bx (st:=st) (by simp only[St.fresh,Bool.and_eq_true];exact hf) hb).1
  exact⟨⟨hf.1.1,by simpa[Box.ment,AV.ments] using hKN,hf.1.2⟩,hf.2⟩
 have hNK:K≠N:=(St.fresh_bx hf hb).1
 obtain⟨ht,mono⟩:=hi2.heap.turn (st:=⟨st.fr,(K,⟨ty,.l []⟩)::st.bx,st.tk⟩) hfr2 0 (.slice (some ⟨E.ρ K,0,none⟩) es.length cap)
 have hmap: ∀(i:Nat) (b1:Box),List.lookup i ((K,(⟨ty,.l []⟩:Box))::st.bx)=some b1→b1.cs≠ [] →i≠K∧st.bx.lookup i=some b1:=fun i b1 h hn=>by
  by_cases e:i=K
  · subst e;rw[lookup_cons_eq] at h;cases h;exact(hn rfl).elim
  · rw[lookup_cons_ne e] at h;exact⟨e,h⟩
 have hown:c.w0.heap.size≤E.ρ K:=by
  rcases hi.heap.own K _ hb hbn with h|⟨id,hid,_⟩
  · exact h
  · rw[hin] at hid;cases hid
 have hcapl:cap*k≤arr.length:=hη k cap heta
 refine h a w ⟨_,hi2.defers,hi2.size,fun s' v hv=> ?_,ht.addTok (id:=N) (t:=⟨ty,k⟩) ?_ (fun j t' g hj hl hg hg'=> ?_) (fun i b1 hb1 hn1 hg'=> ?_) (fun g hg=> ?_)⟩
 · by_cases e:s'=s
   · subst e
     simp only[lookup_cons_eq,Option.some.injEq] at hv
     subst hv
     have hp:=hpub _ hslot
     rw[chunks_flat es hk] at hp
     refine .row (by simp[hu]) ?_
     cases hp with|iv hp=>exact hp
   · simp only[lookup_cons_ne e] at hv
     exact mono v _ (St.fresh_fr hf hv) (hi2.slot s' v hv)
 · refine .inr ⟨E.ρ K,es.length,cap,arr.toArray,by simp,ha,by omega,hcm,by simpa using hcapl,?_⟩
   show E2.φ (E.ρ K)≤_
   rw[hφ];exact Nat.le_refl _
 · simp only[if_true,Value.ownBlock,Option.some.injEq] at hg'
   simp only[if_neg hj] at hg
   rw[hη2] at hg
   exact hi.heap.bt K j _ t' hb hbn hl (by rw[hg,hg'])
 · obtain⟨hne1,h2⟩:=hmap i b1 hb1 hn1
   have hiN:i≠N:=(St.fresh_bx hf h2).1
   simp only[if_true,Value.ownBlock,Option.some.injEq,if_neg hiN] at hg'
   rw[hρ] at hg'
   exact hne1 (hi.heap.bb i K b1 _ h2 hb hn1 hbn hg'.symm)
 · simp only[if_true,Value.ownBlock,Option.some.injEq] at hg
   rw[←hg];exact hown
end Go.Abs
namespace Go.Abs
open Go.RowKit (Below)
set_option linter.unusedVariables false
section
variable {P:Program}{c:Ctx}{fr:List (Nat×AV)}{bx:List (Nat×Box)}{tk:List (Nat×Tok)}{ops:Array Oper}{Q:Exit→Act→World→Prop}{rest:List Oper}
 {d:Nat} {ty:TypeId} {pos:String} {aft:Array Edge} {st:St}
theorem LW.mk(h:L c st (wpList P ops Q rest)):LW P c st ops Q rest:=by unfold LW;exact h
theorem VV.mk{o:Oper}{v:AV}{tb:List Nat}(h: ∀st':St,(∀x∈o.op.operands,st'.ev x=st.ev x)→(∀id∈tb,st'.bx.lookup id=st.bx.lookup id)→Yields P c st' o v):VV P c st o v tb:=by unfold VV;exact h
theorem LM.rebaseG{gs:Globs}{b:Nat}{l:List (Int×Int)}{X:Act→World→Prop}(hG:Glob gs c.E0 c.w0)(htk:st.tk= [])(hlive:st.bx.all (fun p=> !p.2.cs.isEmpty)=true)
 (h: ∀c':Ctx,c'.ins=keys st.bx→Link c c'→MapIn c' b l→Glob gs c'.E0 c'.w0→L c' st X):LM c b l st X:=by
 rintro a w E hi hb hφ ⟨es,clk,hh,he⟩
 have hne: ∀(id:Nat) (bb:Box),st.bx.lookup id=some bb→bb.cs≠ []:=fun id bb hl=>by
  have:=List.all_eq_true.1 hlive _ (lookup_mem hl)
  simpa using this
 refine h ⟨c.nt,w,E,keys st.bx⟩ rfl ⟨rfl,fun id hid=> ?_,fun id hid=> ?_,fun b' hb'=>hi.heap.old b' hb',hi.heap.kept⟩ ⟨⟨es,clk,hh,he⟩,?_⟩ (hG.keep hi) a w ⟨E,hi.defers,hi.size,hi.slot,?_⟩
 · obtain⟨bb,hl⟩:=mem_keys hid
   exact hi.heap.own id bb hl (hne id bb hl)
 · obtain⟨e1,e2,e3⟩:=hi.heap.ins id hid
   obtain⟨bb,hl⟩:=Option.isSome_iff_exists.1 e3
   exact⟨keys_mem hl,e1,e2⟩
 · rintro ⟨id,hid,e,_⟩
   obtain⟨bb,hl⟩:=mem_keys hid
   obtain⟨_,arr,ha,_⟩:=hi.heap.box id bb hl (hne id bb hl)
   dsimp only at e
   rw[e,hh] at ha;cases ha
 · refine⟨hi.heap.box,hi.heap.tok,hi.heap.bb,hi.heap.tt,hi.heap.bt,fun i bb hl hn=> .inr ⟨i,keys_mem hl,rfl,(hi.heap.box i bb hl hn).1⟩,fun j t g hj=>by rw[htk] at hj;simp at hj,hi.heap.new,fun _ _=>rfl,fun id hid=> ?_,KeptBut.refl _ _⟩
   obtain⟨bb,hl⟩:=mem_keys hid
   exact⟨rfl,rfl,by rw[hl];rfl⟩
theorem v_lookM{t:TypeId}{b:Nat}{l:List (Int×Int)}{x y:Operand}{k:Int}{v:AV}(ht:MapTy P t)(hm:MapIn c b l)(hx:St.ev ⟨fr,bx,tk⟩ x= .iv (.im (.map (some b))))(hy:St.ev ⟨fr,bx,tk⟩ y=aI k)(hv: .tup [aI ((Abs.lookM l k).getD 0),aB (Abs.lookM l k).isSome] =v):
 VV P c ⟨fr,bx,tk⟩ ⟨some d,.lookup t x y true,ty,pos,aft,none⟩ v []:=
 .mk fun st' kE kL=>hv▸ .lookM rfl ht hm ((kE x (by simp[Op.operands,Call.operands])).trans hx) ((kE y (by simp[Op.operands,Call.operands])).trans hy)
theorem Sub.bslE(id off:Nat):Sub (.bsl id off 0 0) .emp:=fun _ _ _ h=>by
 obtain⟨o,hu,_⟩:=h.bsl_inv
 exact .emp hu
theorem v_appE0{t t' e e':TypeId}{k k':Nat}{x y:Operand}{v:AV}[hs:SliceTy P t e k][hs':SliceTy P t' e' k'](hx:St.ev ⟨fr,bx,tk⟩ x=v)(hv:Sub v .emp)(hy:(St.ev ⟨fr,bx,tk⟩ y).sl?=some []):
 VV P c ⟨fr,bx,tk⟩ ⟨some d,.call {callee:= .builtin .append,args:= #[x,y],argTypes:= #[t,t']},ty,pos,aft,none⟩ .emp []:= .mk fun st' kE kL E a w hi=>by
 obtain⟨hu,inf,hinf,hsz⟩:=sliceOk_run hs.h
 obtain⟨hu',_⟩:=sliceOk_run hs'.h
 have h0:=hi.ev x
 rw[(kE x (by simp[Op.operands,Call.operands])).trans hx] at h0
 have h0:=hv _ _ _ h0
 have h2:RepI E.φ w (.sl []) (a.eval y):=(hi.ev y).sl ((congrArg AV.sl? (kE y (by simp[Op.operands,Call.operands]))).trans hy)
 have hy2:(Builtin.lenOf (a.eval y)).run P w= .ok 0 w∧(Builtin.firstCells inf.size 0 (a.eval y)).run P w= .ok #[] w:=by
  generalize a.eval y=uy at h2
  rcases h2.sl_inv with⟨hq,_⟩|⟨ad,cap,hq,_,_,_⟩|⟨b,o',cap,k',f,hq,hc,_⟩
  · rw[hq];exact⟨rfl,by simp[Builtin.firstCells]⟩
  · rw[hq];exact⟨rfl,by simp[Builtin.firstCells,loadCells,loadCellsFrom]⟩
  · rw[hq];exact⟨rfl,by simp[Builtin.firstCells,loadCells,loadCellsFrom]⟩
 have hap:(Builtin.append_ #[t,t'] ty #[a.eval x,a.eval y]).run P w= .ok (a.eval x) w:=by
  generalize a.eval x=ux at h0
  cases h0 with
  | @emp ad _ hq=>subst hq;cases ad<;>simp[Builtin.append_,run_underlying hu,run_underlying hu',sizeOf,typeInfo,hinf,hy2.1,hy2.2,storeCells]
 exact⟨a.eval x,by simp[execOp,resolve,invoke,builtin,hap],h0⟩
theorem CallA.pubRow{f:FuncId}{zas:List AV}{N:Nat}{t:Tok}{es:List (List IV)}(h:CallA P f zas [] [] [(N,t)] (.row N es)):CallA P f zas [] [] [] (.iv (.sl es)):=fun E w us hr hh=>
 (h E w us hr hh).mono (fun e w' ⟨u,E',he,hrep,hinv⟩=>⟨u,E',he,Sub.row _ _ _ _ _ hrep,hinv.wk (st:=⟨[],[],[(N,t)]⟩) (st':=⟨[],[],[]⟩) (Wk.mk' (by intro id h;simp[keys] at h) .nil .nil .nil)⟩)
theorem s_callRowN{f:FuncId}{args:Array Operand}{ats:Array TypeId}{zas:List AV}{t:Tok}{es:List (List IV)}(hlt:Nat.ble (d+1) c.nt=true)[hok:CallTy P f](hc:CallA P f zas [] [] [(d,t)] (.row d es))(ha:args.toList.map (St.ev ⟨fr,bx,tk⟩)=zas)
 (hf:St.fresh d ⟨fr,bx,tk⟩=true) (h:LW P c ⟨(d,.row d es)::fr,bx,(d,t)::tk⟩ ops Q rest):
 LW P c ⟨fr,bx,tk⟩ ops Q (⟨some d,.call {callee:= .value (.func f),args:=args,argTypes:=ats},ty,pos,aft,none⟩::rest):=
 .mk (L.callN (st:=⟨fr,bx,tk⟩) [d] rfl rfl hlt rfl hok.h hc (ha▸Subs.refl _) .nil (by simp[hf]) rfl (by simp[keys]) rfl (by simp[AV.mentIn]) h.out)
theorem s_call0N{f:FuncId}{args:Array Operand}{ats:Array TypeId}{zas:List AV}{res:AV}(hlt:Nat.ble (d+1) c.nt=true)[hok:CallTy P f](hc:CallA P f zas [] [] [] res)(ha:args.toList.map (St.ev ⟨fr,bx,tk⟩)=zas)
 (hmr:AV.mentIn [] res=true) (h:LW P c ⟨(d,res)::fr,bx,tk⟩ ops Q rest):
 LW P c ⟨fr,bx,tk⟩ ops Q (⟨some d,.call {callee:= .value (.func f),args:=args,argTypes:=ats},ty,pos,aft,none⟩::rest):=
 .mk (L.call0 (st:=⟨fr,bx,tk⟩) rfl rfl hlt rfl hok.h hc (ha▸Subs.refl _) hmr h.out)
theorem L.rowS0(K N s s2:Nat){X:Act→World→Prop}{k m m':Nat}{ty:TypeId}(hin:c.ins= [])(hb:st.bx.lookup K=some ⟨ty,.r [] m⟩)(hm0:0<m)
 (hs:st.fr.lookup s=some (.bsh K 0 0 k)) (hs2:st.fr.lookup s2=some (.bsh K 0 m' k)) (hm':0<m') (hf:st.fresh N=true) (h:L c ⟨(s,.row N [])::st.fr,(K,⟨ty,.l []⟩)::st.bx,(N,⟨ty,k⟩)::st.tk⟩ X):L c st X:=by
 rintro a w ⟨E,hi⟩
 have hbn:(⟨ty,.r [] m⟩:Box).cs≠ []:=fun e=>by
  simp only[Box.cs_r,List.map_nil,List.nil_append] at e
  have:=congrArg List.length e;simp at this;omega
 obtain⟨h0,arr,ha,hla,h1,hr,hη⟩:=hi.heap.box K _ hb hbn
 have hslot:=hi.slot s _ hs
 obtain⟨cap,o,hu,hnc,hcm,heta,hoo⟩:=hslot.bsh_inv
 have hkill:HInv c E ((K,⟨ty,.l []⟩)::st.bx) st.tk w:=hi.heap.reBox hb hbn (fun h=>absurd rfl h)
 have hNK:K≠N:=(St.fresh_bx hf hb).1
 have hfr2:St.fresh N ⟨st.fr,(K,⟨ty,.l []⟩)::st.bx,st.tk⟩=true:=by
  simp only[St.fresh,List.all_cons,Bool.and_eq_true] at hf⊢
  exact⟨⟨hf.1.1,by simpa[Box.ment,AV.ments] using hNK,hf.1.2⟩,hf.2⟩
 have hcapl:cap*k≤arr.length:=hη k cap heta
 have hown:c.w0.heap.size≤E.ρ K:=by
  rcases hi.heap.own K _ hb hbn with h|⟨id,hid,_⟩
  · exact h
  · rw[hin] at hid;cases hid
 have hmap: ∀(i:Nat) (b1:Box),List.lookup i ((K,(⟨ty,.l []⟩:Box))::st.bx)=some b1→b1.cs≠ [] →i≠K∧st.bx.lookup i=some b1:=fun i b1 h hn=>by
  by_cases e:i=K
  · subst e;rw[lookup_cons_eq] at h;cases h;exact(hn rfl).elim
  · rw[lookup_cons_ne e] at h;exact⟨e,h⟩
 obtain⟨cap2,o2,_,hnc2,_,heta2,_⟩:=(hi.slot s2 _ hs2).bsh_inv
 have hcc:=(capV_inj (heta.symm.trans heta2)).2
 have ho0:o=0:=by rw[hoo (by omega)];simp
 subst ho0
 obtain⟨ht,mono⟩:=HInv.turn (st:=⟨st.fr,(K,⟨ty,.l []⟩)::st.bx,st.tk⟩) hkill hfr2 0 (.slice (some ⟨E.ρ K,0,none⟩) 0 cap)
 refine h a w ⟨_,hi.defers,hi.size,fun s' v hv=> ?_,ht.addTok (id:=N) (t:=⟨ty,k⟩) ?_ (fun j t' g hj hl hg hg'=> ?_) (fun i b1 hb1 hn1 hg'=> ?_) (fun g hg=> ?_)⟩
 · by_cases e:s'=s
   · subst e
     simp only[lookup_cons_eq,Option.some.injEq] at hv
     subst hv
     exact .row (by simp[hu]) (by rw[hu];exact .emp (fun e=>by cases e) (by omega))
   · simp only[lookup_cons_ne e] at hv
     exact mono v _ (St.fresh_fr hf hv) (hi.slot s' v hv)
 · refine .inr ⟨E.ρ K,0,cap,arr.toArray,by simp,ha,by omega,by omega,by simpa using hcapl,?_⟩
   show E.φ (E.ρ K)≤_
   rw[h0];exact Nat.zero_le _
 · simp only[if_true,Value.ownBlock,Option.some.injEq] at hg'
   simp only[if_neg hj] at hg
   exact hi.heap.bt K j _ t' hb hbn hl (by rw[hg,hg'])
 · obtain⟨hne1,h2⟩:=hmap i b1 hb1 hn1
   have hiN:i≠N:=(St.fresh_bx hf h2).1
   simp only[if_true,Value.ownBlock,Option.some.injEq,if_neg hiN] at hg'
   exact hne1 (hi.heap.bb i K b1 _ h2 hb hn1 hbn hg'.symm)
 · simp only[if_true,Value.ownBlock,Option.some.injEq] at hg
   rw[←hg];exact hown
end
end Go.Abs
namespace Go.Abs
open Go.RowKit (Below)
set_option linter.unusedVariables false
set_option linter.unusedSectionVars false
theorem nodup_mid{α:Type}{a:α}{l m:List α}(h:(l++a::m).Nodup):a∉l++m∧(l++m).Nodup:=by
 rw[List.nodup_append] at h
 obtain⟨h1,h2,h3⟩:=h
 rw[List.nodup_cons] at h2
 refine⟨fun hm=> ?_,List.nodup_append.2 ⟨h1,h2.2,fun x hx y hy=>h3 x hx y (by simp[hy])⟩⟩
 rcases List.mem_append.1 hm with h|h
 · exact h3 a h a (by simp) rfl
 · exact h2.1 h
structure Rw where
 t:TypeId
 b:Nat
 n:Nat
 cap:Nat
 k:Nat
 xs:List IV
def Rw.u(r:Rw):Value:= .slice (some ⟨r.b,0,none⟩) r.n r.cap
structure RwOk (φ:Nat→Nat) (w:World) (r:Rw):Prop where
 z:φ r.b=0
 nc:r.n≤r.cap
 cm:r.cap≤maxLen
 len:r.xs.length=r.n*r.k
 at_: ∃arr:List Value,w.heap[r.b]?=some (.cells arr.toArray r.t (0,0))∧r.cap*r.k≤arr.length∧(∀u∈arr,u.oneCell'=true)∧ ∀(i:Nat) (x:IV) (u:Value),r.xs[i]?=some x→arr[i]?=some u→RepI φ w x u
theorem RwOk.keep{φ φ':Nat→Nat}{w w':World}{r:Rw}(h:RwOk φ w r)(hz:φ' r.b=0)(hb:w'.heap[r.b]?=w.heap[r.b]?)(hk:Keeps φ w w')(hm: ∀b,φ b≤φ' b):RwOk φ' w' r where
 z:=hz
 nc:=h.nc
 cm:=h.cm
 len:=h.len
 at_:=by
  obtain⟨arr,h1,h2,h3,h4⟩:=h.at_
  exact⟨arr,by rw[hb];exact h1,h2,h3,fun i x u hx hu=>(h4 i x u hx hu).mono hk hm⟩
theorem RwOk.lt{φ:Nat→Nat}{w:World}{r:Rw}(h:RwOk φ w r):r.b<w.heap.size:=by
 obtain⟨arr,h1,_⟩:=h.at_
 exact(Array.getElem?_eq_some_iff.1 h1).1
structure FOk (c:Ctx) (E:Env) (bx:List (Nat×Box)) (w:World) (F:List Rw):Prop where
 ok: ∀r∈F,RwOk E.φ w r
 own: ∀r∈F,c.w0.heap.size≤r.b
 bx: ∀r∈F,∀(id:Nat) (b:Box),bx.lookup id=some b→b.cs≠ [] →E.ρ id≠r.b
 nd:(F.map Rw.b).Nodup
def LF(c:Ctx)(F:List Rw)(st:St)(X:Act→World→Prop):Prop:= ∀(a:Act) (w:World) (E:Env),Inv c E st a w→FOk c E st.bx w F→X a w
section
variable {c:Ctx}{F:List Rw}{st:St}{X:Act→World→Prop}
theorem LF.drop(h:L c st X):LF c F st X:=fun a w E hi _=>h a w ⟨E,hi⟩
theorem LF.start(h:LF c [] st X):L c st X:=by
 rintro a w ⟨E,hi⟩
 exact h a w E hi ⟨by simp,by simp,by simp,by simp⟩
theorem LF.wk{st':St}(hw:Wk c st st')(h:LF c F st' X):LF c F st X:=fun a w E hi hF=>by
 refine h a w E ⟨hi.defers,hi.size,fun s v hv=> ?_,hi.heap.wk hw⟩ ⟨hF.ok,hF.own,fun r hr id b hl hn=> ?_,hF.nd⟩
 · obtain⟨v0,h0,hs⟩:=hw.fr s v hv
   exact hs E w _ (hi.slot s v0 h0)
 · obtain⟨b0,h0,_,hs⟩:=hw.bx id b hl
   exact hF.bx r hr id b0 h0 (hs.ne hn)
structure FIn (c:Ctx) (F:List Rw):Prop where
 ok: ∀r∈F,RwOk c.E0.φ c.w0 r
 nm: ∀r∈F,¬c.M r.b
 new: ∀b,c.w0.heap.size≤b→c.E0.φ b=0
 nd:(F.map Rw.b).Nodup
theorem LF.rebase(htk:st.tk= [])(hlive:st.bx.all (fun p=> !p.2.cs.isEmpty)=true)
 (h: ∀c':Ctx,c'.ins=keys st.bx→Link c c'→FIn c' F→(∀r∈F,c.w0.heap.size≤r.b)→L c' st X):LF c F st X:=by
 rintro a w E hi hF
 have hne: ∀(id:Nat) (bb:Box),st.bx.lookup id=some bb→bb.cs≠ []:=fun id bb hl=>by
  have:=List.all_eq_true.1 hlive _ (lookup_mem hl)
  simpa using this
 refine h ⟨c.nt,w,E,keys st.bx⟩ rfl ⟨rfl,fun id hid=> ?_,fun id hid=> ?_,fun b' hb'=>hi.heap.old b' hb',hi.heap.kept⟩ ⟨hF.ok,fun r hr=> ?_,hi.heap.new,hF.nd⟩ hF.own a w ⟨E,hi.defers,hi.size,hi.slot,?_⟩
 · obtain⟨bb,hl⟩:=mem_keys hid
   exact hi.heap.own id bb hl (hne id bb hl)
 · obtain⟨e1,e2,e3⟩:=hi.heap.ins id hid
   obtain⟨bb,hl⟩:=Option.isSome_iff_exists.1 e3
   exact⟨keys_mem hl,e1,e2⟩
 · rintro ⟨id,hid,e,_⟩
   obtain⟨bb,hl⟩:=mem_keys hid
   exact hF.bx r hr id bb hl (hne id bb hl) e
 · refine⟨hi.heap.box,hi.heap.tok,hi.heap.bb,hi.heap.tt,hi.heap.bt,fun i bb hl hn=> .inr ⟨i,keys_mem hl,rfl,(hi.heap.box i bb hl hn).1⟩,fun j t g hj=>by rw[htk] at hj;simp at hj,hi.heap.new,fun _ _=>rfl,fun id hid=> ?_,KeptBut.refl _ _⟩
   obtain⟨bb,hl⟩:=mem_keys hid
   exact⟨rfl,rfl,by rw[hl];rfl⟩
theorem Inv.back{c':Ctx}{E:Env}{a:Act}{w:World}(hk:Link c c')(hi:Inv c' E st a w):Inv c E st a w:=by
 refine⟨hi.defers,hi.size.trans hk.nt,hi.slot,hi.heap.box,hi.heap.tok,hi.heap.bb,hi.heap.tt,hi.heap.bt,fun i b hl hn=> ?_,fun j t g hj hg=>Nat.le_trans hk.kept.size (hi.heap.ownt j t g hj hg),hi.heap.new,fun b hb=> ?_,fun id hid=> ?_,?_⟩
 · rcases hi.heap.own i b hl hn with h1|⟨id,hid,e,_⟩
   · exact .inl (Nat.le_trans hk.kept.size h1)
   · rw[←e];exact hk.own id hid
 · rw[hi.heap.old b (Nat.lt_of_lt_of_le hb hk.kept.size),hk.old b hb]
 · obtain⟨k1,k2,k3⟩:=hk.ins id hid
   obtain⟨e1,e2,e3⟩:=hi.heap.ins id k1
   exact⟨e1.trans k2,e2.trans k3,e3⟩
 · refine hk.kept.next hi.heap.kept.os hi.heap.kept.tape hi.heap.kept.output hi.heap.kept.size (fun k hk' hm=>hi.heap.kept.block k (Nat.lt_of_lt_of_le hk' hk.kept.size) (fun hM=> ?_)) (fun h=>False.elim h)
   obtain⟨id,hid,e,_⟩:=hM
   rcases hk.own id hid with h1|h1
   · rw[e] at h1;omega
   · rw[e] at h1;exact hm h1
theorem FIn.now{c':Ctx}{E:Env}{a:Act}{w:World}(hF:FIn c' F)(hk:Link c c')(ho: ∀r∈F,c.w0.heap.size≤r.b)(hi:Inv c' E st a w):FOk c E st.bx w F:=by
 have lt: ∀b o,o<c'.E0.φ b→b<c'.w0.heap.size:=fun b o hb=>Nat.lt_of_not_le (fun hle=>by rw[hF.new b hle] at hb;omega)
 have hkp:Keeps c'.E0.φ c'.w0 w:=fun b o hb=>World.cell?_of_block (w:=c'.w0) (hi.heap.kept.block b (lt b o hb) (fun⟨id,hid,hg,h0⟩=>by omega))
 have hφ: ∀b,c'.E0.φ b≤E.φ b:=fun b=>by
  by_cases hb:b<c'.w0.heap.size
  · rw[hi.heap.old b hb];exact Nat.le_refl _
  · rw[hF.new b (by omega)];exact Nat.zero_le _
 refine⟨fun r hr=> ?_,ho,fun r hr id b hl hn e=> ?_,hF.nd⟩
 · have h:=hF.ok r hr
   exact h.keep (by rw[hi.heap.old _ h.lt];exact h.z) (hi.heap.kept.block _ h.lt (hF.nm r hr)) hkp hφ
 · rcases hi.heap.own id b hl hn with h1|h1
   · have:=(hF.ok r hr).lt;rw[e] at h1;omega
   · rw[e] at h1;exact hF.nm r hr h1
theorem LF.back{c':Ctx}(hk:Link c c')(hF:FIn c' F)(ho: ∀r∈F,c.w0.heap.size≤r.b)(h:LF c F st X):L c' st X:=by
 rintro a w ⟨E,hi⟩
 exact h a w E (hi.back hk) (hF.now hk ho hi)
theorem LF.loop{P:Program}{Q:Exit→Act→World→Prop}{ι:Type}(inv:ι→St)(Fi:ι→List Rw)(n:ι→Nat)(I:ι→Prop){i0:ι}(h0:Wk c st (inv i0))(hF0:Fi i0=F)(p0:I i0){x:Code}
 (h: ∀i,I i→ ∀K:Act→World→Prop,(∀st' i',I i'→n i'<n i→Wk c st' (inv i')→LF c (Fi i') st' K)→LF c (Fi i) (inv i) (x.wp P (Exit.then K Q))):LF c F st ((Code.loop x).wp P Q):=by
 have key: ∀(m:Nat) (i:ι),n i=m→I i→ ∀a w E,Inv c E (inv i) a w→FOk c E (inv i).bx w (Fi i)→ ∀(b:Frame) (k:List Item) (cs:List Frame),
  ∃e a' w',Q e a' w'∧Arrives P (lone (b.at a (.code x:: .inLoop x::k)) cs w) b k cs e a' w':=by
  intro m
  induction m using Nat.strongRecOn with
  |_ m ih=>
   intro i hn hi0 a w E hi hF b k cs
   obtain⟨e,a₁,w₁,hq,harr⟩:=h i hi0 (fun a' w'=> ∃i' E',I i'∧n i'<n i∧Inv c E' (inv i') a' w'∧FOk c E' (inv i').bx w' (Fi i')) (fun st' i' hI hlt hw=>LF.wk hw (fun a' w' E' hi' hF'=>⟨i',E',hI,hlt,hi',hF'⟩)) a w E hi hF b (.inLoop x::k) cs
   cases e with
   |normal=>
    obtain⟨i',E',hI,hlt,hi',hF'⟩:=hq
    obtain⟨e₂,a₂,w₂,hq₂,harr₂⟩:=ih (n i') (hn▸hlt) i' rfl hI a₁ w₁ E' hi' hF' b k cs
    exact⟨e₂,a₂,w₂,hq₂,.of_steps (Steps.trans harr (.one step_inLoop)) harr₂⟩
   |exit id=>exact⟨_,a₁,w₁,hq,.pass (x:= .inLoop x) rfl (fun _ _=> .inl (by simp)) harr⟩
   |goto l=>exact⟨_,a₁,w₁,hq,.pass (x:= .inLoop x) rfl (fun _ _=> .inl (by simp)) harr⟩
   |ret=>exact⟨_,a₁,w₁,hq,.pass (x:= .inLoop x) rfl (fun _ _=> .inl (by simp)) harr⟩
   |panic ch=>exact⟨_,a₁,w₁,hq,.pass (x:= .inLoop x) rfl (fun _ _=> .inl (by simp)) harr⟩
   |outgrown=>exact⟨_,a₁,w₁,hq,.pass (x:= .inLoop x) rfl (fun _ _=> .inl (by simp)) harr⟩
 subst hF0
 refine LF.wk h0 (fun a w E hi hF b k cs=> ?_)
 obtain⟨e,a',w',hq,harr⟩:=key _ i0 rfl p0 a w E hi hF b k cs
 exact⟨e,a',w',hq,.of_steps (.one step_loop) harr⟩
end
end Go.Abs
