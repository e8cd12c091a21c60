/- Several texts in one, each with its own sentence ahead of it. Conditions: each one says its own. -/
import Derived.Test.YthcjohcakdnmmaaGreatDoorZS1
set_option linter.all false
namespace Go.Abs
variable [Dr]
set_option linter.unusedSectionVars false
open Go.RowKit (Below)
set_option linter.unusedVariables false
def RelL(E:Env)(w:World)(cs:List AV)(us:List Value):Prop:=
 us.length=cs.length∧ ∀(i:Nat) (c:AV) (u:Value),cs[i]?=some c→us[i]?=some u→RepA E w c u
theorem RelL.nil(E:Env)(w:World):RelL E w [] []:=⟨rfl,fun i c u h=>by simp at h⟩
theorem RelL.append{E:Env}{w:World}{a b:List AV}{x y:List Value}(h:RelL E w a x)(k:RelL E w b y):RelL E w (a++b) (x++y):=by
 refine⟨by simp[h.1,k.1],fun i c u hc hu=> ?_⟩
 by_cases hi:i<a.length
 · rw[List.getElem?_append_left hi] at hc
   rw[List.getElem?_append_left (by rw[h.1];exact hi)] at hu
   exact h.2 i c u hc hu
 · rw[List.getElem?_append_right (by omega)] at hc
   rw[List.getElem?_append_right (by rw[h.1];omega),h.1] at hu
   exact k.2 _ c u hc hu
theorem RelL.take{E:Env}{w:World}{a:List AV}{x:List Value}(h:RelL E w a x)(n:Nat):RelL E w (a.take n) (x.take n):=by
 refine⟨by simp[h.1],fun i c u hc hu=> ?_⟩
 rw[List.getElem?_take] at hc hu
 split at hc
 · rename_i hi;rw[if_pos hi] at hu;exact h.2 i c u hc hu
 · cases hc
theorem RelL.drop{E:Env}{w:World}{a:List AV}{x:List Value}(h:RelL E w a x)(n:Nat):RelL E w (a.drop n) (x.drop n):=by
 refine⟨by simp[h.1],fun i c u hc hu=> ?_⟩
 rw[List.getElem?_drop] at hc hu
 exact h.2 _ c u hc hu
theorem RelL.mono{E E':Env}{w w':World}(hk:Keeps E.φ w w')(hφ: ∀b,E.φ b≤E'.φ b){a:List AV}{x:List Value}
 (hm: ∀id,AV.ments id a=true→E'.ρ id=E.ρ id∧E'.η id=E.η id) (h:RelL E w a x):RelL E' w' a x:=
 ⟨h.1,fun i c u hc hu=>(h.2 i c u hc hu).mono hk hφ (fun id hid=>hm id (by
   cases hq:AV.ments id a with
   |true=>rfl
   |false=>rw[AV.ments_false hq i c hc] at hid;cases hid))⟩
theorem RelL.keep{E:Env}{w w':World}(hk:Keeps E.φ w w'){a:List AV}{x:List Value}(h:RelL E w a x):RelL E w' a x:=
 ⟨h.1,fun i c u hc hu=>(h.2 i c u hc hu).keep hk⟩
theorem RelL.consts(E:Env)(w:World): ∀(us:List Value),us.all (·.oneCell')=true→RelL E w (us.map constCell) us
 |us,h=>⟨by simp,fun i c u hc hu=>by
    simp only[List.getElem?_map] at hc
    rw[hu] at hc
    simp at hc;subst hc
    exact constCell_rep E w u (List.all_eq_true.1 h u (List.mem_of_getElem? hu))⟩
theorem RelL.agg{E:Env}{w:World}{cs:List AV}{us:List Value}(h:RelL E w cs us)(h1: ∀u∈us,u.oneCell'=true):RepA E w (.agg cs) (.agg us.toArray):= .agg h.1 h1 h.2
theorem RepA.agg_inv{E:Env}{w:World}{cs:List AV}{u:Value}(h:RepA E w (.agg cs) u): ∃us:List Value,u= .agg us.toArray∧RelL E w cs us∧ ∀u∈us,u.oneCell'=true:=by
 cases h with
 |agg hl h1 h=>exact⟨_,rfl,⟨hl,h⟩,h1⟩
theorem RepA.tup_inv{E:Env}{w:World}{cs:List AV}{u:Value}(h:RepA E w (.tup cs) u): ∃us:List Value,u= .tuple us.toArray∧RelL E w cs us:=by
 cases h with
 |tup hl h=>exact⟨_,rfl,⟨hl,h⟩⟩
def AV.lays:AV→Bool
 | .agg _=>true
 |v=>v.one
theorem RepA.lay{E:Env}{w:World}{v:AV}{u:Value}(h:RepA E w v u)(h1:v.lays=true):RelL E w v.cells u.cells.toList∧ ∀x∈u.cells.toList,x.oneCell'=true:=by
 have:=h.cells (by cases v<;>first|exact .inl h1|exact .inr ⟨_,rfl⟩)
 exact⟨⟨this.1,this.2.2⟩,this.2.1⟩
theorem Addr.add_none(b o n:Nat):(⟨b,o,none⟩:Addr).add n=⟨b,o+n,none⟩:=by unfold Addr.add;split<;>simp_all
def fieldOk(P:Program)(s:TypeId)(f fo:Nat):Bool:=
 match P.underlying s with
 |some (.struct fs)=>match fs[f]? with
  |some fd=>fd.offset==fo && (match P.info? fd.type with|some i=>i.size !=0|none=>false)
  |none=>false
 |_=>false
def varOk(P:Program)(t:TypeId)(agg:Bool)(k:Nat):Bool:=
 match P.underlying t,P.info? t with
 |some d,some i=>(match d with| .struct _| .array _ _=>true|_=>false)==agg && i.size==k
 |_,_=>false
def sliceOk(P:Program)(t e:TypeId)(k:Nat):Bool:=
 (match P.underlying t with|some (.slice e')=>e'==e|_=>false) && (match P.info? e with|some i=>i.size==k|none=>false)
theorem run_fieldAt{P:Program}{s:TypeId}{f fo:Nat}(h:fieldOk P s f fo=true)(b o:Nat)(w:World):
 (Instr.fieldAt s (.pointer (some ⟨b,o,none⟩)) f).run P w= .ok (.pointer (some ⟨b,o+fo,none⟩)) w:=by
 unfold fieldOk at h
 split at h
 · rename_i fs hu
   split at h
   · rename_i fd hf
     simp only[Bool.and_eq_true,beq_iff_eq] at h
     obtain⟨h1,h2⟩:=h
     split at h2
     · rename_i i hi
       have h3:i.size≠0:=by simpa using h2
       simp[Instr.fieldAt,run_underlying hu,hf,Instr.sureAddr,fieldPlace,sizeOf,typeInfo,hi,h3,h1,Addr.add_none]
     · cases h2
   · cases h
 · cases h
theorem varOk_agg{P:Program}{t:TypeId}{agg:Bool}{k:Nat}(h:varOk P t agg k=true)(w:World):
 (isAgg t).run P w= .ok agg w∧(sizeOf t).run P w= .ok k w:=by
 unfold varOk at h
 split at h
 · rename_i d i hu hi
   simp only[Bool.and_eq_true,beq_iff_eq] at h
   refine⟨?_,by simp[sizeOf,typeInfo,hi,h.2]⟩
   unfold isAgg
   rw[Sem.run_bind,run_underlying hu w]
   cases d<;>simp_all
 · cases h
theorem sliceOk_run{P:Program}{t e:TypeId}{k:Nat}(h:sliceOk P t e k=true):P.underlying t=some (.slice e)∧ ∃i,P.info? e=some i∧i.size=k:=by
 unfold sliceOk at h
 simp only[Bool.and_eq_true] at h
 obtain⟨h1,h2⟩:=h
 split at h1
 · rename_i e' hu
   simp only[beq_iff_eq] at h1;subst h1
   split at h2
   · rename_i i hi;exact⟨hu,i,hi,by simpa using h2⟩
   · cases h2
 · cases h1
section
variable {P:Program}{c:Ctx}{st:St}{ops:Array Oper}{Q:Exit→Act→World→Prop}{rest:List Oper}{o:Oper}
theorem Inv.ptr{E:Env}{a:Act}{w:World}(hi:Inv c E st a w){x:Operand}{id off:Nat}(hx:st.ev x= .ptr id off):a.eval x= .pointer (some ⟨E.ρ id,off,none⟩):=by
 have h:=hi.ev x;rw[hx] at h;exact h.ptr_inv
theorem Yields.fieldP{s:TypeId}{x:Operand}{f fo id off:Nat}(ho:o.op= .fieldAddr s x f)(hx:st.ev x= .ptr id off)(hf:fieldOk P s f fo=true):Yields P c st o (.ptr id (off+fo)):=
 fun E a w hi=>⟨_,by simp only[execOp,ho,hi.ptr hx,run_fieldAt hf,Sem.run_bind,Result.andThen_ok,Sem.run_pure],.ptr rfl⟩
theorem Yields.fieldE{s:TypeId}{x:Operand}{f fo:Nat}{cs:List IV}(ho:o.op= .fieldAddr s x f)(hx:st.ev x= .el cs)(hf:fieldOk P s f fo=true):Yields P c st o (.el (cs.drop fo)):=
 fun E a w hi=>by
  have h:=hi.ev x;rw[hx] at h
  generalize hq:a.eval x=u at h
  cases h with
  | @el _ b o' g hc hr=>
    refine⟨.pointer (some ⟨b,o'+fo,none⟩),by simp only[execOp,ho,hq,run_fieldAt hf,Sem.run_bind,Result.andThen_ok,Sem.run_pure],.el (fun j=>g (fo+j)) (fun j x hx=> ?_) (fun j x hx=> ?_)⟩
    · have:=hc (fo+j) x (by rw[List.getElem?_drop] at hx;exact hx)
      rw[Nat.add_assoc];exact this
    · exact hr (fo+j) x (by rw[List.getElem?_drop] at hx;exact hx)
theorem RepI.sl_inv{φ:Nat→Nat}{w:World}{es:List (List IV)}{u:Value}(h:RepI φ w (.sl es) u):
 (u= .slice none 0 0∧es= [])∨(∃(ad:Addr) (cap:Nat),u= .slice (some ad) 0 cap∧ad.spot≠none∧cap≤maxLen∧es= [])∨ ∃(b o cap k:Nat) (f:Nat→Nat→Value),u= .slice (some ⟨b,o,none⟩) es.length cap∧es.length≤cap∧cap≤maxLen∧(∀(i:Nat) (e:List IV),es[i]?=some e→e.length=k)∧
   (∀(i:Nat) (e:List IV) (j:Nat) (x:IV),es[i]?=some e→e[j]?=some x→o+i*k+j<φ b∧w.cell? ⟨b,o+i*k+j,none⟩=some (f i j)∧RepI φ w x (f i j)):=by
 cases h with
 | @emp a cap hn hm=>cases a with
   |none=>obtain rfl:=hn rfl;exact .inl ⟨rfl,rfl⟩
   |some ad=>
    by_cases hs:ad.spot=none
    · obtain⟨b,o,spot⟩:=ad
      simp only at hs;subst hs
      exact .inr (.inr ⟨b,o,cap,0,fun _ _=>undef,rfl,Nat.zero_le _,hm,fun i e h=>by simp at h,fun i e j x h=>by simp at h⟩)
    · exact .inr (.inl ⟨ad,cap,rfl,hs,hm,rfl⟩)
 |sl f hc hm hk hφ hcell hrep=>exact .inr<| .inr ⟨_,_,_,_,f,rfl,hc,hm,hk,fun i e j x h1 h2=>⟨hφ i e j x h1 h2,hcell i e j x h1 h2,hrep i e j x h1 h2⟩⟩
def AV.sl?:AV→Option (List (List IV))
 | .iv (.sl es)=>some es
 | .row _ es=>some es
 | .nils=>some []
 | .emp=>some []
 |_=>none
theorem RepA.sl{E:Env}{w:World}{v:AV}{u:Value}{es:List (List IV)}(h:RepA E w v u)(hv:v.sl?=some es):RepI E.φ w (.sl es) u:=by
 cases v<;>simp only[AV.sl?] at hv<;>try (cases hv;done)
 · rename_i x
   cases x with
   |im _=>simp at hv
   |sl _=>simp at hv;subst hv;exact h.iv_inv
 · simp at hv;subst hv;cases h;exact .nil
 · simp at hv;subst hv;cases h with|emp hu=>subst hu;exact .emp (fun _=>rfl) (Nat.zero_le _)
 · simp at hv;subst hv;cases h with|row hu h=>exact h
theorem Yields.indexAddr{t e:TypeId}{x i:Operand}{k:Nat}{kd:IntKind}{n:Int}{es:List (List IV)}{cs:List IV}(ho:o.op= .indexAddr t x i)(hs:sliceOk P t e k=true)(hx:(st.ev x).sl?=some es)
 (hn:st.ev i= .iv (.im (.int kd n))) (h0:0≤n) (hc:es[n.toNat]?=some cs) (hl:cs.length=k):Yields P c st o (.el cs):=
 fun E a w hi=>by
  obtain⟨hu,inf,hinf,hsz⟩:=sliceOk_run hs
  have hlt:=(List.getElem?_eq_some_iff.1 hc).1
  rcases((hi.ev x).sl hx).sl_inv with⟨_,rfl⟩|⟨_,_,_,_,_,rfl⟩|⟨b,o',cap,k',f,hq,_,_,hk,hcell⟩
  · simp at hlt
  · simp at hlt
  · have hk':k'=k:=by rw[←hk _ _ hc,hl]
    subst hk'
    have hb:n<(es.length:Int):=by omega
    refine⟨.pointer (some ⟨b,o'+n.toNat*k',none⟩),?_,.el (fun j=>f n.toNat j) (fun j x hx=>⟨(hcell _ _ _ _ hc hx).1,(hcell _ _ _ _ hc hx).2.1⟩) (fun j x hx=>(hcell _ _ _ _ hc hx).2.2)⟩
    simp[execOp,ho,hq,hi.im hn,Instr.indexAt,asIntOf,run_underlying hu,h0,hb,sizeOf,typeInfo,hinf,hsz,Addr.add_none]
theorem Yields.lenSl{t e:TypeId}{x:Operand}{k:Nat}{es:List (List IV)}(ho:o.op= .call {callee:= .builtin .len,args:= #[x],argTypes:= #[t]})(hs:sliceOk P t e k=true)(hx:(st.ev x).sl?=some es):
 Yields P c st o (aI es.length):=
 .im rfl fun E a w hi=>by
   obtain⟨hu,_⟩:=sliceOk_run hs
   rcases((hi.ev x).sl hx).sl_inv with⟨hq,rfl⟩|⟨_,_,hq,_,_,rfl⟩|⟨b,o',cap,k',f,hq,_⟩
   · simp[execOp,ho,resolve,invoke,builtin,hq,Builtin.len_,run_underlying hu,goInt]
   · simp[execOp,ho,resolve,invoke,builtin,hq,Builtin.len_,run_underlying hu,goInt]
   · simp[execOp,ho,resolve,invoke,builtin,hq,Builtin.len_,run_underlying hu,goInt]
theorem Inv.boxCell{E:Env}{a:Act}{w:World}(hi:Inv c E st a w){id:Nat}{b:Box}(hb:st.bx.lookup id=some b):
 ∃arr rest:List Value,(b.cs≠ [] →w.heap[E.ρ id]?=some (.cells (arr++rest).toArray b.ty (0,0)))∧RelL E w b.cs arr∧(∀u∈arr,u.oneCell'=true)∧(∀u∈rest,u.oneCell'=true)∧
  ∀j,j<arr.length→w.cell? ⟨E.ρ id,j,none⟩=arr[j]?:=by
 by_cases hn:b.cs= []
 · exact⟨[],[],fun h=>(h hn).elim,by rw[hn];exact RelL.nil E w,by simp,by simp,fun j hj=>by simp at hj⟩
 obtain⟨_,arr,ha,hl,h1,hr,_⟩:=hi.heap.box id b hb hn
 refine⟨arr.take b.cs.length,arr.drop b.cs.length,fun _=>by rw[List.take_append_drop];exact ha,⟨by rw[List.length_take];omega,fun i c u hc hu=>hr i c u hc ?_⟩,fun u hu=>h1 u (List.mem_of_mem_take hu),fun u hu=>h1 u (List.mem_of_mem_drop hu),fun j hj=> ?_⟩
 · rw[List.getElem?_take] at hu
   split at hu
   · exact hu
   · cases hu
 · rw[cell_of_row w _ j _ _ _ ha,List.getElem?_take,if_pos (by rw[List.length_take] at hj;omega)];simp
theorem Yields.load1P{t:TypeId}{x:Operand}{id off:Nat}{b:Box}{v:AV}(ho:o.op= .load t x)(ht:varOk P t false 1=true)(hx:st.ev x= .ptr id off)(hb:st.bx.lookup id=some b)(hv:b.cs[off]?=some v):Yields P c st o v:=
 fun E a w hi=>by
  obtain⟨arr,_,_,hr,_,_,hc⟩:=hi.boxCell hb
  have hlt:off<arr.length:=by rw[hr.1];exact(List.getElem?_eq_some_iff.1 hv).1
  have hcell:w.cell? ⟨E.ρ id,off,none⟩=some arr[off]:=by rw[hc off hlt];exact List.getElem?_eq_getElem hlt
  refine⟨arr[off],?_,hr.2 off v _ hv (List.getElem?_eq_getElem hlt)⟩
  simp[execOp,ho,hi.ptr hx,Instr.loadAt,Instr.sureAddr,loadVar,(varOk_agg ht w).1,hcell]
theorem Yields.loadAP{t:TypeId}{x:Operand}{id off k:Nat}{b:Box}(ho:o.op= .load t x)(ht:varOk P t true k=true)(hx:st.ev x= .ptr id off)(hb:st.bx.lookup id=some b)(hk:((b.cs.drop off).take k).length=k):
 Yields P c st o (.agg ((b.cs.drop off).take k)):=
 fun E a w hi=>by
  obtain⟨arr,_,_,hr,h1,_,hc⟩:=hi.boxCell hb
  have hr':=(hr.drop off).take k
  have hl:((arr.drop off).take k).length=k:=by rw[hr'.1,hk]
  have hrun:(loadCells ⟨E.ρ id,off,none⟩ ((arr.drop off).take k).length).run P w= .ok ((arr.drop off).take k).toArray w:=
   run_loadCells_list w _ _ (fun j v hv=>by
    rw[List.getElem?_take] at hv
    split at hv
    · rw[List.getElem?_drop] at hv
      rw[Addr.add_none,hc _ (List.getElem?_eq_some_iff.1 hv).1]
      exact hv
    · cases hv)
  rw[hl] at hrun
  refine⟨.agg ((arr.drop off).take k).toArray,?_,hr'.agg (fun u hu=>h1 u (List.mem_of_mem_drop (List.mem_of_mem_take hu)))⟩
  simp[execOp,ho,hi.ptr hx,Instr.loadAt,Instr.sureAddr,loadVar,(varOk_agg ht w).1,(varOk_agg ht w).2,hrun]
theorem Yields.load1E{t:TypeId}{x:Operand}{y:IV}{cs:List IV}(ho:o.op= .load t x)(ht:varOk P t false 1=true)(hx:st.ev x= .el cs)(hy:cs[0]?=some y):Yields P c st o (.iv y):=
 fun E a w hi=>by
  have h:=hi.ev x;rw[hx] at h
  generalize hq:a.eval x=u at h
  cases h with
  | @el _ b o' g hc hr=>
    have h0:=(hc 0 y hy).2
    simp only[Nat.add_zero] at h0
    refine⟨g 0,?_,.iv (hr 0 y hy)⟩
    simp[execOp,ho,hq,Instr.loadAt,Instr.sureAddr,loadVar,(varOk_agg ht w).1,h0]
theorem Yields.loadAE{t:TypeId}{x:Operand}{k:Nat}{cs:List IV}(ho:o.op= .load t x)(ht:varOk P t true k=true)(hx:st.ev x= .el cs)(hk:(cs.take k).length=k):Yields P c st o (.agg ((cs.take k).map .iv)):=
 fun E a w hi=>by
  have h:=hi.ev x;rw[hx] at h
  generalize hq:a.eval x=u at h
  cases h with
  | @el _ b o' g hc hr=>
    have hlen:k≤cs.length:=by rw[List.length_take] at hk;omega
    have hrun:(loadCells ⟨b,o',none⟩ k).run P w= .ok ((List.range k).map g).toArray w:=
     run_loadCells w _ k g (fun j hj=>by rw[Addr.add_none];exact(hc j cs[j] (List.getElem?_eq_getElem (by omega))).2)
    refine⟨.agg ((List.range k).map g).toArray,?_,.agg (by simp;omega) (fun u hu=> ?_) (fun i c u hc' hu=> ?_)⟩
    · simp[execOp,ho,hq,Instr.loadAt,Instr.sureAddr,loadVar,(varOk_agg ht w).1,(varOk_agg ht w).2,hrun]
    · simp only[List.mem_map,List.mem_range] at hu
      obtain⟨j,hj,rfl⟩:=hu
      exact(hr j cs[j] (List.getElem?_eq_getElem (by omega))).oneCell
    · simp only[List.getElem?_map,List.getElem?_take] at hc'
      simp only[List.getElem?_map] at hu
      split at hc'
      · rename_i hik
        rw[List.getElem?_range hik] at hu
        simp at hu;subst hu
        cases hci:cs[i]? with
        |none=>rw[hci] at hc';simp at hc'
        |some y=>rw[hci] at hc';simp at hc';subst hc';exact .iv (hr i y hci)
      · simp at hc'
theorem Yields.extract{x:Operand}{i:Nat}{vs:List AV}{v:AV}(ho:o.op= .extract x i)(hx:st.ev x= .tup vs)(hv:vs[i]?=some v):Yields P c st o v:=
 fun E a w hi=>by
  have h:=hi.ev x;rw[hx] at h
  obtain⟨us,hq,hr⟩:=h.tup_inv
  have hlt:i<us.length:=by rw[hr.1];exact(List.getElem?_eq_some_iff.1 hv).1
  exact⟨us[i],by simp[execOp,ho,hq,Instr.extract,List.getElem?_eq_getElem hlt],hr.2 i v _ hv (List.getElem?_eq_getElem hlt)⟩
theorem Yields.nilCheckP{x:Operand}{id off:Nat}(ho:o.op= .nilCheck x)(hx:st.ev x= .ptr id off):Yields P c st o (.ptr id off):=
 fun E a w hi=>⟨_,by simp[execOp,ho,hi.ptr hx],.ptr rfl⟩
theorem Yields.nilCheckE{x:Operand}{cs:List IV}(ho:o.op= .nilCheck x)(hx:st.ev x= .el cs):Yields P c st o (.el cs):=
 fun E a w hi=>by
  have h:=hi.ev x;rw[hx] at h
  generalize hq:a.eval x=u at h
  cases h with
  |el g hc hr=>exact⟨_,by simp[execOp,ho,hq],.el g hc hr⟩
end
end Go.Abs
namespace Go.Abs
variable [Dr]
set_option linter.unusedSectionVars false
open Go.RowKit (Below)
set_option linter.unusedVariables false
def St.fresh(id:Nat)(st:St):Bool:=
 st.fr.all (fun p=> !AV.ment id p.2) && st.bx.all (fun p=>p.1 !=id && !p.2.ment id) && st.tk.all (fun p=>p.1 !=id)
theorem lookup_mem{β:Type}: ∀{l:List (Nat×β)} {s:Nat} {v:β},l.lookup s=some v→(s,v)∈l
 | [],s,v,h=>by simp at h
 |(t,u)::l,s,v,h=>by
  by_cases e:s=t
  · subst e;simp[List.lookup] at h;subst h;exact List.mem_cons_self
  · have e':(s==t)=false:=by simpa using e
    exact List.mem_cons_of_mem _ (lookup_mem (by simpa[List.lookup,e'] using h))
theorem St.fresh_fr{id:Nat}{st:St}(h:st.fresh id=true){s:Nat}{v:AV}(hl:st.fr.lookup s=some v):AV.ment id v=false:=by
 simp only[St.fresh,Bool.and_eq_true,List.all_eq_true] at h
 simpa using h.1.1 _ (lookup_mem hl)
theorem St.fresh_bx{id:Nat}{st:St}(h:st.fresh id=true){s:Nat}{b:Box}(hl:st.bx.lookup s=some b):s≠id∧AV.ments id b.cs=false:=by
 simp only[St.fresh,Bool.and_eq_true,List.all_eq_true] at h
 have:=h.1.2 _ (lookup_mem hl)
 rw[Box.ment_eq] at this
 simpa using this
theorem St.fresh_tk{id:Nat}{st:St}(h:st.fresh id=true){s:Nat}{t:Tok}(hl:st.tk.lookup s=some t):s≠id:=by
 simp only[St.fresh,Bool.and_eq_true,List.all_eq_true] at h
 simpa using h.2 _ (lookup_mem hl)
def Env.upd(E:Env)(id g p:Nat)(v:Value):Env:=
 ⟨fun b=>if b=g then p else E.φ b,fun i=>if i=id then g else E.ρ i,fun i=>if i=id then v else E.η i⟩
theorem Keeps.alloc{φ:Nat→Nat}{w:World}(hn: ∀b,w.heap.size≤b→φ b=0)(ob:Obj):Keeps φ w (w.alloc ob):=fun b o ho=>by
 have hb:b<w.heap.size:=by
  rcases Nat.lt_or_ge b w.heap.size with h|h
  · exact h
  · rw[hn b h] at ho;cases ho
 exact World.cell?_alloc_lt _ _ _ hb
theorem heapOld(w:World)(ob:Obj)(i:Nat)(h:i<w.heap.size):(w.alloc ob).heap[i]?=w.heap[i]?:=by
 show(w.heap.push ob)[i]?=w.heap[i]?
 rw[Array.getElem?_push,if_neg (Nat.ne_of_lt h)]
theorem heapNew(w:World)(ob:Obj):(w.alloc ob).heap[w.heap.size]?=some ob:=by
 show(w.heap.push ob)[w.heap.size]?=some ob
 simp
theorem HInv.alloc{c:Ctx}{E:Env}{st:St}{w:World}(h:HInv c E st.bx st.tk w){id:Nat}(hf:st.fresh id=true)(ob:Obj)(p:Nat)(v:Value):
 HInv c (E.upd id w.heap.size p v) st.bx st.tk (w.alloc ob)∧(∀(x:AV) (u:Value),AV.ment id x=false→RepA E w x u→RepA (E.upd id w.heap.size p v) (w.alloc ob) x u):=by
 have hk:Keeps E.φ w (w.alloc ob):=Keeps.alloc h.new ob
 have hle: ∀b,E.φ b≤(E.upd id w.heap.size p v).φ b:=fun b=>by
  simp only[Env.upd];split
  · rename_i e;rw[h.new b (by omega)];exact Nat.zero_le _
  · exact Nat.le_refl _
 have hρ: ∀i,i≠id→(E.upd id w.heap.size p v).ρ i=E.ρ i:=fun i hi=>by simp[Env.upd,hi]
 have hη: ∀i,i≠id→(E.upd id w.heap.size p v).η i=E.η i:=fun i hi=>by simp[Env.upd,hi]
 have mono: ∀(x:AV) (u:Value),AV.ment id x=false→RepA E w x u→RepA (E.upd id w.heap.size p v) (w.alloc ob) x u:=fun x u hm hr=>
  hr.mono hk hle (fun i hi=>by
    have:i≠id:=fun e=>by subst e;rw[hm] at hi;cases hi
    exact⟨hρ i this,hη i this⟩)
 refine⟨⟨fun i b hb hn=> ?_,fun i t ht=> ?_,fun i j b b' hi hj hn hn' he=> ?_,fun i j t t' g hi hj h1 h2=> ?_,fun i j b t hi hn hj=> ?_,fun i b hi hn=> ?_,fun j t g hj hg=> ?_,fun b hb=> ?_,fun b hb=> ?_,fun i hin=> ?_,?_⟩,mono⟩
 · obtain⟨hne,hm⟩:=St.fresh_bx hf hb
   obtain⟨h0,arr,ha,hl,h1,hr,hq⟩:=h.box i b hb hn
   have hlt:E.ρ i<w.heap.size:=(Array.getElem?_eq_some_iff.1 ha).1
   rw[BoxOk,hρ i hne,hη i hne]
   refine⟨by simp only[Env.upd];rw[if_neg (by omega)];exact h0,arr,by rw[heapOld w ob _ hlt];exact ha,hl,h1,fun k x u hx hu=>mono x u ?_ (hr k x u hx hu),hq⟩
   exact AV.ments_false hm k x hx
 · have hne:=St.fresh_tk hf ht
   rcases h.tok i t ht with hn|⟨g,n,cap,cur,hv,hg,hnc,hcm,hcs,hφ⟩
   · exact .inl (by rw[hη i hne];exact hn)
   · have hlt:g<w.heap.size:=(Array.getElem?_eq_some_iff.1 hg).1
     exact .inr ⟨g,n,cap,cur,by rw[hη i hne];exact hv,by rw[heapOld w ob _ hlt];exact hg,hnc,hcm,hcs,by simp only[Env.upd];rw[if_neg (by omega)];exact hφ⟩
 · rw[hρ i (St.fresh_bx hf hi).1,hρ j (St.fresh_bx hf hj).1] at he
   exact h.bb i j b b' hi hj hn hn' he
 · rw[hη i (St.fresh_tk hf hi)] at h1
   rw[hη j (St.fresh_tk hf hj)] at h2
   exact h.tt i j t t' g hi hj h1 h2
 · rw[hρ i (St.fresh_bx hf hi).1,hη j (St.fresh_tk hf hj)]
   exact h.bt i j b t hi hn hj
 · rw[hρ i (St.fresh_bx hf hi).1];exact h.own i b hi hn
 · rw[hη j (St.fresh_tk hf hj)] at hg;exact h.ownt j t g hj hg
 · have hb':w.heap.size<b:=by simp at hb;omega
   simp only[Env.upd];rw[if_neg (by omega)];exact h.new b (by omega)
 · have:b<w.heap.size:=Nat.lt_of_lt_of_le hb h.kept.size
   simp only[Env.upd];rw[if_neg (by omega)];exact h.old b hb
 · obtain⟨e1,e2,e3⟩:=h.ins i hin
   obtain⟨b,hb⟩:=Option.isSome_iff_exists.1 e3
   have hne:=(St.fresh_bx hf hb).1
   exact⟨(hρ i hne).trans e1,(hη i hne).trans e2,e3⟩
 · refine h.kept.next rfl rfl rfl (by simp) (fun k hk _=> ?_)
   exact heapOld w ob k (Nat.lt_of_lt_of_le hk h.kept.size)
theorem lookup_cons_ne{β:Type}{s t:Nat}{v:β}{l:List (Nat×β)}(h:s≠t):List.lookup s ((t,v)::l)=l.lookup s:=by
 have e':(s==t)=false:=by simpa using h
 simp[List.lookup,e']
theorem lookup_cons_eq{β:Type}{s:Nat}{v:β}{l:List (Nat×β)}:List.lookup s ((s,v)::l)=some v:=by simp[List.lookup]
theorem HInv.addBox{c:Ctx}{E:Env}{bx:List (Nat×Box)}{tk:List (Nat×Tok)}{w:World}(h:HInv c E bx tk w){id:Nat}{b:Box}(hn:bx.lookup id=none)(hb:BoxOk E w id b)
 (h1: ∀(j:Nat) (b':Box),bx.lookup j=some b'→b'.cs≠ [] →E.ρ j≠E.ρ id) (h2: ∀(j:Nat) (t:Tok),tk.lookup j=some t→(E.η j).ownBlock≠some (E.ρ id)) (h3:c.w0.heap.size≤E.ρ id∨c.M (E.ρ id)):
 HInv c E ((id,b)::bx) tk w:=by
 refine⟨fun i b' hi hc=> ?_,h.tok,fun i j b1 b2 hi hj hc hc' he=> ?_,h.tt,fun i j b1 t hi hc hj=> ?_,fun i b' hi hc=> ?_,h.ownt,h.new,h.old,fun i hin=> ?_,h.kept⟩
 · by_cases e:i=id
   · subst e;rw[lookup_cons_eq] at hi;cases hi;exact hb
   · rw[lookup_cons_ne e] at hi;exact h.box i b' hi hc
 · by_cases e:i=id
   · by_cases e':j=id
     · rw[e,e']
     · rw[lookup_cons_ne e'] at hj;subst e;exact(h1 j b2 hj hc' he.symm).elim
   · rw[lookup_cons_ne e] at hi
     by_cases e':j=id
     · subst e';exact(h1 i b1 hi hc he).elim
     · rw[lookup_cons_ne e'] at hj;exact h.bb i j b1 b2 hi hj hc hc' he
 · by_cases e:i=id
   · subst e;exact h2 j t hj
   · rw[lookup_cons_ne e] at hi;exact h.bt i j b1 t hi hc hj
 · by_cases e:i=id
   · subst e;exact h3
   · rw[lookup_cons_ne e] at hi;exact h.own i b' hi hc
 · obtain⟨e1,e2,e3⟩:=h.ins i hin
   refine⟨e1,e2,?_⟩
   by_cases e:i=id
   · subst e;rw[lookup_cons_eq];rfl
   · rw[lookup_cons_ne e];exact e3
theorem HInv.addTok{c:Ctx}{E:Env}{bx:List (Nat×Box)}{tk:List (Nat×Tok)}{w:World}(h:HInv c E bx tk w){id:Nat}{t:Tok}(ht:TokOk E w id t)
 (h1: ∀(j:Nat) (t':Tok) (g:Nat),j≠id→tk.lookup j=some t'→(E.η j).ownBlock=some g→(E.η id).ownBlock≠some g) (h2: ∀(i:Nat) (b:Box),bx.lookup i=some b→b.cs≠ [] →(E.η id).ownBlock≠some (E.ρ i))
 (h3: ∀g,(E.η id).ownBlock=some g→c.w0.heap.size≤g):HInv c E bx ((id,t)::tk) w:=by
 refine⟨h.box,fun i t' hi=> ?_,h.bb,fun i j t1 t2 g hi hj e1 e2=> ?_,fun i j b t' hi hn hj=> ?_,h.own,fun j t' g hj hg=> ?_,h.new,h.old,h.ins,h.kept⟩
 · by_cases e:i=id
   · subst e;rw[lookup_cons_eq] at hi;cases hi;exact ht
   · rw[lookup_cons_ne e] at hi;exact h.tok i t' hi
 · by_cases e:i=id
   · by_cases e':j=id
     · rw[e,e']
     · rw[lookup_cons_ne e'] at hj;subst e;exact(h1 j t2 g e' hj e2 e1).elim
   · rw[lookup_cons_ne e] at hi
     by_cases e':j=id
     · subst e';exact(h1 i t1 g e hi e1 e2).elim
     · rw[lookup_cons_ne e'] at hj;exact h.tt i j t1 t2 g hi hj e1 e2
 · by_cases e:j=id
   · subst e;exact h2 i b hi hn
   · rw[lookup_cons_ne e] at hj;exact h.bt i j b t' hi hn hj
 · by_cases e:j=id
   · subst e;exact h3 g hg
   · rw[lookup_cons_ne e] at hj;exact h.ownt j t' g hj hg
theorem ownBlock_lt{E:Env}{w:World}{id:Nat}{t:Tok}(h:TokOk E w id t){g:Nat}(hg:(E.η id).ownBlock=some g):g<w.heap.size:=by
 rcases h with hn|⟨g',n,cap,cur,hv,hh,_⟩
 · rw[hn] at hg;simp[Value.ownBlock] at hg
 · rw[hv] at hg;simp[Value.ownBlock] at hg;subst hg;exact(Array.getElem?_eq_some_iff.1 hh).1
theorem box_lt{E:Env}{w:World}{id:Nat}{b:Box}(h:BoxOk E w id b):E.ρ id<w.heap.size:=by
 obtain⟨_,arr,ha,_⟩:=h;exact(Array.getElem?_eq_some_iff.1 ha).1
theorem Inv.newBox{c:Ctx}{E:Env}{st:St}{a:Act}{w:World}(hi:Inv c E st a w){id:Nat}(hf:st.fresh id=true){ty:TypeId}{cs:List AV}{us:List Value}
 (hr:RelL E w cs us) (h1: ∀u∈us,u.oneCell'=true) (hm:AV.ments id cs=false):
 Inv c (E.upd id w.heap.size 0 undef) ⟨st.fr,(id,⟨ty,cs⟩)::st.bx,st.tk⟩ a (w.alloc (.cells us.toArray ty (0,0))):=by
 obtain⟨hh,mono⟩:=hi.heap.alloc hf (.cells us.toArray ty (0,0)) 0 undef
 have hid:(E.upd id w.heap.size 0 undef).ρ id=w.heap.size:=by simp[Env.upd]
 refine⟨hi.defers,hi.size,fun s v hv=>mono v _ (St.fresh_fr hf hv) (hi.slot s v hv),hh.addBox ?_ ?_ ?_ ?_ ?_⟩
 · cases hq:st.bx.lookup id with
   |none=>rfl
   |some b=>exact((St.fresh_bx hf hq).1 rfl).elim
 · refine⟨by rw[hid];simp[Env.upd],us,by rw[hid];exact heapNew w _,Nat.le_of_eq hr.1.symm,h1,fun i x u hx hu=>mono x u (AV.ments_false hm i x hx) (hr.2 i x u hx hu),fun k cap he=>by simp[Env.upd,undef,capV] at he⟩
 · intro j b' hj hn
   rw[hid]
   have:(E.upd id w.heap.size 0 undef).ρ j=E.ρ j:=by simp[Env.upd,(St.fresh_bx hf hj).1]
   rw[this]
   have:=box_lt (hi.heap.box j b' hj hn)
   omega
 · intro j t hj
   rw[hid]
   have e:(E.upd id w.heap.size 0 undef).η j=E.η j:=by simp[Env.upd,St.fresh_tk hf hj]
   rw[e]
   intro hg
   have:=ownBlock_lt (hi.heap.tok j t hj) hg
   omega
 · rw[hid];exact .inl hi.heap.kept.size
theorem Inv.newRow{c:Ctx}{E:Env}{st:St}{a:Act}{w:World}(hi:Inv c E st a w){id:Nat}(hf:st.fresh id=true){ty:TypeId}{k cap:Nat}{es:List (List IV)}{us:List Value}
 (hk: ∀(i:Nat) (e:List IV),es[i]?=some e→e.length=k) (hl:us.length=cap*k) (hc:es.length≤cap) (hm:cap≤maxLen)
 (hr: ∀(i:Nat) (e:List IV) (j:Nat) (x:IV) (u:Value),es[i]?=some e→e[j]?=some x→us[i*k+j]?=some u→RepI E.φ w x u):
 ∃E',Inv c E' ⟨st.fr,st.bx,(id,⟨ty,k⟩)::st.tk⟩ a (w.alloc (.cells us.toArray ty (0,0)))∧
  RepA E' (w.alloc (.cells us.toArray ty (0,0))) (.row id es) (.slice (some ⟨w.heap.size,0,none⟩) es.length cap):=by
 obtain⟨hh,mono⟩:=hi.heap.alloc hf (.cells us.toArray ty (0,0)) (es.length*k) (.slice (some ⟨w.heap.size,0,none⟩) es.length cap)
 have hid:(E.upd id w.heap.size (es.length*k) (.slice (some ⟨w.heap.size,0,none⟩) es.length cap)).η id= .slice (some ⟨w.heap.size,0,none⟩) es.length cap:=by simp[Env.upd]
 have hidx: ∀(i:Nat) (e:List IV) (j:Nat) (x:IV),es[i]?=some e→e[j]?=some x→i*k+j<es.length*k:=fun i e j x h1 h2=>by
  have hi':=(List.getElem?_eq_some_iff.1 h1).1
  have hj':=(List.getElem?_eq_some_iff.1 h2).1
  rw[hk i e h1] at hj'
  calc i*k+j<i*k+k:=by omega
   _=(i+1)*k:=by rw[Nat.add_mul,Nat.one_mul]
   _≤es.length*k:=Nat.mul_le_mul_right k hi'
 have hle2:es.length*k≤cap*k:=Nat.mul_le_mul_right k hc
 have hkk:Keeps E.φ w (w.alloc (.cells us.toArray ty (0,0))):=Keeps.alloc hi.heap.new _
 have hle: ∀b,E.φ b≤(E.upd id w.heap.size (es.length*k) (.slice (some ⟨w.heap.size,0,none⟩) es.length cap)).φ b:=fun b=>by
  simp only[Env.upd];split
  · rename_i e;rw[hi.heap.new b (by omega)];exact Nat.zero_le _
  · exact Nat.le_refl _
 refine⟨_,⟨hi.defers,hi.size,fun s v hv=>mono v _ (St.fresh_fr hf hv) (hi.slot s v hv),hh.addTok ?_ ?_ ?_ ?_⟩,.row hid.symm ?_⟩
 · refine .inr ⟨w.heap.size,es.length,cap,us.toArray,hid,heapNew w _,hc,hm,Nat.le_of_eq (by simpa using hl.symm),by simp[Env.upd]⟩
 · intro j t' g hne hj hg
   rw[hid]
   simp only[Value.ownBlock,ne_eq,Option.some.injEq]
   have e:(E.upd id w.heap.size (es.length*k) (.slice (some ⟨w.heap.size,0,none⟩) es.length cap)).η j=E.η j:=by simp[Env.upd,hne]
   rw[e] at hg
   have:=ownBlock_lt (hi.heap.tok j t' hj) hg
   omega
 · intro i b hb hn
   rw[hid]
   simp only[Value.ownBlock,ne_eq,Option.some.injEq]
   have e:(E.upd id w.heap.size (es.length*k) (.slice (some ⟨w.heap.size,0,none⟩) es.length cap)).ρ i=E.ρ i:=by simp[Env.upd,(St.fresh_bx hf hb).1]
   rw[e]
   have:=box_lt (hi.heap.box i b hb hn)
   omega
 · intro g hg
   rw[hid] at hg
   simp[Value.ownBlock] at hg
   subst hg;exact hi.heap.kept.size
 · refine .sl (k:=k) (fun i j=>us.getD (i*k+j) undef) hc hm hk (fun i e j x h1 h2=> ?_) (fun i e j x h1 h2=> ?_) (fun i e j x h1 h2=> ?_)
   · have:=hidx i e j x h1 h2
     simp only[Env.upd,if_true];omega
   · have:=hidx i e j x h1 h2
     rw[Nat.zero_add,World.cell?_alloc_new]
     have hlt:i*k+j<us.length:=by omega
     simp[hlt]
   · have:=hidx i e j x h1 h2
     have hlt:i*k+j<us.length:=by omega
     have hu:us[i*k+j]?=some (us.getD (i*k+j) undef):=by simp[List.getElem?_eq_getElem hlt]
     exact(hr i e j x _ h1 h2 hu).mono hkk hle
theorem Inv.drew{c:Ctx}{E:Env}{st:St}{a:Act}{w:World}(hi:Inv c E st a w):Inv c E st a w.drew:=by
 have hk:Keeps E.φ w w.drew:=fun _ _ _=>rfl
 refine⟨hi.defers,hi.size,fun s v hv=>(hi.slot s v hv).keep hk,⟨fun i b hb hn=> ?_,fun i t ht=>hi.heap.tok i t ht,hi.heap.bb,hi.heap.tt,hi.heap.bt,hi.heap.own,hi.heap.ownt,hi.heap.new,hi.heap.old,hi.heap.ins,?_⟩⟩
 · obtain⟨h0,arr,ha,hl,h1,hr,hq⟩:=hi.heap.box i b hb hn
   exact⟨h0,arr,ha,hl,h1,fun k x u hx hu=>(hr k x u hx hu).keep hk,hq⟩
 · exact hi.heap.kept.next rfl rfl rfl (Nat.le_refl _) (fun _ _ _=>rfl)
section
variable {P:Program}{c:Ctx}{st:St}{ops:Array Oper}{Q:Exit→Act→World→Prop}{rest:List Oper}{o:Oper}
def Makes(P:Program)(c:Ctx)(st:St)(o:Oper)(v:AV)(bx:List (Nat×Box))(tk:List (Nat×Tok)):Prop:=
 ∀(E:Env) (a:Act) (w:World),Inv c E st a w→ ∃(u:Value) (E':Env) (w':World),(execOp a.eval o).run P w= .ok (.value u) w'∧Inv c E' ⟨st.fr,bx,tk⟩ a w'∧RepA E' w' v u
theorem L.make{d:Nat}{v:AV}{bx:List (Nat×Box)}{tk:List (Nat×Tok)}(hg:o.guard=none)(hd:o.dst=some d)(hlt:Nat.ble (d+1) c.nt=true)(hy:Makes P c st o v bx tk)
 (h:L c ⟨(d,v)::st.fr,bx,tk⟩ (wpList P ops Q rest)):L c st (wpList P ops Q (o::rest)):=by
 rintro a w ⟨E,hi⟩
 obtain⟨u,E',w',hr,hi',hv⟩:=hy E a w hi
 refine wpList_plain hg (fun K hK=>Oper.wp_value hr (hK _ _ ?_))
 rw[hd]
 exact h _ _ ⟨E',hi'.put (Nat.le_of_ble_eq_true hlt) hv⟩
def zeroOk(P:Program)(t:TypeId)(zs:List Value)(z:Value):Prop:= ∃i,P.info? t=some i∧i.zero=some z∧z.cells=zs.toArray
theorem Makes.box{t:TypeId}{x:Operand}{id:Nat}{v:AV}(ho:o.op= .box t x)(hx:st.ev x=v)(hv:v.lays=true)(hf:st.fresh id=true)(hm:AV.ments id v.cells=false):
 Makes P c st o (.ptr id 0) ((id,⟨t,v.cells⟩)::st.bx) st.tk:=fun E a w hi=>by
 have h:=hi.ev x;rw[hx] at h
 obtain⟨hr,h1⟩:=h.lay hv
 refine⟨_,_,_,?_,hi.newBox hf (ty:=t) hr h1 hm,.ptr rfl⟩
 simp[execOp,ho,Instr.box,newVar,newRow,Env.upd]
theorem Makes.alloc{t:TypeId}{id:Nat}{z:Value}{i:TypeInfo}(ho:o.op= .alloc t)(hz:(P.info? t).bind (·.zero)=some z)(h1:z.cells.toList.all (·.oneCell')=true)(hf:st.fresh id=true)
 (hm:AV.ments id (z.cells.toList.map constCell)=false):
 Makes P c st o (.ptr id 0) ((id,⟨t,z.cells.toList.map constCell⟩)::st.bx) st.tk:=fun E a w hi=>by
 refine⟨_,_,_,?_,hi.newBox hf (ty:=t) (RelL.consts E w _ h1) (List.all_eq_true.1 h1) hm,.ptr rfl⟩
 cases hq:P.info? t with
 |none=>simp[hq] at hz
 |some i=>
  simp only[hq,Option.bind_some] at hz
  simp[execOp,ho,Instr.alloc,zeroValue,typeInfo,hq,hz,newVar,newRow,Env.upd]
end
end Go.Abs
