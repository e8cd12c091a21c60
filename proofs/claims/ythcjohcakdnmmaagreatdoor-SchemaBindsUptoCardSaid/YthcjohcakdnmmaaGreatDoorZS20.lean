/- Several texts in one, each with its own sentence ahead of it. Conditions: each one says its own. -/
import Derived.Test.YthcjohcakdnmmaaGreatDoorRows
import Derived.Test.YthcjohcakdnmmaaGreatDoorZS14
import Derived.Test.YthcjohcakdnmmaaGreatDoorZS15
import Derived.Test.YthcjohcakdnmmaaGreatDoorZS19
set_option linter.all false
namespace Go.Proofs.YthcjohcakdnmmaaGreatDoor
open Go.Abs
set_option linter.unusedVariables false
set_option maxRecDepth 100000
theorem bulk_all{H:Type}: ∀(ds:List (DataW H)),bulkAll Rows.uptoBulk ds=Rows.uptoBulkAll ds
 | [] =>rfl
 |d::ds=>by
  have:=bulk_all ds
  simp only[bulkAll,List.map_cons,List.foldr_cons,Rows.uptoBulkAll] at this⊢
  omega
theorem bulk{H:Type}:Bulk (H:=H) Rows.uptoBulk where
 str s:=by simp[Rows.uptoBulk]
 lit l:=by cases l<;>simp[Rows.uptoBulk]
 nil:=by simp[Rows.uptoBulk]
 slice es sp:=by rw[bulk_all];simp only[Rows.uptoBulk];omega
 agg es:=by rw[bulk_all];simp only[Rows.uptoBulk];omega
def book:Book:= [(3,8,[.int .i64]),(5,1,[.int .u8]),(9,16,[.str]),(30,24,[.sl 34]),(34,104,[.int .i64,.int .i64,.int .i64,.str,.str,.str,.int .i64,.sl 34]),(47,40,[.str,.sl 71]),(56,120,[.str,.int .i64,.int .i64,.int .i64,.str,.str,.str,.int .i64,.sl 34]),(64,48,[.str,.str,.str]),(71,32,[.str,.int .i64,.bool]),(73,48,[.str,.str,.int .i64,.bool])]
theorem book_ok:book.ok Tryz.prog=true:=by kernel_rfl
theorem sz_pos(x:IV):1≤x.sz:=by
 cases x with
 |im v=>cases v<;>simp[IV.sz]
 |sl es=>simp[IV.sz]
theorem szs_pos{e:List IV}(h:0<e.length):1≤szs e:=by
 cases e with
 |nil=>simp at h
 |cons x e=>have:=sz_pos x;simp only[szs];omega
theorem szss_len: ∀{es:List (List IV)},(∀e∈es,0<e.length)→es.length≤szss es
 | [],_=>by simp[szss]
 |e::es,h=>by
  have:=szs_pos (h e (by simp))
  have:=szss_len (es:=es) (fun e he=>h e (by simp[he]))
  simp only[szss,List.length_cons];omega
end Go.Proofs.YthcjohcakdnmmaaGreatDoor
namespace Go.Proofs.YthcjohcakdnmmaaGreatDoor
open Go.Abs
set_option maxRecDepth 100000
attribute [local irreducible] L Code.wp bodyPost Exit.then Exit.inBlock
set_option linter.unusedVariables false
set_option linter.unusedSimpArgs false
set_option linter.unusedSectionVars false
variable [Dr]
theorem less_lt: ∀(x y:List UInt8),Op.bytesLess x y=decide (x<y):=by
 intro x
 induction x with
 |nil=>intro y;cases y<;>simp[Op.bytesLess]
 |cons a x ih=>
  intro y
  cases y with
  |nil=>simp[Op.bytesLess]
  |cons b y=>
   unfold Op.bytesLess
   rw[ih y,Bool.eq_iff_iff]
   simp[List.cons_lt_cons_iff]
end Go.Proofs.YthcjohcakdnmmaaGreatDoor
namespace Go.Proofs.YthcjohcakdnmmaaGreatDoor
open Go.Abs
set_option maxRecDepth 100000
attribute [local irreducible] L Code.wp bodyPost Exit.then Exit.inBlock
set_option linter.unusedVariables false
set_option linter.unusedSimpArgs false
def nilV:Val:=⟨0,0,[]⟩
end Go.Proofs.YthcjohcakdnmmaaGreatDoor
namespace Go.Proofs.YthcjohcakdnmmaaGreatDoor
open Go.Abs
set_option maxRecDepth 100000
attribute [local irreducible] L Code.wp bodyPost Exit.then Exit.inBlock
set_option linter.unusedVariables false
set_option linter.unusedSimpArgs false
end Go.Proofs.YthcjohcakdnmmaaGreatDoor
namespace Go.Proofs.YthcjohcakdnmmaaGreatDoor
open Go.Abs
set_option maxRecDepth 100000
attribute [local irreducible] L Code.wp bodyPost Exit.then Exit.inBlock
set_option linter.unusedVariables false
set_option linter.unusedSimpArgs false
inductive Ex where
 |mk (op:Int) (v:Val) (s name:List UInt8) (n:Int) (l:List Ex)
def Ex.op:Ex→Int| .mk op _ _ _ _ _=>op
def Ex.v:Ex→Val| .mk _ v _ _ _ _=>v
def Ex.s:Ex→List UInt8| .mk _ _ s _ _ _=>s
def Ex.name:Ex→List UInt8| .mk _ _ _ s _ _=>s
def Ex.n:Ex→Int| .mk _ _ _ _ n _=>n
def Ex.l:Ex→List Ex| .mk _ _ _ _ _ l=>l
def Ex.c:Ex→List IV
 | .mk op v s name n l=> [I op,I v.k,I v.n,S v.s,S s,S name,I n,.sl (l.attach.map fun x=>x.1.c)]
 decreasing_by
  have:=List.sizeOf_lt_of_mem x.2
  simp;omega
theorem Ex.c_eq(op:Int)(v:Val)(s name:List UInt8)(n:Int)(l:List Ex):Ex.c (.mk op v s name n l)= [I op,I v.k,I v.n,S v.s,S s,S name,I n,.sl (l.map Ex.c)]:=by
 rw[Ex.c];simp[List.attach_map_val]
inductive Ex.Ok:Ex→Prop
 |mk {op:Int} {v:Val} {s name:List UInt8} {n:Int} {l:List Ex} (hl:l.length*104≤140737488355328) (h: ∀x∈l,x.Ok):Ex.Ok (.mk op v s name n l)
end Go.Proofs.YthcjohcakdnmmaaGreatDoor
namespace Go.Proofs.YthcjohcakdnmmaaGreatDoor
open Go.Abs
set_option linter.unusedVariables false
set_option linter.unusedSimpArgs false
theorem less_asymm{x y:List UInt8}(h:Op.bytesLess x y=true):Op.bytesLess y x=false:=by
 rw[less_lt] at h⊢
 simp only[decide_eq_true_eq,decide_eq_false_iff_not] at h⊢
 exact List.lt_asymm h
theorem less_tri{x y:List UInt8}(h:Op.bytesLess x y=false)(h':Op.bytesLess y x=false):x=y:=by
 rw[less_lt] at h h'
 simp only[decide_eq_false_iff_not] at h h'
 exact List.le_antisymm (List.not_lt.1 h') (List.not_lt.1 h)
end Go.Proofs.YthcjohcakdnmmaaGreatDoor
namespace Go.Abs
open Go.RowKit (Below)
set_option linter.unusedVariables false
set_option linter.unusedSectionVars false
set_option linter.unusedSimpArgs false
theorem FOk.pub{c:Ctx}{E:Env}{st:St}{a:Act}{w:World}{r:Rw}{F1 F2:List Rw}{es:List (List IV)}(hi:Inv c E st a w)(hF:FOk c E st.bx w (F1++r::F2))(hes:es.flatten=r.xs)(hk: ∀e∈es,e.length=r.k)(hn:es.length=r.n)(htk:st.tk= []):
 ∃φ:Nat→Nat,Inv c ⟨φ,E.ρ,E.η⟩ st a w∧FOk c ⟨φ,E.ρ,E.η⟩ st.bx w (F1++F2)∧RepI φ w (.sl es) r.u∧(∀(x:IV) (u:Value),RepI E.φ w x u→RepI φ w x u):=by
 have hr:=hF.ok r (by simp)
 obtain⟨arr,ha,hcl,h1,hrep⟩:=hr.at_
 have hce:chunks r.k r.n r.xs=es:=by rw[←hes,←hn];exact chunks_flat es hk
 have hle:r.n*r.k≤arr.length:=Nat.le_trans (Nat.mul_le_mul_right _ hr.nc) hcl
 have hxl:=hr.len
 have hφ: ∀g,E.φ g≤(if g=r.b then r.n*r.k else E.φ g):=fun g=>by
  split
  · rename_i e;rw[e,hr.z];exact Nat.zero_le _
  · exact Nat.le_refl _
 have hp:RepI (fun g=>if g=r.b then r.n*r.k else E.φ g) w (.sl es) r.u:=by
  rw[←hce]
  have hidx: ∀(i:Nat) (e:List IV) (j:Nat) (x:IV),(chunks r.k r.n r.xs)[i]?=some e→e[j]?=some x→i*r.k+j<r.n*r.k∧r.xs[i*r.k+j]?=some x:=fun i e j x h2 h3=>by
   rw[chunks_get r.k r.n r.xs i e h2,List.getElem?_take] at h3
   split at h3
   · rw[List.getElem?_drop] at h3
     have:=(List.getElem?_eq_some_iff.1 h3).1
     exact⟨by omega,h3⟩
   · cases h3
  have hres:=RepI.sl (φ:=fun g=>if g=r.b then r.n*r.k else E.φ g) (w:=w) (es:=chunks r.k r.n r.xs) (b:=r.b) (o:=0) (cap:=r.cap) (k:=r.k) (fun i j=>arr.getD (i*r.k+j) undef) (by rw[chunks_length];exact hr.nc) hr.cm
   (fun i e he=>by
     have hlt':=(List.getElem?_eq_some_iff.1 he).1
     rw[chunks_length] at hlt'
     rw[chunks_get r.k r.n r.xs i e he,List.length_take,List.length_drop,hxl]
     have:(i+1)*r.k≤r.n*r.k:=Nat.mul_le_mul_right r.k hlt'
     rw[Nat.add_mul,Nat.one_mul] at this
     omega)
   (fun i e j x h2 h3=>by simp only[if_true];have:=(hidx i e j x h2 h3).1;omega)
   (fun i e j x h2 h3=>by
     have:=(hidx i e j x h2 h3).1
     rw[cell_of_row w _ _ _ _ _ ha,Nat.zero_add]
     have hlt':i*r.k+j<arr.length:=by omega
     simp[hlt'])
   (fun i e j x h2 h3=>by
     obtain⟨h4,h5⟩:=hidx i e j x h2 h3
     have hlt':i*r.k+j<arr.length:=by omega
     have hu:arr[i*r.k+j]?=some (arr.getD (i*r.k+j) undef):=by simp[List.getElem?_eq_getElem hlt']
     exact(hrep _ x _ h5 hu).mono (fun _ _ _=>rfl) hφ)
  rw[chunks_length] at hres
  exact hres
 have pub: ∀{v:AV} {u:Value},RepA E w v u→RepA ⟨fun g=>if g=r.b then r.n*r.k else E.φ g,E.ρ,E.η⟩ w v u:=fun hv=>hv.mono (E':=⟨fun g=>if g=r.b then r.n*r.k else E.φ g,E.ρ,E.η⟩) (fun _ _ _=>rfl) hφ (fun _ _=>⟨rfl,rfl⟩)
 have hnd:=hF.nd
 rw[List.map_append,List.map_cons] at hnd
 have hmem: ∀r'∈F1++F2,r'∈F1++r::F2∧r'.b≠r.b:=fun r' hr'=>by
  refine⟨by rcases List.mem_append.1 hr' with h|h<;>simp[h],fun e=>(nodup_mid hnd).1 ?_⟩
  rw[←e,←List.map_append];exact List.mem_map_of_mem hr'
 refine⟨fun g=>if g=r.b then r.n*r.k else E.φ g,⟨hi.defers,hi.size,fun s v hv=>pub (hi.slot s v hv),fun j b1 hj hn1=> ?_,fun j t' hj=> ?_,hi.heap.bb,hi.heap.tt,hi.heap.bt,hi.heap.own,hi.heap.ownt,fun g hg=> ?_,fun g hg=> ?_,hi.heap.ins,hi.heap.kept⟩,⟨fun r' hr'=> ?_,fun r' hr'=>hF.own r' (hmem r' hr').1,fun r' hr' id b hl hn1=>hF.bx r' (hmem r' hr').1 id b hl hn1,?_⟩,hp,fun x u hx=>hx.mono (fun _ _ _=>rfl) hφ⟩
 · obtain⟨g0,arr',ha',hl',h1',hr',hη'⟩:=hi.heap.box j b1 hj hn1
   refine⟨?_,arr',ha',hl',h1',fun p x u hx hu=>pub (hr' p x u hx hu),hη'⟩
   simp only[if_neg (hF.bx r (by simp) j b1 hj hn1)];exact g0
 · rw[htk] at hj;simp at hj
 · have:=hr.lt
   simp only;rw[if_neg (by omega)];exact hi.heap.new g hg
 · have:=hF.own r (by simp)
   simp only;rw[if_neg (by omega)];exact hi.heap.old g hg
 · obtain⟨hm1,hne⟩:=hmem r' hr'
   exact(hF.ok r' hm1).keep (by simp only[if_neg hne];exact(hF.ok r' hm1).z) rfl (fun _ _ _=>rfl) hφ
 · rw[List.map_append];exact(nodup_mid hnd).2
section
variable {c:Ctx}{F:List Rw}{st:St}{X:Act→World→Prop}
theorem LF.perm{G:List Rw}(hp:F.Perm G)(h:LF c G st X):LF c F st X:=fun a w E hi hF=>
 h a w E hi ⟨fun r hr=>hF.ok r (hp.mem_iff.2 hr),fun r hr=>hF.own r (hp.mem_iff.2 hr),fun r hr=>hF.bx r (hp.mem_iff.2 hr),(hp.map Rw.b).nodup_iff.1 hF.nd⟩
theorem LF.pubS(s j:Nat){r:Rw}{F1 F2:List Rw}{vs:List AV}{es:List (List IV)}(hF':F=F1++r::F2)(hs:st.fr.lookup s=some (.agg vs))(hj:vs[j]?=some (.iv (.im r.u)))(hes:es.flatten=r.xs)(hk: ∀e∈es,e.length=r.k)(hn:es.length=r.n)(htk:st.tk= [])
 (h:LF c (F1++F2) ⟨(s,.agg (vs.set j (.iv (.sl es))))::st.fr,st.bx,st.tk⟩ X):LF c F st X:=by
 subst hF'
 rintro a w E hi hF
 obtain⟨φ,hi2,hF2,hp,_⟩:=FOk.pub hi hF hes hk hn htk
 refine h a w _ ⟨hi2.defers,hi2.size,fun s' v hv=> ?_,hi2.heap⟩ hF2
 by_cases e:s'=s
 · subst e
   rw[lookup_cons_eq] at hv;cases hv
   have h0:=hi2.slot s' _ hs
   generalize a.tmps.getD s' undef=u at h0
   cases h0 with
   | @agg _ us hl h1 hr=>
     refine .agg (by rw[hl,List.length_set]) h1 (fun i x u hx hu=> ?_)
     by_cases ei:i=j
     · subst ei
       have hlt:=(List.getElem?_eq_some_iff.1 hj).1
       rw[List.getElem?_set_self hlt] at hx
       cases hx
       have:=(hr i _ u hj hu).iv_im
       rw[this];exact .iv hp
     · rw[List.getElem?_set_ne (Ne.symm ei)] at hx
       exact hr i x u hx hu
 · rw[lookup_cons_ne e] at hv;exact hi2.slot s' v hv
theorem LF.pubR(i:Nat){r q:Rw}{F1 F2:List Rw}{es:List (List IV)}(hF':F=q::F1++r::F2)(hx:q.xs[i]?=some (.im r.u))(hes:es.flatten=r.xs)(hk: ∀e∈es,e.length=r.k)(hn:es.length=r.n)(htk:st.tk= [])
 (h:LF c (⟨q.t,q.b,q.n,q.cap,q.k,q.xs.set i (.sl es)⟩::F1++F2) st X):LF c F st X:=by
 subst hF'
 rintro a w E hi hF
 obtain⟨φ,hi2,hF2,hp,_⟩:=FOk.pub hi hF hes hk hn htk
 refine h a w _ hi2 ⟨fun r' hr'=> ?_,fun r' hr'=> ?_,fun r' hr'=> ?_,by simpa using hF2.nd⟩
 · rcases List.mem_append.1 hr' with hr'|hr'
   · rcases List.mem_cons.1 hr' with rfl|hr'
     · have hq:=hF2.ok q (by simp)
       obtain⟨arr,h1,h2,h3,h4⟩:=hq.at_
       refine⟨hq.z,hq.nc,hq.cm,by simpa using hq.len,arr,h1,h2,h3,fun p x u hxp hup=> ?_⟩
       by_cases e:p=i
       · subst e
         have hlt:=(List.getElem?_eq_some_iff.1 hx).1
         rw[List.getElem?_set_self hlt] at hxp
         cases hxp
         have:u=r.u:=by
          have:=h4 p _ u hx hup
          cases this with
          |im h=>rfl
         rw[this];exact hp
       · rw[List.getElem?_set_ne (Ne.symm e)] at hxp
         exact h4 p x u hxp hup
     · exact hF2.ok r' (by simp[hr'])
   · exact hF2.ok r' (by simp[hr'])
 · rcases List.mem_append.1 hr' with hr'|hr'
   · rcases List.mem_cons.1 hr' with rfl|hr'
     · exact hF2.own q (by simp)
     · exact hF2.own r' (by simp[hr'])
   · exact hF2.own r' (by simp[hr'])
 · rcases List.mem_append.1 hr' with hr'|hr'
   · rcases List.mem_cons.1 hr' with rfl|hr'
     · exact hF2.bx q (by simp)
     · exact hF2.bx r' (by simp[hr'])
   · exact hF2.bx r' (by simp[hr'])
theorem LF.cutS{ι:Type}{P:Program}{x:Code}{R:Act→World→Prop}{Q2:Exit→Act→World→Prop}{id:Nat}(inv:ι→St)(Fi:ι→List Rw)(I:ι→Prop)
 (h: ∀K:Act→World→Prop,(∀(st':St) (i:ι),I i→Wk c st' (inv i)→LF c (Fi i) st' K)→L c st ((Code.loop x).wp P (Exit.inBlock id (Exit.then K Q2)))) (t: ∀i,I i→LF c (Fi i) (inv i) R):L c st ((Code.loop x).wp P (Exit.inBlock id (Exit.then R Q2))):=
 h R (fun st' i hi hw=> .wk hw (t i hi))
theorem LF.cutL{ι:Type}{P:Program}{c':Ctx}{x:Code}{R:Act→World→Prop}{Q2:Exit→Act→World→Prop}{id:Nat}(inv:ι→St)(Fi:ι→List Rw)(I:ι→Prop)
 (h: ∀K:Act→World→Prop,(∀(st':St) (i:ι),I i→Wk c st' (inv i)→LF c (Fi i) st' K)→L c' st ((Code.loop x).wp P (Exit.inBlock id (Exit.then K Q2)))) (t: ∀i,I i→LF c (Fi i) (inv i) R):L c' st ((Code.loop x).wp P (Exit.inBlock id (Exit.then R Q2))):=
 h R (fun st' i hi hw=> .wk hw (t i hi))
theorem L.cutB{ι:Type}{P:Program}{x:Code}{R:Act→World→Prop}{Q2:Exit→Act→World→Prop}{id:Nat}(inv:ι→St)(I:ι→Prop)
 (h: ∀K:Act→World→Prop,(∀(st':St) (i:ι),I i→Wk c st' (inv i)→L c st' K)→L c st ((Code.loop x).wp P (Exit.inBlock id (Exit.then K Q2)))) (t: ∀i,I i→L c (inv i) R):L c st ((Code.loop x).wp P (Exit.inBlock id (Exit.then R Q2))):=
 h R (fun st' i hi hw=> .wk hw (t i hi))
end
def PostF(c:Ctx)(R:List AV→List Rw→Prop)(e:Ending)(w':World):Prop:=
 ∃(vs:List AV) (F:List Rw) (u:Value) (E':Env),R vs F∧e= .returned u∧RepA E' w' (.agg vs) u∧HInv c E' [] [] w'∧FOk c E' [] w' F
def CallF(gs:Globs)(P:Program)(f:FuncId)(args:List AV)(R:List AV→List Rw→Prop):Prop:=
 ∀(E:Env) (w:World) (us:List Value),RelL E w args us→HInv ⟨0,w,E,[]⟩ E [] [] w→Glob gs E w→Calls P f us.toArray w (PostF ⟨0,w,E,[]⟩ R)
theorem CallF.intro{gs:Globs}{P:Program}{f:FuncId}{fn:Func}{code:Code}{args:List AV}{R:List AV→List Rw→Prop}(nt:Nat)(hf:P.funcs[f]?=some fn)(hb:fn.body=some code)(hnt:fn.ntmps=nt)(hn:Nat.ble args.length nt=true)
 (h: ∀(w0:World) (E0:Env),Glob gs E0 w0→L ⟨nt,w0,E0,[]⟩ ⟨enter 0 args,[],[]⟩ (code.wp P (bodyPost P fn (PostF ⟨nt,w0,E0,[]⟩ R)))):CallF gs P f args R:=by
 subst hnt
 have hn:=Nat.le_of_ble_eq_true hn
 intro E w us hrel hh hg
 have hl:=hrel.1
 refine calls_of_wp (R:=PostF ⟨fn.ntmps,w,E,[]⟩ R) hf hb (h w E hg _ _ ⟨E,rfl,?_,fun s v hv=> ?_,?_⟩)|>.mono ?_
 · simp;omega
 · obtain⟨_,hv'⟩:=enter_get args 0 s v hv
   rw[Nat.sub_zero] at hv'
   have hlt:s<us.length:=by rw[hl];exact(List.getElem?_eq_some_iff.1 hv').1
   have:(us.toArray++Array.replicate (fn.ntmps - us.toArray.size) undef).getD s undef=us[s]:=by
    simp[Array.getElem?_append,hlt]
   rw[this]
   exact hrel.2 s v _ hv' (List.getElem?_eq_getElem hlt)
 · exact⟨hh.box,hh.tok,hh.bb,hh.tt,hh.bt,hh.own,hh.ownt,hh.new,hh.old,hh.ins,hh.kept⟩
 · rintro e w' ⟨vs,F,u,E',hR,he,hu,hh',hF⟩
   exact⟨vs,F,u,E',hR,he,hu,⟨hh'.box,hh'.tok,hh'.bb,hh'.tt,hh'.bt,hh'.own,hh'.ownt,hh'.new,hh'.old,hh'.ins,hh'.kept⟩,hF.ok,hF.own,hF.bx,hF.nd⟩
theorem LF.ends{P:Program}{c:Ctx}{F:List Rw}{st:St}{fn:Func}{R:List AV→List Rw→Prop}{rs:List ResultVar}{vs:List AV}(hin:c.ins= [])(hfn:fn.results=rs.toArray)(hv:st.ress P rs=some [.agg vs])(hR:R vs F):
 LF c F st (bodyPost P fn (PostF c R) .ret):=by
 rintro a w E hi hF
 obtain⟨us,hus,hr⟩:=hi.ress hv
 refine⟨hi.defers,if h:us.length=1 then us[0] else .tuple us.toArray,?_,vs,F,_,E,hR,rfl,?_,⟨fun id b h=>by simp at h,fun id b h=>by simp at h,fun i j b b' h=>by simp at h,fun i j b b' g h=>by simp at h,fun i j b b' h=>by simp at h,fun i b h=>by simp at h,fun j b g h=>by simp at h,hi.heap.new,hi.heap.old,(fun id h=>by rw[hin] at h;cases h),hi.heap.kept⟩,hF.ok,hF.own,fun r hr id b h=>by simp at h,hF.nd⟩
 · have hmap:(rs.toArray.mapM (fun r=>(match r with| .tmp t=>pure (a.tmps.getD t undef)| .cell p t=>do loadVar t (←asAddr (a.tmps.getD p undef)):Sem Value))).run P w= .ok us.toArray w:=by
    rw[Array.mapM_eq_mapM_toList,Sem.run_map]
    exact(congrArg (fun r=>Result.andThen r fun a w'=>Result.ok a.toArray w') hus).trans rfl
   unfold results
   rw[hfn,Sem.run_bind]
   erw [hmap]
   simp
 · match us,hr with
   | [u],hr=>exact hr.2 0 _ u rfl rfl
   | [],hr=>have:=hr.1;simp at this
   |u::u'::us,hr=>have:=hr.1;simp at this
end Go.Abs
namespace Go.Abs
open Go.RowKit (Below)
set_option linter.unusedVariables false
set_option linter.unusedSectionVars false
set_option linter.unusedSimpArgs false
section
variable {P:Program}{c:Ctx}{st:St}{ops:Array Oper}{Q:Exit→Act→World→Prop}{rest:List Oper}{o:Oper}
theorem L.callF{gs:Globs}{R:List AV→List Rw→Prop}{f:FuncId}{args:Array Operand}{ats:Array TypeId}{zas:List AV}{d:Nat}(hg:o.guard=none)(hd:o.dst=some d)(hlt:Nat.ble (d+1) c.nt=true)(hG:Glob gs c.E0 c.w0)
 (ho:o.op= .call {callee:= .value (.func f),args:=args,argTypes:=ats}) (hok:callOk P f=true) (hc:CallF gs P f zas R) (ha:Subs (args.toList.map st.ev) zas) (hm: ∀vs F,R vs F→AV.mentsIn [] vs=true)
 (h: ∀vs F,R vs F→LF c F ⟨(d,.agg vs)::st.fr,st.bx,st.tk⟩ (wpList P ops Q rest)):L c st (wpList P ops Q (o::rest)):=by
 rintro a w ⟨E,hi⟩
 refine wpList_plain hg (fun K hK=> ?_)
 have hargs:(args.toList.map a.eval).toArray=args.map a.eval:=by apply Array.ext';simp
 have hrun:(execOp a.eval o).run P w= .ok (.enter f (args.toList.map a.eval).toArray) w:=by
  rw[hargs]
  simp[execOp,ho,resolve,Act.eval,Deferred.ofValue,invoke,run_callOk hok]
 unfold Oper.wp
 rw[hrun,Oper.upon_enter]
 have hcall:=hc E w _ ((hi.evs args).sub ha) (hi.heap.hand .nil) (hG.keep hi)
 refine hcall.mono fun e w' ⟨vs,F,u,E',hR,he,hu,hh,hF⟩=> ?_
 subst he
 obtain⟨hj,monoN,monoC⟩:=hi.heap.join (bxi:= []) (bxo:= []) (tko:= []) hh (N:= []) (fun id hid=>by cases hid) (fun id hid=>by cases hid) (fun id hid=>by cases hid) (fun id hid=>by cases hid) (fun id b hb=>by simp at hb)
 refine hK _ _ ?_
 rw[hd]
 refine h vs F hR _ _ _ (Inv.put (st:=⟨st.fr,st.bx,st.tk⟩) ⟨hi.defers,hi.size,fun s v hv=>monoC v _ (fun id hid=>by cases hid) (hi.slot s v hv),by simpa using hj⟩ (Nat.le_of_ble_eq_true hlt) (monoN (.agg vs) u (by simpa[AV.mentIn,keys] using hm vs F hR) hu)) ⟨hF.ok,fun r hr=>Nat.le_trans hi.heap.kept.size (hF.own r hr),fun r hr id b hl hn e=> ?_,hF.nd⟩
 have h1:=hF.own r hr
 have h2:=(hi.heap.box id b hl hn)
 obtain⟨_,arr,ha2,_⟩:=h2
 have h3:=(Array.getElem?_eq_some_iff.1 ha2).1
 simp only[List.not_mem_nil,if_false] at e
 simp only at h1
 omega
end
section
variable {c:Ctx}{F:List Rw}{st:St}{X:Act→World→Prop}
theorem LF.rebaseG{gs:Globs}(hG:Glob gs c.E0 c.w0)(htk:st.tk= [])(hlive:st.bx.all (fun p=> !p.2.cs.isEmpty)=true)
 (h: ∀c':Ctx,c'.ins=keys st.bx→Link c c'→FIn c' F→(∀r∈F,c.w0.heap.size≤r.b)→Glob gs c'.E0 c'.w0→L c' st X):LF c F st X:=by
 rintro a w E hi hF
 have hne: ∀(id:Nat) (bb:Box),st.bx.lookup id=some bb→bb.cs≠ []:=fun id bb hl=>by
  have:=List.all_eq_true.1 hlive _ (lookup_mem hl)
  simpa using this
 refine h ⟨c.nt,w,E,keys st.bx⟩ rfl ⟨rfl,fun id hid=> ?_,fun id hid=> ?_,fun b' hb'=>hi.heap.old b' hb',hi.heap.kept⟩ ⟨hF.ok,fun r hr=> ?_,hi.heap.new,hF.nd⟩ hF.own (hG.keep hi) a w ⟨E,hi.defers,hi.size,hi.slot,?_⟩
 · obtain⟨bb,hl⟩:=mem_keys hid
   exact hi.heap.own id bb hl (hne id bb hl)
 · obtain⟨e1,e2,e3⟩:=hi.heap.ins id hid
   obtain⟨bb,hl⟩:=Option.isSome_iff_exists.1 e3
   exact⟨keys_mem hl,e1,e2⟩
 · rintro ⟨id,hid,e,_⟩
   obtain⟨bb,hl⟩:=mem_keys hid
   exact hF.bx r hr id bb hl (hne id bb hl) e
 · refine⟨hi.heap.box,hi.heap.tok,hi.heap.bb,hi.heap.tt,hi.heap.bt,fun i bb hl hn=> .inr ⟨i,keys_mem hl,rfl,(hi.heap.box i bb hl hn).1⟩,fun j t g hj=>by rw[htk] at hj;simp at hj,hi.heap.new,fun _ _=>rfl,fun id hid=> ?_,KeptBut.refl _ _⟩
   obtain⟨bb,hl⟩:=mem_keys hid
   exact⟨rfl,rfl,by rw[hl];rfl⟩
theorem LF.swap(l:List (Nat×Nat)){f':List (Nat×AV)}{b':List (Nat×Box)}{t':List (Nat×Tok)}(hin:c.ins= [])(h1:renF (sws l) st.fr=f')(h2:renB (sws l) st.bx=b')(h3:renT (sws l) st.tk=t')(h:LF c F ⟨f',b',t'⟩ X):LF c F st X:=by
 rintro a w E hi hF
 subst h1;subst h2;subst h3
 refine h a w _ (hi.ren (sws l) (swsI l) (swsI_sws l) (sws_swsI l) (fun id hid=>by rw[hin] at hid;cases hid)) ⟨hF.ok,hF.own,fun r hr id b hb hn=> ?_,hF.nd⟩
 unfold renB at hb
 rw[lookup_ren' (swsI_sws l) (sws_swsI l) (Box.ren (sws l)),Option.map_eq_some_iff] at hb
 obtain⟨b0,h0,rfl⟩:=hb
 exact hF.bx r hr _ b0 h0 (Box.ren_ne.1 hn)
theorem LF.openB(K j N:Nat){r:Rw}{F1 F2:List Rw}{ty:TypeId}{cs:List AV}(hF':F=F1++r::F2)(hK:st.bx.lookup K=some ⟨ty,.l cs⟩)(hj:cs[j]?=some (.iv (.im r.u)))(hf:st.fresh N=true)(hk0:0<r.k)(hn0:0<r.n)(htk:st.tk= [])
 (h:LF c (F1++F2) ⟨st.fr,(K,⟨ty,.l (cs.set j (.bsh N 0 r.n r.k))⟩)::(N,⟨r.t,.r r.xs 0⟩)::st.bx,st.tk⟩ X):LF c F st X:=by
 subst hF'
 rintro a w E hi hF
 have hr:=hF.ok r (by simp)
 obtain⟨arr,ha,hcl,h1,hrep⟩:=hr.at_
 obtain⟨hh,mono⟩:=hi.heap.turn hf r.b (capV r.k r.cap)
 have hlook:st.bx.lookup N=none:=by
  cases hq':st.bx.lookup N with
  |none=>rfl
  |some b1=>exact((St.fresh_bx hf hq').1 rfl).elim
 have hKN:K≠N:=fun e=>by subst e;rw[hlook] at hK;cases hK
 have hjl:=(List.getElem?_eq_some_iff.1 hj).1
 have hpos:=Nat.mul_pos hn0 hk0
 have hle:r.n*r.k≤arr.length:=Nat.le_trans (Nat.mul_le_mul_right _ hr.nc) hcl
 have hKn:(⟨ty,.l cs⟩:Box).cs≠ []:=fun e=>by
  simp only[Box.cs_l] at e
  rw[e] at hjl;simp at hjl
 have hA:=hh.addBox (id:=N) (b:=⟨r.t,.r r.xs 0⟩) hlook (by
  refine⟨by simp only[if_true];exact hr.z,arr,by simp only[if_true];exact ha,?_,h1,fun i x u hx hu=> ?_,fun k' cap' he=> ?_⟩
  · simp only[Box.cs_r,List.length_append,List.length_map,List.length_replicate];rw[hr.len];omega
  · simp only[Box.cs_r,List.replicate_zero,List.append_nil,List.getElem?_map,Option.map_eq_some_iff] at hx
    obtain⟨y,hy,rfl⟩:=hx
    exact .iv (hrep i y u hy hu)
  · simp only[if_true] at he
    obtain⟨rfl,rfl⟩:=capV_inj he
    exact hcl)
  (by
    intro j b' hj hn
    have hjN:j≠N:=fun e=>by subst e;rw[hlook] at hj;cases hj
    simp only[if_neg hjN,if_true]
    exact hF.bx r (by simp) j b' hj hn)
  (by
    intro j t' hj
    rw[htk] at hj;simp at hj)
  (by
    simp only[if_true]
    exact .inl (hF.own r (by simp)))
 have hB:=hA.reBox (id:=K) (b:=⟨ty,.l cs⟩) (b':=⟨ty,.l (cs.set j (.bsh N 0 r.n r.k))⟩) (by rw[lookup_cons_ne hKN];exact hK) hKn (fun _=>by
  obtain⟨g0,arK,haK,hlK,h1K,hrK,hηK⟩:=hA.box K _ (by rw[lookup_cons_ne hKN];exact hK) hKn
  refine⟨g0,arK,haK,by simpa using hlK,h1K,fun p x u hx hu=> ?_,hηK⟩
  simp only[Box.cs_l] at hx
  by_cases e:p=j
  · subst e
    rw[List.getElem?_set_self hjl] at hx
    cases hx
    have hu':=(hrK p (.iv (.im r.u)) u (by simpa using hj) hu).iv_im
    rw[hu']
    exact .bsh (cap:=r.cap) (o:=0) (by have:=hr.nc;omega) hr.cm (by simp) (fun _=>by simp) (by simp[Rw.u])
  · rw[List.getElem?_set_ne (Ne.symm e)] at hx
    exact hrK p x u (by simpa using hx) hu)
 refine h a w ⟨E.φ,fun i=>if i=N then r.b else E.ρ i,fun i=>if i=N then capV r.k r.cap else E.η i⟩ ⟨hi.defers,hi.size,fun s' v hv=>mono v _ (St.fresh_fr hf hv) (hi.slot s' v hv),hB⟩ ⟨fun r' hr'=> ?_,fun r' hr'=> ?_,fun r' hr' id b hl hn=> ?_,?_⟩
 · have hm:r'∈F1++r::F2:=by
    rcases List.mem_append.1 hr' with h|h<;>simp[h]
   exact hF.ok r' hm
 · have hm:r'∈F1++r::F2:=by
    rcases List.mem_append.1 hr' with h|h<;>simp[h]
   exact hF.own r' hm
 · have hm:r'∈F1++r::F2:=by
    rcases List.mem_append.1 hr' with h|h<;>simp[h]
   have hnd:=hF.nd
   rw[List.map_append,List.map_cons] at hnd
   by_cases e:id=N
   · subst e
     simp only[if_true]
     intro e
     have hin:r.b∈F1.map Rw.b++F2.map Rw.b:=by
      rw[e,←List.map_append];exact List.mem_map_of_mem hr'
     exact(nodup_mid hnd).1 hin
   · simp only[if_neg e]
     by_cases eK:id=K
     · subst eK;exact hF.bx r' hm id _ hK hKn
     · rw[lookup_cons_ne eK,lookup_cons_ne e] at hl
       exact hF.bx r' hm id b hl hn
 · have hnd:=hF.nd
   rw[List.map_append,List.map_cons] at hnd
   rw[List.map_append];exact(nodup_mid hnd).2
end
end Go.Abs
namespace Go.Abs
open Go.RowKit (Below)
set_option linter.unusedVariables false
set_option linter.unusedSectionVars false
set_option linter.unusedSimpArgs false
end Go.Abs
namespace Go.Abs
open Go.RowKit (Below)
set_option linter.unusedVariables false
set_option linter.unusedSectionVars false
set_option linter.unusedSimpArgs false
structure Tel (c':Ctx) (N:Nat) (r:Rw):Prop where
 mem:N∈c'.ins
 rho:c'.E0.ρ N=r.b
 eta:c'.E0.η N=capV r.k r.cap
 nc:r.n≤r.cap
 cm:r.cap≤maxLen
 len:r.xs.length=r.n*r.k
section
variable {c:Ctx}{F:List Rw}{st:St}{X:Act→World→Prop}
theorem lookup_mapS{ss:List Nat}{v:AV}{fr:List (Nat×AV)}{s:Nat}{x:AV}(h:(ss.map (fun s=>(s,v))++fr).lookup s=some x):(s∈ss∧x=v)∨fr.lookup s=some x:=by
 induction ss with
 |nil=>exact .inr h
 |cons a ss ih=>
  by_cases e:s=a
  · subst e
    rw[List.map_cons,List.cons_append,lookup_cons_eq] at h
    cases h
    exact .inl ⟨by simp,rfl⟩
  · rw[List.map_cons,List.cons_append,lookup_cons_ne e] at h
    rcases ih h with⟨h1,h2⟩|h1
    · exact .inl ⟨by simp[h1],h2⟩
    · exact .inr h1
theorem LF.openX{gs:Globs}(hG:Glob gs c.E0 c.w0)(ss:List Nat)(N:Nat){r:Rw}{F1 F2:List Rw}(hF':F=F1++r::F2)(hs: ∀s∈ss,st.fr.lookup s=some (.iv (.im r.u)))(hf:st.fresh N=true)(hk0:0<r.k)(hn0:0<r.n)(htk:st.tk= [])(hlive:st.bx.all (fun p=> !p.2.cs.isEmpty)=true)
 (h: ∀c':Ctx,c'.ins=N::keys st.bx→Link c c'→FIn c' (F1++F2)→(∀r'∈F1++F2,c.w0.heap.size≤r'.b)→Tel c' N r→c.w0.heap.size≤r.b→Glob gs c'.E0 c'.w0→L c' ⟨ss.map (fun s=>(s,AV.bsh N 0 r.n r.k))++st.fr,(N,⟨r.t,.r r.xs 0⟩)::st.bx,st.tk⟩ X):LF c F st X:=by
 subst hF'
 rintro a w E hi hF
 have hr:=hF.ok r (by simp)
 obtain⟨arr,ha,hcl,h1,hrep⟩:=hr.at_
 obtain⟨hh,mono⟩:=hi.heap.turn hf r.b (capV r.k r.cap)
 have hlook:st.bx.lookup N=none:=by
  cases hq':st.bx.lookup N with
  |none=>rfl
  |some b1=>exact((St.fresh_bx hf hq').1 rfl).elim
 have hpos:=Nat.mul_pos hn0 hk0
 have hle:r.n*r.k≤arr.length:=Nat.le_trans (Nat.mul_le_mul_right _ hr.nc) hcl
 have hbn:(⟨r.t,.r r.xs 0⟩:Box).cs≠ []:=fun e=>by
  simp only[Box.cs_r,List.append_eq_nil_iff,List.map_eq_nil_iff] at e
  have:=hr.len
  rw[e.1,List.length_nil] at this
  omega
 have hA:=hh.addBox (id:=N) (b:=⟨r.t,.r r.xs 0⟩) hlook (by
  refine⟨by simp only[if_true];exact hr.z,arr,by simp only[if_true];exact ha,?_,h1,fun i x u hx hu=> ?_,fun k' cap' he=> ?_⟩
  · simp only[Box.cs_r,List.length_append,List.length_map,List.length_replicate];rw[hr.len];omega
  · simp only[Box.cs_r,List.replicate_zero,List.append_nil,List.getElem?_map,Option.map_eq_some_iff] at hx
    obtain⟨y,hy,rfl⟩:=hx
    exact .iv (hrep i y u hy hu)
  · simp only[if_true] at he
    obtain⟨rfl,rfl⟩:=capV_inj he
    exact hcl)
  (by
    intro j b' hj hn
    have hjN:j≠N:=fun e=>by subst e;rw[hlook] at hj;cases hj
    simp only[if_neg hjN,if_true]
    exact hF.bx r (by simp) j b' hj hn)
  (by
    intro j t' hj
    rw[htk] at hj;simp at hj)
  (by
    simp only[if_true]
    exact .inl (hF.own r (by simp)))
 have hi2:Inv c ⟨E.φ,fun i=>if i=N then r.b else E.ρ i,fun i=>if i=N then capV r.k r.cap else E.η i⟩ ⟨ss.map (fun s=>(s,AV.bsh N 0 r.n r.k))++st.fr,(N,⟨r.t,.r r.xs 0⟩)::st.bx,st.tk⟩ a w:=by
  refine⟨hi.defers,hi.size,fun s' v hv=> ?_,hA⟩
  rcases lookup_mapS hv with⟨hm,rfl⟩|hv
  · have hu:=(hi.slot s' _ (hs s' hm)).iv_im
    exact .bsh (cap:=r.cap) (o:=0) (by have:=hr.nc;omega) hr.cm (by simp) (fun _=>by simp) (by rw[hu];simp[Rw.u])
  · exact mono v _ (St.fresh_fr hf hv) (hi.slot s' v hv)
 have hlt:=hr.lt
 have hmem: ∀r'∈F1++F2,r'∈F1++r::F2:=fun r' hr'=>by
  rcases List.mem_append.1 hr' with h|h<;>simp[h]
 have hnd:=hF.nd
 rw[List.map_append,List.map_cons] at hnd
 have hne: ∀(id:Nat) (bb:Box),st.bx.lookup id=some bb→bb.cs≠ []:=fun id bb hl=>by
  have:=List.all_eq_true.1 hlive _ (lookup_mem hl)
  simpa using this
 have hliv: ∀(id:Nat) (bb:Box),((N,(⟨r.t,.r r.xs 0⟩:Box))::st.bx).lookup id=some bb→bb.cs≠ []:=fun id bb hl=>by
  by_cases e:id=N
  · subst e;rw[lookup_cons_eq] at hl;cases hl;exact hbn
  · rw[lookup_cons_ne e] at hl;exact hne id bb hl
 have hex: ∀id∈N::keys st.bx,∃bb,((N,(⟨r.t,.r r.xs 0⟩:Box))::st.bx).lookup id=some bb:=fun id hid=>mem_keys (l:=(N,(⟨r.t,.r r.xs 0⟩:Box))::st.bx) hid
 refine h ⟨c.nt,w,⟨E.φ,fun i=>if i=N then r.b else E.ρ i,fun i=>if i=N then capV r.k r.cap else E.η i⟩,N::keys st.bx⟩ rfl ⟨rfl,fun id hid=> ?_,fun id hid=> ?_,fun b' hb'=>hi.heap.old b' hb',hi.heap.kept⟩ ⟨fun r' hr'=>hF.ok r' (hmem r' hr'),fun r' hr'=> ?_,hi.heap.new,by rw[List.map_append];exact(nodup_mid hnd).2⟩ (fun r' hr'=>hF.own r' (hmem r' hr')) ⟨by simp,by simp,by simp,hr.nc,hr.cm,hr.len⟩ (hF.own r (by simp)) (hG.keep hi2) a w ⟨_,hi2.defers,hi2.size,hi2.slot,?_⟩
 · obtain⟨bb,hl⟩:=hex id hid
   exact hA.own id bb hl (hliv id bb hl)
 · obtain⟨e1,e2,e3⟩:=hA.ins id hid
   obtain⟨bb,hl⟩:=Option.isSome_iff_exists.1 e3
   exact⟨keys_mem (l:=(N,(⟨r.t,.r r.xs 0⟩:Box))::st.bx) hl,e1,e2⟩
 · rintro ⟨id,hid,e,_⟩
   obtain⟨bb,hl⟩:=hex id hid
   simp only at e
   by_cases eN:id=N
   · subst eN
     simp only[if_true] at e
     refine(nodup_mid hnd).1 ?_
     rw[e,←List.map_append];exact List.mem_map_of_mem hr'
   · rw[lookup_cons_ne eN] at hl
     rw[if_neg eN] at e
     exact hF.bx r' (hmem r' hr') id bb hl (hne id bb hl) e
 · refine⟨hA.box,hA.tok,hA.bb,hA.tt,hA.bt,fun i bb hl hn=> .inr ⟨i,keys_mem (l:=(N,(⟨r.t,.r r.xs 0⟩:Box))::st.bx) hl,rfl,(hA.box i bb hl hn).1⟩,fun j t g hj=>by rw[htk] at hj;simp at hj,hA.new,fun _ _=>rfl,fun id hid=> ?_,KeptBut.refl _ _⟩
   obtain⟨bb,hl⟩:=hex id hid
   exact⟨rfl,rfl,by rw[hl];rfl⟩
theorem LF.backX{c':Ctx}(N:Nat){r:Rw}{F1 F2:List Rw}{m:Nat}(hk:Link c c')(hF:FIn c' (F1++F2))(ho: ∀r'∈F1++F2,c.w0.heap.size≤r'.b)(ht:Tel c' N r)(hor:c.w0.heap.size≤r.b)(hb:st.bx.lookup N=some ⟨r.t,.r r.xs m⟩)(hk0:0<r.k)(hn0:0<r.n)
 (h:LF c (F1++r::F2) ⟨st.fr,(N,⟨r.t,.l []⟩)::st.bx,st.tk⟩ X):L c' st X:=by
 rintro a w ⟨E,hi⟩
 have hpos:=Nat.mul_pos hn0 hk0
 have hbn:(⟨r.t,.r r.xs m⟩:Box).cs≠ []:=fun e=>by
  simp only[Box.cs_r,List.append_eq_nil_iff,List.map_eq_nil_iff] at e
  have:=ht.len
  rw[e.1,List.length_nil] at this
  omega
 have hi2:=hi.back hk
 have hF2:=hF.now hk ho hi
 obtain⟨e1,e2,_⟩:=hi.heap.ins N ht.mem
 rw[ht.rho] at e1
 rw[ht.eta] at e2
 obtain⟨g0,arr,ha,hl,h1,hrep,hη⟩:=hi2.heap.box N _ hb hbn
 rw[e1] at g0 ha
 have hlt:r.b<w.heap.size:=(Array.getElem?_eq_some_iff.1 ha).1
 refine h a w E ⟨hi2.defers,hi2.size,hi2.slot,hi2.heap.reBox hb hbn (fun h=>(h rfl).elim)⟩ ⟨fun r' hr'=> ?_,fun r' hr'=> ?_,fun r' hr' id b hl' hn=> ?_,?_⟩
 · rcases List.mem_append.1 hr' with h'|h'
   · exact hF2.ok r' (by simp[h'])
   rcases List.mem_cons.1 h' with rfl|h'
   · exact⟨g0,ht.nc,ht.cm,ht.len,arr,ha,hη _ _ e2,h1,fun i x u hx hu=>by
      refine(hrep i (.iv x) u ?_ hu).iv_inv
      simp only[Box.cs_r]
      rw[List.getElem?_append_left (by rw[List.length_map];exact(List.getElem?_eq_some_iff.1 hx).1),List.getElem?_map,hx];rfl⟩
   · exact hF2.ok r' (by simp[h'])
 · rcases List.mem_append.1 hr' with h'|h'
   · exact hF2.own r' (by simp[h'])
   rcases List.mem_cons.1 h' with rfl|h'
   · exact hor
   · exact hF2.own r' (by simp[h'])
 · by_cases eN:id=N
   · subst eN;rw[lookup_cons_eq] at hl';cases hl';exact absurd rfl hn
   rw[lookup_cons_ne eN] at hl'
   rcases List.mem_append.1 hr' with h'|h'
   · exact hF2.bx r' (by simp[h']) id b hl' hn
   rcases List.mem_cons.1 h' with rfl|h'
   · exact fun e=>eN (hi2.heap.bb id N b _ hl' hb hn hbn (by rw[e,e1]))
   · exact hF2.bx r' (by simp[h']) id b hl' hn
 · have hnd:=hF2.nd
   rw[List.map_append,List.nodup_append] at hnd
   obtain⟨n1,n2,n3⟩:=hnd
   have hout: ∀r'∈F1++F2,r'.b≠r.b:=fun r' hr' e=>hF2.bx r' hr' N _ hb hbn (by rw[e1,e])
   rw[List.map_append,List.map_cons,List.nodup_append]
   refine⟨n1,List.nodup_cons.2 ⟨fun hm=> ?_,n2⟩,fun x hx y hy=> ?_⟩
   · obtain⟨r',hr',e⟩:=List.mem_map.1 hm
     exact hout r' (by simp[hr']) e
   · rcases List.mem_cons.1 hy with rfl|hy
     · obtain⟨r',hr',e⟩:=List.mem_map.1 hx
       exact fun e'=>hout r' (by simp[hr']) (e.trans e')
     · exact n3 x hx y hy
theorem FOk.pubAll{a:Act}{w:World}(htk:st.tk= []): ∀{F:List Rw} {E:Env},Inv c E st a w→FOk c E st.bx w F→(∀r∈F,∃es:List (List IV),es.flatten=r.xs∧(∀e∈es,e.length=r.k)∧es.length=r.n)→
 ∃φ:Nat→Nat,Inv c ⟨φ,E.ρ,E.η⟩ st a w∧(∀(x:IV) (u:Value),RepI E.φ w x u→RepI φ w x u)∧ ∀r∈F,∀es:List (List IV),es.flatten=r.xs→(∀e∈es,e.length=r.k)→es.length=r.n→RepI φ w (.sl es) r.u
 | [],E,hi,hF,_=>⟨E.φ,hi,fun _ _ h=>h,fun r hr=>by cases hr⟩
 |r::F,E,hi,hF,hes=>by
  obtain⟨es,h1,h2,h3⟩:=hes r (by simp)
  obtain⟨φ,hi2,hF2,hp,hm⟩:=FOk.pub (F1:= []) (F2:=F) hi hF h1 h2 h3 htk
  obtain⟨φ',hi3,hm3,hp3⟩:=FOk.pubAll (F:=F) htk hi2 hF2 (fun r' hr'=>hes r' (by simp[hr']))
  refine⟨φ',hi3,fun x u hx=>hm3 x u (hm x u hx),fun r' hr' es' g1 g2 g3=> ?_⟩
  rcases List.mem_cons.1 hr' with rfl|hr'
  · have e1:=chunks_flat es' g2
    have e2:=chunks_flat es h2
    rw[g1,g3] at e1
    rw[h1,h3] at e2
    rw[←e1,e2]
    exact hm3 _ _ hp
  · exact hp3 r' hr' es' g1 g2 g3
theorem RepI.cells{φ:Nat→Nat}{w:World}{es es':List (List IV)}{u:Value}(h:RepI φ w (.sl es) u)(hl:es'.length=es.length)
 (hc: ∀(i:Nat) (e e':List IV),es[i]?=some e→es'[i]?=some e'→e'.length=e.length∧ ∀(j:Nat) (x x':IV) (v:Value),e[j]?=some x→e'[j]?=some x'→RepI φ w x v→RepI φ w x' v):RepI φ w (.sl es') u:=by
 cases h with
 |emp hn hm=>
  have:es'= []:=List.length_eq_zero_iff.1 hl
  subst this
  exact .emp hn hm
 | @sl _ b o cap k f hc1 hm hk hφ hcell hrep=>
   have get: ∀(i:Nat) (e':List IV),es'[i]?=some e'→ ∃e,es[i]?=some e:=fun i e' he=>by
    have:=(List.getElem?_eq_some_iff.1 he).1
    exact⟨_,List.getElem?_eq_getElem (by omega)⟩
   have getx: ∀(i:Nat) (e':List IV) (j:Nat) (x':IV),es'[i]?=some e'→e'[j]?=some x'→ ∃e x,es[i]?=some e∧e[j]?=some x:=fun i e' j x' he hx=>by
    obtain⟨e,h1⟩:=get i e' he
    have h2:=(hc i e e' h1 he).1
    have:=(List.getElem?_eq_some_iff.1 hx).1
    exact⟨e,_,h1,List.getElem?_eq_getElem (by omega)⟩
   rw[←hl]
   refine RepI.sl (k:=k) f (by omega) hm (fun i e' he=> ?_) (fun i e' j x' he hx=> ?_) (fun i e' j x' he hx=> ?_) (fun i e' j x' he hx=> ?_)
   · obtain⟨e,h1⟩:=get i e' he
     rw[(hc i e e' h1 he).1];exact hk i e h1
   · obtain⟨e,x,h1,h2⟩:=getx i e' j x' he hx
     exact hφ i e j x h1 h2
   · obtain⟨e,x,h1,h2⟩:=getx i e' j x' he hx
     exact hcell i e j x h1 h2
   · obtain⟨e,x,h1,h2⟩:=getx i e' j x' he hx
     exact(hc i e e' h1 he).2 j x x' _ h2 hx (hrep i e j x h1 h2)
theorem LF.pubB(K j:Nat){ty:TypeId}{cs:List AV}{es es':List (List IV)}(hK:st.bx.lookup K=some ⟨ty,.l cs⟩)(hj:cs[j]?=some (.iv (.sl es)))(htk:st.tk= [])(hes: ∀r∈F,∃es:List (List IV),es.flatten=r.xs∧(∀e∈es,e.length=r.k)∧es.length=r.n)
 (hl:es'.length=es.length) (hc: ∀(i:Nat) (e e':List IV),es[i]?=some e→es'[i]?=some e'→e'.length=e.length∧ ∀(p:Nat) (x x':IV),e[p]?=some x→e'[p]?=some x'→x'=x∨ ∃r∈F,x= .im r.u∧ ∃l:List (List IV),x'= .sl l∧l.flatten=r.xs∧(∀e∈l,e.length=r.k)∧l.length=r.n)
 (h:L c ⟨st.fr,(K,⟨ty,.l (cs.set j (.iv (.sl es')))⟩)::st.bx,st.tk⟩ X):LF c F st X:=by
 rintro a w E hi hF
 obtain⟨φ,hi2,hm,hp⟩:=FOk.pubAll htk hi hF hes
 have hjl:=(List.getElem?_eq_some_iff.1 hj).1
 have hKn:(⟨ty,.l cs⟩:Box).cs≠ []:=fun e=>by
  simp only[Box.cs_l] at e
  rw[e] at hjl;simp at hjl
 refine h a w ⟨_,hi2.defers,hi2.size,hi2.slot,hi2.heap.reBox hK hKn (fun _=> ?_)⟩
 obtain⟨g0,arK,haK,hlK,h1K,hrK,hηK⟩:=hi2.heap.box K _ hK hKn
 refine⟨g0,arK,haK,by simpa using hlK,h1K,fun p x u hx hu=> ?_,hηK⟩
 simp only[Box.cs_l] at hx
 by_cases e:p=j
 · subst e
   rw[List.getElem?_set_self hjl] at hx
   cases hx
   have h0:=(hrK p (.iv (.sl es)) u (by simpa using hj) hu).iv_inv
   refine .iv (RepI.cells h0 hl (fun i e e' he he'=> ?_))
   obtain⟨h1,h2⟩:=hc i e e' he he'
   refine⟨h1,fun q x x' v hx hx' hv=> ?_⟩
   rcases h2 q x x' hx hx' with rfl|⟨r,hr,rfl,l,rfl,l1,l2,l3⟩
   · exact hv
   · rw[hv.im_eq]
     exact hp r hr l l1 l2 l3
 · rw[List.getElem?_set_ne (Ne.symm e)] at hx
   exact hrK p x u (by simpa using hx) hu
end
section
variable {P:Program}{c:Ctx}{st:St}{ops:Array Oper}{Q:Exit→Act→World→Prop}{rest:List Oper}{o:Oper}
theorem Yields.lenIm{t:TypeId}{x:Operand}{b:Option Addr}{n cap:Nat}(ho:o.op= .call {callee:= .builtin .len,args:= #[x],argTypes:= #[t]}){e:TypeId}{k:Nat}(hs:sliceOk P t e k=true)(hx:st.ev x= .iv (.im (.slice b n cap))):Yields P c st o (aI n):=
 .im rfl fun E a w hi=>by
   obtain⟨hu,_⟩:=sliceOk_run hs
   have h:=hi.ev x;rw[hx] at h
   have hq:=h.iv_im
   simp[execOp,ho,resolve,invoke,builtin,hq,Builtin.len_,run_underlying hu,goInt]
theorem Does.storeRF{t:TypeId}{x y:Operand}{id off k kk mm i f:Nat}{ty:TypeId}{es:List (List IV)}{e0 e:List IV}{v:AV}{agg:Bool}(ho:o.op= .store t x y)(ht:varOk P t agg kk=true)(hx:st.ev x= .ptr id off)(hb:st.bx.lookup id=some ⟨ty,.r es.flatten mm⟩)
 (hy:st.ev y=v) (hv:v.lays=true) (hc:v.cells=e.map .iv) (he:e.length=kk) (hk: ∀e∈es,e.length=k) (hoff:off=i*k+f) (h0:es[i]?=some e0) (hf:f+kk≤k):Does P c st o ((id,⟨ty,.r (es.set i (e0.take f++(e++e0.drop (f+kk)))).flatten mm⟩)::st.bx) st.tk:=by
 have hl:=flatten_len es hk
 have hi:i<es.length:=(List.getElem?_eq_some_iff.1 h0).1
 have hk0:e0.length=k:=hk e0 (List.mem_of_getElem? h0)
 have h1:(i+1)*k≤es.length*k:=Nat.mul_le_mul_right k hi
 rw[Nat.add_mul] at h1
 have h:=Does.store (c:=c) ho ht hx hb hy hv (by rw[hc,List.length_map,he]) (by simp only[Box.cs_r,List.length_append,List.length_map,List.length_replicate,hl,hoff];omega)
 refine h.recell rfl (Subs.of_eq ?_)
 have hsp:es=es.take i++e0::es.drop (i+1):=by
  rw[←(List.getElem?_eq_some_iff.1 h0).2,←List.drop_eq_getElem_cons hi,List.take_append_drop]
 have hti:(es.take i).length=i:=by rw[List.length_take];omega
 have htl:((es.take i).flatten.map AV.iv).length=i*k:=by
  rw[List.length_map,flatten_len (es.take i) (fun e he=>hk e (List.mem_of_mem_take he)),hti]
 have hcs:es.flatten.map AV.iv++List.replicate mm AV.any=(es.take i).flatten.map AV.iv++(e0.map AV.iv++((es.drop (i+1)).flatten.map AV.iv++List.replicate mm AV.any)):=by
  conv=>lhs;rw[hsp]
  simp only[List.flatten_append,List.flatten_cons,List.map_append,List.append_assoc]
 simp only[Box.cs_l,Box.cs_r,hc,hoff]
 rw[hcs,List.set_eq_take_append_cons_drop,if_pos hi]
 unfold setA
 rw[List.length_map,he,←htl]
 rw[List.take_length_add_append,Nat.add_assoc,List.drop_length_add_append,List.take_append_of_le_length (by rw[List.length_map];omega),List.drop_append_of_le_length (by rw[List.length_map];omega)]
 simp only[List.flatten_append,List.flatten_cons,List.map_append,List.append_assoc,List.map_take,List.map_drop]
end
section
variable {P:Program}{c:Ctx}{fr:List (Nat×AV)}{bx:List (Nat×Box)}{tk:List (Nat×Tok)}{ops:Array Oper}{Q:Exit→Act→World→Prop}{rest:List Oper}
 {d:Nat} {ty:TypeId} {pos:String} {aft:Array Edge}
theorem v_lenIm{x:Operand}{t e:TypeId}{k:Nat}{b:Option Addr}{n cap:Nat}(hx:St.ev ⟨fr,bx,tk⟩ x= .iv (.im (.slice b n cap)))[hs:SliceTy P t e k]:VV P c ⟨fr,bx,tk⟩ ⟨some d,.call {callee:= .builtin .len,args:= #[x],argTypes:= #[t]},ty,pos,aft,none⟩ (aI n) []:=
 .mk fun st' kE kL=> .lenIm rfl hs.h ((kE x (by simp[Op.operands,Call.operands])).trans hx)
theorem s_storeRF{t:TypeId}{x y:Operand}{id off k kk mm i f:Nat}{bt:TypeId}{es er:List (List IV)}{e0 e:List IV}{v:AV}{agg:Bool}(hx:St.ev ⟨fr,bx,tk⟩ x= .ptr id off)(hy:St.ev ⟨fr,bx,tk⟩ y=v)[ht:VarTy P t agg kk](hb:bx.lookup id=some ⟨bt,.r es.flatten mm⟩)
 (hv:v.lays=true) (hc:v.cells=e.map AV.iv) (he:e.length=kk) (hk: ∀e∈es,e.length=k) (ho:off=i*k+f) (h0:es[i]?=some e0) (hf:f+kk≤k) (her:es.set i (e0.take f++(e++e0.drop (f+kk)))=er)
 (h:LW P c ⟨fr,(id,⟨bt,.r er.flatten mm⟩)::bx,tk⟩ ops Q rest):LW P c ⟨fr,bx,tk⟩ ops Q (⟨none,.store t x y,ty,pos,aft,none⟩::rest):=by
 subst her
 exact .mk (L.does (st:=⟨fr,bx,tk⟩) rfl rfl (.storeRF rfl ht.h hx hb hy hv hc he hk ho h0 hf) (LW.out h))
end
end Go.Abs
