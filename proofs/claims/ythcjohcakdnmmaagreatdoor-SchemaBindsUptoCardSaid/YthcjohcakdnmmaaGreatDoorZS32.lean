/- Several texts in one, each with its own sentence ahead of it. Conditions: each one says its own. -/
import Derived.Test.YthcjohcakdnmmaaGreatDoorZS16
import Derived.Test.YthcjohcakdnmmaaGreatDoorZS30
import Derived.Test.YthcjohcakdnmmaaGreatDoorZS31
set_option linter.all false
namespace Go.Abs
set_option linter.unusedVariables false
section
variable {P:Program}{c:Ctx}{st:St}{ops:Array Oper}{Q:Exit→Act→World→Prop}{rest:List Oper}{o:Oper}
theorem L.callXG{gs:Globs}{f:FuncId}{args:Array Operand}{ats:Array TypeId}{avs:List AV}{bxi:List (Nat×Box)}{res:AV}{d:Nat}(hg:o.guard=none)(hd:o.dst=some d)(hlt:Nat.ble (d+1) c.nt=true)(hG:Glob gs c.E0 c.w0)
 (ho:o.op= .call {callee:= .value (.func f),args:=args,argTypes:=ats}) (hok:callOk P f=true) (hc:CallG gs P f avs bxi bxi [] res) (ha:Subs (args.toList.map st.ev) avs)
 (hbi:WkB st.bx bxi) (hmb:bxi.all (fun p=> !p.2.cs.isEmpty && AV.mentsIn (keys bxi) p.2.cs)=true) (hmr:AV.mentIn (keys bxi) res=true)
 (h:L c ⟨(d,res)::st.fr,bxi++st.bx,st.tk⟩ (wpList P ops Q rest)):L c st (wpList P ops Q (o::rest)):=
 L.enterG [] hg hd hlt hG (fun E a w hi=>by
   refine⟨args.toList.map a.eval,?_,(hi.evs args).sub ha⟩
   have hargs:(args.toList.map a.eval).toArray=args.map a.eval:=by apply Array.ext';simp
   rw[hargs]
   simp[execOp,ho,resolve,Act.eval,Deferred.ofValue,invoke,run_callOk hok]) hc hbi rfl (by
    simp only[boOk,Bool.and_eq_true,List.all_eq_true] at hmb⊢
    exact⟨fun p hp=>(hmb p hp).1,fun id hid=>by simpa using hid⟩) rfl (by
    simp only[Bool.and_eq_true,List.all_eq_true] at hmb⊢
    exact fun p hp=>(hmb p hp).2) hmr h
theorem s_callX{fr:List (Nat×AV)}{bx:List (Nat×Box)}{tk:List (Nat×Tok)}{d:Nat}{ty:TypeId}{pos:String}{aft:Array Edge}{gs:Globs}{f:FuncId}{args:Array Operand}{ats:Array TypeId}{avs:List AV}{bxi:List (Nat×Box)}{res:AV}(hlt:Nat.ble (d+1) c.nt=true)(hG:Glob gs c.E0 c.w0)[hok:CallTy P f]
 (hc:CallG gs P f avs bxi bxi [] res) (ha:AV.pub.pubs (args.toList.map (St.ev ⟨fr,bx,tk⟩))=avs) (hbi:WkB bx bxi) (hmb:bxi.all (fun p=> !p.2.cs.isEmpty && AV.mentsIn (keys bxi) p.2.cs)=true) (hmr:AV.mentIn (keys bxi) res=true)
 (h:LW P c ⟨(d,res)::fr,bxi++bx,tk⟩ ops Q rest):
 LW P c ⟨fr,bx,tk⟩ ops Q (⟨some d,.call {callee:= .value (.func f),args:=args,argTypes:=ats},ty,pos,aft,none⟩::rest):=
 .mk (L.callXG (st:=⟨fr,bx,tk⟩) rfl rfl hlt hG rfl hok.h hc (.of_pub ha) hbi hmb hmr (LW.out h))
end
end Go.Abs
namespace Go.Proofs.YthcjohcakdnmmaaGreatDoor
open Go.Abs
set_option maxRecDepth 100000
attribute [local irreducible] L Code.wp bodyPost Exit.then Exit.inBlock
set_option linter.unusedVariables false
set_option linter.unusedSimpArgs false
theorem with3_any(s:Stm)(a:Str)(x:IV):CallA Tryz.prog 51 [.agg [.iv (S a),.iv x],.ptr 1000 0] [(1000,⟨36,.l (s.cs.map .iv)⟩)] [(1000,⟨36,.l (s.cs.map .iv)⟩)] [] (aB (a==s.name)):=by
 refine CallA.intro _ Tryz.func51 rfl Tryz.ntmps51 rfl (fun w0 E0=> ?_)
 (repeat' (first|refine wk1 ?_|refine wk2 (fun hb hp=> ?_) (fun hb hp=> ?_)|fail))
 all_goals(apply L.ends;exact rfl;exact rfl;exact Sub.refl _;exact Wk.mk' keys_some .nil (.cons rfl rfl (Subs.refl _) .nil) .nil)
theorem with4_any(s:Stm)(a b:Str)(x:IV):CallA Tryz.prog 53 [.agg [.iv (S a),.iv (S b),.iv x],.ptr 1000 0] [(1000,⟨36,.l (s.cs.map .iv)⟩)] [(1000,⟨36,.l (s.cs.map .iv)⟩)] [] (aB (b==s.name)):=by
 refine CallA.intro _ Tryz.func53 rfl Tryz.ntmps53 rfl (fun w0 E0=> ?_)
 (repeat' (first|refine wk1 ?_|refine wk2 (fun hb hp=> ?_) (fun hb hp=> ?_)|fail))
 all_goals(apply L.ends;exact rfl;exact rfl;exact Sub.refl _;exact Wk.mk' keys_some .nil (.cons rfl rfl (Subs.refl _) .nil) .nil)
set_option maxHeartbeats 4000000 in
theorem ixT_any{gs:Globs}{f:FuncId}{b:Box}[CallTy Tryz.prog f](p:Tab→Bool)(l:List Tab)(hne:l≠ [])(hl:l.length≤140737488355328)(hmb: [(1001,b)].all (fun p=> !p.2.cs.isEmpty && AV.mentsIn (keys [(1001,b)]) p.2.cs)=true)
 (hc: ∀y∈l,CallG gs Tryz.prog f ([.agg (y.c.map .iv)] ++ [.ptr 1001 0]) [(1001,b)] [(1001,b)] [] (aB (p y))):
 CallG gs Tryz.prog 74 [.bsh 1000 0 l.length 2,.fn f [.ptr 1001 0]] [(1000,⟨47,.r (l.map Tab.c).flatten 0⟩),(1001,b)] [(1000,⟨47,.r (l.map Tab.c).flatten 0⟩),(1001,b)] [] (aI (idxM p l)):=by
 refine CallG.intro _ Tryz.func74 rfl Tryz.ntmps74 rfl (fun w0 E0 hG=> ?_)
 have hk: ∀e∈l.map Tab.c,e.length=2:=by intro e he;obtain⟨t,_,rfl⟩:=List.mem_map.1 he;rfl
 (repeat' (first|refine wk1 ?_|refine wk2 (fun hb hp=> ?_) (fun hb hp=> ?_)|fail))
 refine L.loopP (ι:=Nat) (fun i=>⟨[(8,aI (i:Int)),(7,aI (l.length:Int)),(0,.bsh 1000 0 l.length 2),(1,.fn f [.ptr 1001 0])],[(1000,⟨47,.r (l.map Tab.c).flatten 0⟩),(1001,b)],[]⟩) (fun i=>l.length - i) (fun i=> ∀y∈l.take i,p y=false) (i0:=0) ?_ (by simp) ?_
 · exact Wk.mkX keys_some (.cons rfl (Sub.refl _) (.cons rfl (Sub.refl _) (.cons rfl (Sub.refl _) (.cons rfl (Sub.refl _) .nil)))) (fun s v h=>h) .nil
 intro i hI K hK
 cases hx:l[i]? with
 |none=>
  have hlt:decide ((i:Int)<(l.length:Int))=false:=by have:=List.getElem?_eq_none_iff.1 hx;exact decide_eq_false (by omega)
  rw[idx_no (take_full hI hx)]
  (repeat' (first|refine wk1 ?_|refine wk2 (fun hb hp=> ?_) (fun hb hp=> ?_)|fail))
  apply L.ends;exact rfl;exact rfl;exact Sub.refl _
  exact Wk.mkX keys_some .nil (fun s v h=>h) .nil
 |some y=>
  have hlt':=(List.getElem?_eq_some_iff.1 hx).1
  have hlt:decide ((i:Int)<(l.length:Int))=true:=decide_eq_true (by omega)
  have hcz:=hc y (List.mem_of_getElem? hx)
  have g1:((i:Nat):Int)<(l.length:Int):=by omega
  have g4:(0+((i:Nat):Int).toNat)*2=i*2:=by rw[Int.toNat_natCast,Nat.zero_add]
  have g5:((Box.mk 47 (.r (l.map Tab.c).flatten 0)).cs.drop (i*2)).take 2=y.c.map .iv:=rowAt hk (by rw[List.getElem?_map,hx];rfl)
  cases hq:p y with
  |true=>
   rw[hq] at hcz
   rw[idx_at hI hx hq]
   (repeat' (first|(apply s_callFn (f:=f) (bxi:= [(1001,b)]);exact rfl;exact hG;exact rfl;exact hcz;exact rfl;exact .cons rfl rfl (Subs.refl _) .nil;exact hmb;exact rfl)|(refine LW.is ?_;first|(apply s_vr;exact rfl;apply v_indexBsh;exact rfl;exact rfl;omega;exact g1;exact g4)|(apply s_vr;exact rfl;apply v_loadAP;exact rfl;exact rfl;exact g5;exact rfl))|(refine DR.is ?_;first|(apply d_vr;exact rfl;apply v_indexBsh;exact rfl;exact rfl;omega;exact g1;exact g4)|(apply d_vr;exact rfl;apply v_loadAP;exact rfl;exact rfl;exact g5;exact rfl))|refine wk1 ?_|refine wk2 (fun hb hp=> ?_) (fun hb hp=> ?_)|fail))
   apply L.ends;exact rfl;exact rfl;exact Sub.refl _
   exact Wk.mk' keys_some .nil (.cons rfl rfl (Subs.refl _) (.cons rfl rfl (Subs.refl _) .nil)) .nil
  |false=>
   rw[hq] at hcz
   (repeat' (first|(apply s_callFn (f:=f) (bxi:= [(1001,b)]);exact rfl;exact hG;exact rfl;exact hcz;exact rfl;exact .cons rfl rfl (Subs.refl _) .nil;exact hmb;exact rfl)|(refine LW.is ?_;first|(apply s_vr;exact rfl;apply v_indexBsh;exact rfl;exact rfl;omega;exact g1;exact g4)|(apply s_vr;exact rfl;apply v_loadAP;exact rfl;exact rfl;exact g5;exact rfl))|(refine DR.is ?_;first|(apply d_vr;exact rfl;apply v_indexBsh;exact rfl;exact rfl;omega;exact g1;exact g4)|(apply d_vr;exact rfl;apply v_loadAP;exact rfl;exact rfl;exact g5;exact rfl))|refine wk1 ?_|refine wk2 (fun hb hp=> ?_) (fun hb hp=> ?_)|fail))
   refine hK _ (i+1) (take_snoc hI hx hq) (by omega) ?_
   exact Wk.mk' keys_some (.cons rfl (Sub.refl _) (.cons rfl (Sub.refl _) (.cons rfl (Sub.refl _) (.cons rfl (Sub.refl _) .nil)))) (.cons rfl rfl (Subs.refl _) (.cons rfl rfl (Subs.refl _) .nil)) .nil
set_option maxHeartbeats 4000000 in
theorem ixX_any{gs:Globs}{f:FuncId}{b:Box}[CallTy Tryz.prog f](p:Idx→Bool)(l:List Idx)(hne:l≠ [])(hl:l.length≤140737488355328)(hmb: [(1001,b)].all (fun p=> !p.2.cs.isEmpty && AV.mentsIn (keys [(1001,b)]) p.2.cs)=true)
 (hc: ∀y∈l,CallG gs Tryz.prog f ([.agg (y.c.map .iv)] ++ [.ptr 1001 0]) [(1001,b)] [(1001,b)] [] (aB (p y))):
 CallG gs Tryz.prog 59 [.bsh 1000 0 l.length 3,.fn f [.ptr 1001 0]] [(1000,⟨64,.r (l.map Idx.c).flatten 0⟩),(1001,b)] [(1000,⟨64,.r (l.map Idx.c).flatten 0⟩),(1001,b)] [] (aI (idxM p l)):=by
 refine CallG.intro _ Tryz.func59 rfl Tryz.ntmps59 rfl (fun w0 E0 hG=> ?_)
 have hk: ∀e∈l.map Idx.c,e.length=3:=by intro e he;obtain⟨t,_,rfl⟩:=List.mem_map.1 he;rfl
 (repeat' (first|refine wk1 ?_|refine wk2 (fun hb hp=> ?_) (fun hb hp=> ?_)|fail))
 refine L.loopP (ι:=Nat) (fun i=>⟨[(8,aI (i:Int)),(7,aI (l.length:Int)),(0,.bsh 1000 0 l.length 3),(1,.fn f [.ptr 1001 0])],[(1000,⟨64,.r (l.map Idx.c).flatten 0⟩),(1001,b)],[]⟩) (fun i=>l.length - i) (fun i=> ∀y∈l.take i,p y=false) (i0:=0) ?_ (by simp) ?_
 · exact Wk.mkX keys_some (.cons rfl (Sub.refl _) (.cons rfl (Sub.refl _) (.cons rfl (Sub.refl _) (.cons rfl (Sub.refl _) .nil)))) (fun s v h=>h) .nil
 intro i hI K hK
 cases hx:l[i]? with
 |none=>
  have hlt:decide ((i:Int)<(l.length:Int))=false:=by have:=List.getElem?_eq_none_iff.1 hx;exact decide_eq_false (by omega)
  rw[idx_no (take_full hI hx)]
  (repeat' (first|refine wk1 ?_|refine wk2 (fun hb hp=> ?_) (fun hb hp=> ?_)|fail))
  apply L.ends;exact rfl;exact rfl;exact Sub.refl _
  exact Wk.mkX keys_some .nil (fun s v h=>h) .nil
 |some y=>
  have hlt':=(List.getElem?_eq_some_iff.1 hx).1
  have hlt:decide ((i:Int)<(l.length:Int))=true:=decide_eq_true (by omega)
  have hcz:=hc y (List.mem_of_getElem? hx)
  have g1:((i:Nat):Int)<(l.length:Int):=by omega
  have g4:(0+((i:Nat):Int).toNat)*3=i*3:=by rw[Int.toNat_natCast,Nat.zero_add]
  have g5:((Box.mk 64 (.r (l.map Idx.c).flatten 0)).cs.drop (i*3)).take 3=y.c.map .iv:=rowAt hk (by rw[List.getElem?_map,hx];rfl)
  cases hq:p y with
  |true=>
   rw[hq] at hcz
   rw[idx_at hI hx hq]
   (repeat' (first|(apply s_callFn (f:=f) (bxi:= [(1001,b)]);exact rfl;exact hG;exact rfl;exact hcz;exact rfl;exact .cons rfl rfl (Subs.refl _) .nil;exact hmb;exact rfl)|(refine LW.is ?_;first|(apply s_vr;exact rfl;apply v_indexBsh;exact rfl;exact rfl;omega;exact g1;exact g4)|(apply s_vr;exact rfl;apply v_loadAP;exact rfl;exact rfl;exact g5;exact rfl))|(refine DR.is ?_;first|(apply d_vr;exact rfl;apply v_indexBsh;exact rfl;exact rfl;omega;exact g1;exact g4)|(apply d_vr;exact rfl;apply v_loadAP;exact rfl;exact rfl;exact g5;exact rfl))|refine wk1 ?_|refine wk2 (fun hb hp=> ?_) (fun hb hp=> ?_)|fail))
   apply L.ends;exact rfl;exact rfl;exact Sub.refl _
   exact Wk.mk' keys_some .nil (.cons rfl rfl (Subs.refl _) (.cons rfl rfl (Subs.refl _) .nil)) .nil
  |false=>
   rw[hq] at hcz
   (repeat' (first|(apply s_callFn (f:=f) (bxi:= [(1001,b)]);exact rfl;exact hG;exact rfl;exact hcz;exact rfl;exact .cons rfl rfl (Subs.refl _) .nil;exact hmb;exact rfl)|(refine LW.is ?_;first|(apply s_vr;exact rfl;apply v_indexBsh;exact rfl;exact rfl;omega;exact g1;exact g4)|(apply s_vr;exact rfl;apply v_loadAP;exact rfl;exact rfl;exact g5;exact rfl))|(refine DR.is ?_;first|(apply d_vr;exact rfl;apply v_indexBsh;exact rfl;exact rfl;omega;exact g1;exact g4)|(apply d_vr;exact rfl;apply v_loadAP;exact rfl;exact rfl;exact g5;exact rfl))|refine wk1 ?_|refine wk2 (fun hb hp=> ?_) (fun hb hp=> ?_)|fail))
   refine hK _ (i+1) (take_snoc hI hx hq) (by omega) ?_
   exact Wk.mk' keys_some (.cons rfl (Sub.refl _) (.cons rfl (Sub.refl _) (.cons rfl (Sub.refl _) (.cons rfl (Sub.refl _) .nil)))) (.cons rfl rfl (Subs.refl _) (.cons rfl rfl (Subs.refl _) .nil)) .nil
end Go.Proofs.YthcjohcakdnmmaaGreatDoor
namespace Go.Proofs.YthcjohcakdnmmaaGreatDoor
open Go.Abs
set_option maxRecDepth 100000
attribute [local irreducible] L Code.wp bodyPost Exit.then Exit.inBlock
set_option linter.unusedVariables false
set_option linter.unusedSimpArgs false
theorem rowAtM{k i mm:Nat}{es:List (List IV)}{e:List IV}(hk: ∀e∈es,e.length=k)(h:es[i]?=some e){t:TypeId}:((Box.mk t (.r es.flatten mm)).cs.drop (i*k)).take k=e.map .iv:=by
 have h1:=(List.getElem?_eq_some_iff.1 h).1
 have hfl:=flatten_len es hk
 have he:e.length=k:=hk e (List.mem_of_getElem? h)
 have h2:(i+1)*k≤es.length*k:=Nat.mul_le_mul_right k h1
 rw[Nat.add_mul,Nat.one_mul] at h2
 rw[Box.cs_r,List.drop_append_of_le_length (by rw[List.length_map];omega),List.take_append_of_le_length (by rw[List.length_drop,List.length_map];omega),←List.map_drop,←List.map_take,flat_pick es i e hk h]
structure DI {α:Type} (p:α→Bool) (ts cur:List α) (i j:Nat):Prop where
 l:cur.length=ts.length
 a:cur.take i=(ts.take j).filter (fun x=> !p x)
 d:cur.drop j=ts.drop j
 lt:i<j
 le:j≤ts.length
theorem DI.at{α:Type}{p:α→Bool}{ts cur:List α}{i j:Nat}(h:DI p ts cur i j):cur[j]?=ts[j]?:=by
 have:=congrArg (fun l=>l[0]?) h.d
 simpa using this
theorem DI.keep{α:Type}{p:α→Bool}{ts cur:List α}{i j:Nat}{x:α}(h:DI p ts cur i j)(hx:ts[j]?=some x)(hp:p x=false):DI p ts (cur.set i x) (i+1) (j+1):=by
 have hj:=(List.getElem?_eq_some_iff.1 hx).1
 have hl:=h.l;have hlt:=h.lt
 refine⟨by rw[List.length_set];exact hl,?_,?_,by omega,by omega⟩
 · rw[List.take_add_one (l:=ts),hx,List.filter_append,←h.a,List.take_add_one,List.take_set_of_le (Nat.le_refl _),List.getElem?_set_self (by omega)]
   simp[hp]
 · rw[List.drop_set_of_lt (by omega),←List.drop_drop,h.d,List.drop_drop]
theorem DI.drop{α:Type}{p:α→Bool}{ts cur:List α}{i j:Nat}{x:α}(h:DI p ts cur i j)(hx:ts[j]?=some x)(hp:p x=true):DI p ts cur i (j+1):=by
 have hj:=(List.getElem?_eq_some_iff.1 hx).1
 have hlt:=h.lt
 refine⟨h.l,?_,?_,by omega,by omega⟩
 · rw[List.take_add_one (l:=ts),hx,List.filter_append,←h.a];simp[hp]
 · rw[←List.drop_drop,h.d,List.drop_drop]
theorem DI.first{α:Type}{p:α→Bool}{ts:List α}{i:Nat}{x:α}(h: ∀y∈ts.take i,p y=false)(hx:ts[i]?=some x)(hp:p x=true):DI p ts ts i (i+1):=by
 have hj:=(List.getElem?_eq_some_iff.1 hx).1
 refine⟨rfl,?_,rfl,by omega,by omega⟩
 rw[List.take_add_one,hx,List.filter_append,List.filter_eq_self.2 (fun y hy=>by rw[h y hy];rfl)]
 simp[hp]
theorem DI.full{α:Type}{p:α→Bool}{ts cur:List α}{i j:Nat}(h:DI p ts cur i j)(hx:ts[j]?=none):cur.take i=ts.filter (fun x=> !p x)∧(ts.filter (fun x=> !p x)).length=i:=by
 have e:cur.take i=ts.filter (fun x=> !p x):=by rw[h.a,List.take_of_length_le (List.getElem?_eq_none_iff.1 hx)]
 refine⟨e,?_⟩
 rw[←e,List.length_take,h.l];have:=h.lt;have:=h.le;omega
set_option maxHeartbeats 8000000 in
theorem dfT_some{gs:Globs}{f:FuncId}{s:Stm}[CallTy Tryz.prog f](p:Tab→Bool)(l:List Tab)(hne:l≠ [])(hl:l.length≤140737488355328)(hmb: [(1001,(Box.mk 36 (.l (s.cs.map .iv))))].all (fun p=> !p.2.cs.isEmpty && AV.mentsIn (keys [(1001,(Box.mk 36 (.l (s.cs.map .iv))))]) p.2.cs)=true)
 (hmx:([(1000,⟨47,.r (l.map Tab.c).flatten 0⟩),(1001,(Box.mk 36 (.l (s.cs.map .iv))))]:List (Nat×Box)).all (fun p=> !p.2.cs.isEmpty && AV.mentsIn (keys [(1000,⟨47,.r (l.map Tab.c).flatten 0⟩),(1001,(Box.mk 36 (.l (s.cs.map .iv))))]) p.2.cs)=true)
 (hc: ∀y∈l,CallG gs Tryz.prog f ([.agg [.iv (S y.n),.iv (.sl (y.cols.map Col.c))]] ++ [.ptr 1001 0]) [(1001,(Box.mk 36 (.l (s.cs.map .iv))))] [(1001,(Box.mk 36 (.l (s.cs.map .iv))))] [] (aB (p y))) (hnk:l.filter (fun x=> !p x)≠ [])
 (i0:Nat) (x0:Tab) (hbef: ∀y∈l.take i0,p y=false) (hx0:l[i0]?=some x0) (hp0:p x0=true):
 CallG gs Tryz.prog 50 [.bsh 1000 0 l.length 2,.fn f [.ptr 1001 0]] [(1000,⟨47,.r (l.map Tab.c).flatten 0⟩),(1001,(Box.mk 36 (.l (s.cs.map .iv))))] [(1002,⟨47,.r ((l.filter (fun x=> !p x)).map Tab.c).flatten 0⟩),(1000,⟨47,.l []⟩),(1001,(Box.mk 36 (.l (s.cs.map .iv))))] [] (.bsh 1002 0 (l.filter (fun x=> !p x)).length 2):=by
 refine CallG.intro _ Tryz.func50 rfl Tryz.ntmps50 rfl (fun w0 E0 hG=> ?_)
 have hk: ∀e∈l.map Tab.c,e.length=2:=by intro e he;obtain⟨t,_,rfl⟩:=List.mem_map.1 he;rfl
 have hfl:(l.map Tab.c).flatten.length=l.length*2:=by rw[flatten_len _ hk,List.length_map]
 have hfne:(l.map Tab.c).flatten≠ []:=flat_ne hk (by decide) (by simpa using hne)
 have kx:=ixT_any (gs:=gs) (f:=f) (b:=(Box.mk 36 (.l (s.cs.map .iv)))) p l hne hl hmb hc
 rw[idx_at hbef hx0 hp0] at kx
 have hi0:=(List.getElem?_eq_some_iff.1 hx0).1
 have he:((i0:Int)== -1)=false:=beq_eq_false_iff_ne.2 (by omega)
 (repeat' (first|(apply s_callX (bxi:= [(1000,⟨47,.r (l.map Tab.c).flatten 0⟩),(1001,(Box.mk 36 (.l (s.cs.map .iv))))]);exact rfl;exact hG;exact kx;exact rfl;exact .cons rfl rfl (Subs.refl _) (.cons rfl rfl (Subs.refl _) .nil);exact hmx;exact rfl)|refine wk1 ?_|refine wk2 (fun hb hp=> ?_) (fun hb hp=> ?_)|fail))
 refine L.openRow 0 rfl rfl (.inl hfne) (by omega) (fun cap hc1 hc2=> ?_)
 obtain⟨mm,hmm⟩: ∃mm,mm=cap*2 - (l.map Tab.c).flatten.length:=⟨_,rfl⟩
 rw[←hmm]
 rw[hfl] at hmm
 refine L.loopP (ι:=List Tab×Nat×Nat) (fun x=>⟨[(5,aI (x.2.1:Int)),(6,aI (x.2.2:Int)),(0,.bsl 1000 0 l.length cap),(1,.fn f [.ptr 1001 0])],[(1000,⟨47,.r (x.1.map Tab.c).flatten mm⟩),(1001,(Box.mk 36 (.l (s.cs.map .iv))))],[]⟩) (fun x=>l.length - x.2.2) (fun x=>DI p l x.1 x.2.1 x.2.2) (i0:=(l,i0,i0+1)) ?_ (.first hbef hx0 hp0) ?_
 · exact Wk.mk' (by intro id h;simp[keys] at h;rcases h with rfl|rfl<;>rfl) (.cons rfl (Sub.refl _) (.cons rfl (Sub.of_eq rfl) (.cons rfl (Sub.refl _) (.cons rfl (Sub.refl _) .nil)))) (.cons rfl rfl (Subs.refl _) (.cons rfl rfl (Subs.refl _) .nil)) .nil
 rintro ⟨cur,i,j⟩ hD K hK
 dsimp only at hD hK⊢
 have hlt0:=hD.lt
 have hle0:=hD.le
 have hcu:=hD.l
 have hkc: ∀e∈cur.map Tab.c,e.length=2:=by intro e he;obtain⟨t,_,rfl⟩:=List.mem_map.1 he;rfl
 have hlc:(cur.map Tab.c).length=l.length:=by rw[List.length_map,hcu]
 have hic:i<(cur.map Tab.c).length:=by rw[hlc];omega
 cases hx:l[j]? with
 |none=>
  obtain⟨hcl0,hci⟩:=hD.full hx
  have hcl:(cur.map Tab.c).take i=(l.filter (fun x=> !p x)).map Tab.c:=by rw[←List.map_take,hcl0]
  have hj:=List.getElem?_eq_none_iff.1 hx
  have hlt:decide ((j:Int)<(l.length:Int))=false:=decide_eq_false (by omega)
  generalize hG2:l.filter (fun x=> !p x)=kept at*
  (repeat' (first|(refine LW.is ?_;first|(apply s_vr;exact rfl;apply v_slBl (off':=i*2) (n':=l.length - i) (cap':=cap - i);exact rfl;exact rfl;omega;omega;omega;omega;omega)|(apply s_clearR (j:=i);exact rfl;exact rfl;exact hkc;exact rfl;(rw[hlc];omega);omega;(rw[hlc];omega);exact hcl;exact rfl)|(apply s_vr;exact rfl;apply v_slBh (n':=i);exact rfl;exact rfl;omega;omega;omega))|(refine DR.is ?_;first|(apply d_vr;exact rfl;apply v_slBl (off':=i*2) (n':=l.length - i) (cap':=cap - i);exact rfl;exact rfl;omega;omega;omega;omega;omega)|(apply d_clearR (j:=i);exact rfl;exact rfl;exact hkc;exact rfl;(rw[hlc];omega);omega;(rw[hlc];omega);exact hcl;exact rfl)|(apply d_vr;exact rfl;apply v_slBh (n':=i);exact rfl;exact rfl;omega;omega;omega))|refine wk1 ?_|refine wk2 (fun hb hp=> ?_) (fun hb hp=> ?_)|fail))
  have hpos:0<i:=by rw[←hci];exact List.length_pos_iff.2 hnk
  have hkk: ∀e∈kept.map Tab.c,e.length=2:=by intro e he;obtain⟨t,_,rfl⟩:=List.mem_map.1 he;rfl
  all_goals(apply L.renameR 4 1002 (k:=2) (n:=i);exact rfl;exact rfl;exact rfl;exact hkk;(rw[List.length_map];exact hci);omega;(rw[hlc];omega))
  all_goals(apply L.ends;exact rfl;exact rfl;exact Sub.of_eq (congrArg (fun z=>AV.bsh 1002 0 z 2) hci.symm);exact Wk.mk' (by intro id h;simp[keys] at h;rcases h with rfl|rfl<;>rfl) .nil (.cons rfl rfl (Subs.refl _) (.cons rfl rfl (Subs.refl _) (.cons rfl rfl (Subs.refl _) .nil))) .nil)
 |some y=>
  have hlt':=(List.getElem?_eq_some_iff.1 hx).1
  have hlt:decide ((j:Int)<(l.length:Int))=true:=decide_eq_true (by omega)
  have hcz:=hc y (List.mem_of_getElem? hx)
  have g1:((j:Nat):Int)<(l.length:Int):=by omega
  have g4:0+((j:Nat):Int).toNat*2=j*2:=by rw[Int.toNat_natCast,Nat.zero_add]
  have h1:((i:Nat):Int)<(l.length:Int):=by omega
  have h4:0+((i:Nat):Int).toNat*2=i*2:=by rw[Int.toNat_natCast,Nat.zero_add]
  have g5:((Box.mk 47 (.r (cur.map Tab.c).flatten mm)).cs.drop (j*2)).take 2= [.iv (S y.n),.iv (.sl (y.cols.map Col.c))]:=rowAtM hkc (by rw[List.getElem?_map,hD.at,hx];rfl)
  cases hq:p y with
  |true=>
   rw[hq] at hcz
   (repeat' (first|(apply s_callFn (f:=f) (bxi:= [(1001,(Box.mk 36 (.l (s.cs.map .iv))))]);exact rfl;exact hG;exact rfl;exact hcz;exact rfl;exact .cons rfl rfl (Subs.refl _) .nil;exact hmb;exact rfl)|(refine LW.is ?_;first|(apply s_vr;exact rfl;apply v_indexBsl;exact rfl;exact rfl;omega;exact g1;exact g4)|(apply s_vr;exact rfl;apply v_indexBsl;exact rfl;exact rfl;omega;exact h1;exact h4)|(apply s_vr;exact rfl;apply v_loadAP;exact rfl;exact rfl;exact g5;exact rfl)|(apply s_storeR (i:=i) (e:=y.c) (er:=(cur.set i y).map Tab.c);exact rfl;exact rfl;exact rfl;exact rfl;exact rfl;exact rfl;exact hkc;exact rfl;exact hic;exact List.map_set.symm))|(refine DR.is ?_;first|(apply d_vr;exact rfl;apply v_indexBsl;exact rfl;exact rfl;omega;exact g1;exact g4)|(apply d_vr;exact rfl;apply v_indexBsl;exact rfl;exact rfl;omega;exact h1;exact h4)|(apply d_vr;exact rfl;apply v_loadAP;exact rfl;exact rfl;exact g5;exact rfl)|(apply d_storeR (i:=i) (e:=y.c) (er:=(cur.set i y).map Tab.c);exact rfl;exact rfl;exact rfl;exact rfl;exact rfl;exact rfl;exact hkc;exact rfl;exact hic;exact List.map_set.symm))|refine wk1 ?_|refine wk2 (fun hb hp=> ?_) (fun hb hp=> ?_)|fail))
   refine hK _ (cur,i,j+1) (hD.drop hx hq) (by dsimp only;omega) ?_
   exact Wk.mk' (by intro id h;simp[keys] at h;rcases h with rfl|rfl<;>rfl) (.cons rfl (Sub.refl _) (.cons rfl (Sub.refl _) (.cons rfl (Sub.refl _) (.cons rfl (Sub.refl _) .nil)))) (.cons rfl rfl (Subs.refl _) (.cons rfl rfl (Subs.refl _) .nil)) .nil
  |false=>
   rw[hq] at hcz
   (repeat' (first|(apply s_callFn (f:=f) (bxi:= [(1001,(Box.mk 36 (.l (s.cs.map .iv))))]);exact rfl;exact hG;exact rfl;exact hcz;exact rfl;exact .cons rfl rfl (Subs.refl _) .nil;exact hmb;exact rfl)|(refine LW.is ?_;first|(apply s_vr;exact rfl;apply v_indexBsl;exact rfl;exact rfl;omega;exact g1;exact g4)|(apply s_vr;exact rfl;apply v_indexBsl;exact rfl;exact rfl;omega;exact h1;exact h4)|(apply s_vr;exact rfl;apply v_loadAP;exact rfl;exact rfl;exact g5;exact rfl)|(apply s_storeR (i:=i) (e:=y.c) (er:=(cur.set i y).map Tab.c);exact rfl;exact rfl;exact rfl;exact rfl;exact rfl;exact rfl;exact hkc;exact rfl;exact hic;exact List.map_set.symm))|(refine DR.is ?_;first|(apply d_vr;exact rfl;apply v_indexBsl;exact rfl;exact rfl;omega;exact g1;exact g4)|(apply d_vr;exact rfl;apply v_indexBsl;exact rfl;exact rfl;omega;exact h1;exact h4)|(apply d_vr;exact rfl;apply v_loadAP;exact rfl;exact rfl;exact g5;exact rfl)|(apply d_storeR (i:=i) (e:=y.c) (er:=(cur.set i y).map Tab.c);exact rfl;exact rfl;exact rfl;exact rfl;exact rfl;exact rfl;exact hkc;exact rfl;exact hic;exact List.map_set.symm))|refine wk1 ?_|refine wk2 (fun hb hp=> ?_) (fun hb hp=> ?_)|fail))
   refine hK _ (cur.set i y,i+1,j+1) (hD.keep hx hq) (by dsimp only;omega) ?_
   exact Wk.mk' (by intro id h;simp[keys] at h;rcases h with rfl|rfl<;>rfl) (.cons rfl (Sub.refl _) (.cons rfl (Sub.refl _) (.cons rfl (Sub.refl _) (.cons rfl (Sub.refl _) .nil)))) (.cons rfl rfl (Subs.refl _) (.cons rfl rfl (Subs.refl _) .nil)) .nil
set_option maxHeartbeats 8000000 in
theorem dfT_none{gs:Globs}{f:FuncId}{s:Stm}[CallTy Tryz.prog f](p:Tab→Bool)(l:List Tab)(hne:l≠ [])(hl:l.length≤140737488355328)(hmb: [(1001,(Box.mk 36 (.l (s.cs.map .iv))))].all (fun p=> !p.2.cs.isEmpty && AV.mentsIn (keys [(1001,(Box.mk 36 (.l (s.cs.map .iv))))]) p.2.cs)=true)
 (hmx:([(1000,⟨47,.r (l.map Tab.c).flatten 0⟩),(1001,(Box.mk 36 (.l (s.cs.map .iv))))]:List (Nat×Box)).all (fun p=> !p.2.cs.isEmpty && AV.mentsIn (keys [(1000,⟨47,.r (l.map Tab.c).flatten 0⟩),(1001,(Box.mk 36 (.l (s.cs.map .iv))))]) p.2.cs)=true)
 (hc: ∀y∈l,CallG gs Tryz.prog f ([.agg [.iv (S y.n),.iv (.sl (y.cols.map Col.c))]] ++ [.ptr 1001 0]) [(1001,(Box.mk 36 (.l (s.cs.map .iv))))] [(1001,(Box.mk 36 (.l (s.cs.map .iv))))] [] (aB (p y))) (hnk:l.filter (fun x=> !p x)= [])
 (i0:Nat) (x0:Tab) (hbef: ∀y∈l.take i0,p y=false) (hx0:l[i0]?=some x0) (hp0:p x0=true):
 CallG gs Tryz.prog 50 [.bsh 1000 0 l.length 2,.fn f [.ptr 1001 0]] [(1000,⟨47,.r (l.map Tab.c).flatten 0⟩),(1001,(Box.mk 36 (.l (s.cs.map .iv))))] [(1000,⟨47,.l []⟩),(1001,(Box.mk 36 (.l (s.cs.map .iv))))] [] (.iv (.sl [])):=by
 refine CallG.intro _ Tryz.func50 rfl Tryz.ntmps50 rfl (fun w0 E0 hG=> ?_)
 have hk: ∀e∈l.map Tab.c,e.length=2:=by intro e he;obtain⟨t,_,rfl⟩:=List.mem_map.1 he;rfl
 have hfl:(l.map Tab.c).flatten.length=l.length*2:=by rw[flatten_len _ hk,List.length_map]
 have hfne:(l.map Tab.c).flatten≠ []:=flat_ne hk (by decide) (by simpa using hne)
 have kx:=ixT_any (gs:=gs) (f:=f) (b:=(Box.mk 36 (.l (s.cs.map .iv)))) p l hne hl hmb hc
 rw[idx_at hbef hx0 hp0] at kx
 have hi0:=(List.getElem?_eq_some_iff.1 hx0).1
 have he:((i0:Int)== -1)=false:=beq_eq_false_iff_ne.2 (by omega)
 (repeat' (first|(apply s_callX (bxi:= [(1000,⟨47,.r (l.map Tab.c).flatten 0⟩),(1001,(Box.mk 36 (.l (s.cs.map .iv))))]);exact rfl;exact hG;exact kx;exact rfl;exact .cons rfl rfl (Subs.refl _) (.cons rfl rfl (Subs.refl _) .nil);exact hmx;exact rfl)|refine wk1 ?_|refine wk2 (fun hb hp=> ?_) (fun hb hp=> ?_)|fail))
 refine L.openRow 0 rfl rfl (.inl hfne) (by omega) (fun cap hc1 hc2=> ?_)
 obtain⟨mm,hmm⟩: ∃mm,mm=cap*2 - (l.map Tab.c).flatten.length:=⟨_,rfl⟩
 rw[←hmm]
 rw[hfl] at hmm
 refine L.loopP (ι:=List Tab×Nat×Nat) (fun x=>⟨[(5,aI (x.2.1:Int)),(6,aI (x.2.2:Int)),(0,.bsl 1000 0 l.length cap),(1,.fn f [.ptr 1001 0])],[(1000,⟨47,.r (x.1.map Tab.c).flatten mm⟩),(1001,(Box.mk 36 (.l (s.cs.map .iv))))],[]⟩) (fun x=>l.length - x.2.2) (fun x=>DI p l x.1 x.2.1 x.2.2) (i0:=(l,i0,i0+1)) ?_ (.first hbef hx0 hp0) ?_
 · exact Wk.mk' (by intro id h;simp[keys] at h;rcases h with rfl|rfl<;>rfl) (.cons rfl (Sub.refl _) (.cons rfl (Sub.of_eq rfl) (.cons rfl (Sub.refl _) (.cons rfl (Sub.refl _) .nil)))) (.cons rfl rfl (Subs.refl _) (.cons rfl rfl (Subs.refl _) .nil)) .nil
 rintro ⟨cur,i,j⟩ hD K hK
 dsimp only at hD hK⊢
 have hlt0:=hD.lt
 have hle0:=hD.le
 have hcu:=hD.l
 have hkc: ∀e∈cur.map Tab.c,e.length=2:=by intro e he;obtain⟨t,_,rfl⟩:=List.mem_map.1 he;rfl
 have hlc:(cur.map Tab.c).length=l.length:=by rw[List.length_map,hcu]
 have hic:i<(cur.map Tab.c).length:=by rw[hlc];omega
 cases hx:l[j]? with
 |none=>
  obtain⟨hcl0,hci⟩:=hD.full hx
  have hcl:(cur.map Tab.c).take i=(l.filter (fun x=> !p x)).map Tab.c:=by rw[←List.map_take,hcl0]
  have hj:=List.getElem?_eq_none_iff.1 hx
  have hlt:decide ((j:Int)<(l.length:Int))=false:=decide_eq_false (by omega)
  generalize hG2:l.filter (fun x=> !p x)=kept at*
  (repeat' (first|(refine LW.is ?_;first|(apply s_vr;exact rfl;apply v_slBl (off':=i*2) (n':=l.length - i) (cap':=cap - i);exact rfl;exact rfl;omega;omega;omega;omega;omega)|(apply s_clearR (j:=i);exact rfl;exact rfl;exact hkc;exact rfl;(rw[hlc];omega);omega;(rw[hlc];omega);exact hcl;exact rfl)|(apply s_vr;exact rfl;apply v_slBh (n':=i);exact rfl;exact rfl;omega;omega;omega))|(refine DR.is ?_;first|(apply d_vr;exact rfl;apply v_slBl (off':=i*2) (n':=l.length - i) (cap':=cap - i);exact rfl;exact rfl;omega;omega;omega;omega;omega)|(apply d_clearR (j:=i);exact rfl;exact rfl;exact hkc;exact rfl;(rw[hlc];omega);omega;(rw[hlc];omega);exact hcl;exact rfl)|(apply d_vr;exact rfl;apply v_slBh (n':=i);exact rfl;exact rfl;omega;omega;omega))|refine wk1 ?_|refine wk2 (fun hb hp=> ?_) (fun hb hp=> ?_)|fail))
  subst hnk
  all_goals refine L.kill 1000 rfl (row_ne (.inr (by rw[hlc];omega))) ?_
  all_goals(apply L.ends;exact rfl;exact rfl;exact hci▸Sub.bsl0 _ _ _;exact Wk.mk' (by intro id h;simp[keys] at h;rcases h with rfl|rfl<;>rfl) .nil (.cons rfl rfl (Subs.refl _) (.cons rfl rfl (Subs.refl _) .nil)) .nil)
 |some y=>
  have hlt':=(List.getElem?_eq_some_iff.1 hx).1
  have hlt:decide ((j:Int)<(l.length:Int))=true:=decide_eq_true (by omega)
  have hcz:=hc y (List.mem_of_getElem? hx)
  have g1:((j:Nat):Int)<(l.length:Int):=by omega
  have g4:0+((j:Nat):Int).toNat*2=j*2:=by rw[Int.toNat_natCast,Nat.zero_add]
  have h1:((i:Nat):Int)<(l.length:Int):=by omega
  have h4:0+((i:Nat):Int).toNat*2=i*2:=by rw[Int.toNat_natCast,Nat.zero_add]
  have g5:((Box.mk 47 (.r (cur.map Tab.c).flatten mm)).cs.drop (j*2)).take 2= [.iv (S y.n),.iv (.sl (y.cols.map Col.c))]:=rowAtM hkc (by rw[List.getElem?_map,hD.at,hx];rfl)
  cases hq:p y with
  |true=>
   rw[hq] at hcz
   (repeat' (first|(apply s_callFn (f:=f) (bxi:= [(1001,(Box.mk 36 (.l (s.cs.map .iv))))]);exact rfl;exact hG;exact rfl;exact hcz;exact rfl;exact .cons rfl rfl (Subs.refl _) .nil;exact hmb;exact rfl)|(refine LW.is ?_;first|(apply s_vr;exact rfl;apply v_indexBsl;exact rfl;exact rfl;omega;exact g1;exact g4)|(apply s_vr;exact rfl;apply v_indexBsl;exact rfl;exact rfl;omega;exact h1;exact h4)|(apply s_vr;exact rfl;apply v_loadAP;exact rfl;exact rfl;exact g5;exact rfl)|(apply s_storeR (i:=i) (e:=y.c) (er:=(cur.set i y).map Tab.c);exact rfl;exact rfl;exact rfl;exact rfl;exact rfl;exact rfl;exact hkc;exact rfl;exact hic;exact List.map_set.symm))|(refine DR.is ?_;first|(apply d_vr;exact rfl;apply v_indexBsl;exact rfl;exact rfl;omega;exact g1;exact g4)|(apply d_vr;exact rfl;apply v_indexBsl;exact rfl;exact rfl;omega;exact h1;exact h4)|(apply d_vr;exact rfl;apply v_loadAP;exact rfl;exact rfl;exact g5;exact rfl)|(apply d_storeR (i:=i) (e:=y.c) (er:=(cur.set i y).map Tab.c);exact rfl;exact rfl;exact rfl;exact rfl;exact rfl;exact rfl;exact hkc;exact rfl;exact hic;exact List.map_set.symm))|refine wk1 ?_|refine wk2 (fun hb hp=> ?_) (fun hb hp=> ?_)|fail))
   refine hK _ (cur,i,j+1) (hD.drop hx hq) (by dsimp only;omega) ?_
   exact Wk.mk' (by intro id h;simp[keys] at h;rcases h with rfl|rfl<;>rfl) (.cons rfl (Sub.refl _) (.cons rfl (Sub.refl _) (.cons rfl (Sub.refl _) (.cons rfl (Sub.refl _) .nil)))) (.cons rfl rfl (Subs.refl _) (.cons rfl rfl (Subs.refl _) .nil)) .nil
  |false=>
   rw[hq] at hcz
   (repeat' (first|(apply s_callFn (f:=f) (bxi:= [(1001,(Box.mk 36 (.l (s.cs.map .iv))))]);exact rfl;exact hG;exact rfl;exact hcz;exact rfl;exact .cons rfl rfl (Subs.refl _) .nil;exact hmb;exact rfl)|(refine LW.is ?_;first|(apply s_vr;exact rfl;apply v_indexBsl;exact rfl;exact rfl;omega;exact g1;exact g4)|(apply s_vr;exact rfl;apply v_indexBsl;exact rfl;exact rfl;omega;exact h1;exact h4)|(apply s_vr;exact rfl;apply v_loadAP;exact rfl;exact rfl;exact g5;exact rfl)|(apply s_storeR (i:=i) (e:=y.c) (er:=(cur.set i y).map Tab.c);exact rfl;exact rfl;exact rfl;exact rfl;exact rfl;exact rfl;exact hkc;exact rfl;exact hic;exact List.map_set.symm))|(refine DR.is ?_;first|(apply d_vr;exact rfl;apply v_indexBsl;exact rfl;exact rfl;omega;exact g1;exact g4)|(apply d_vr;exact rfl;apply v_indexBsl;exact rfl;exact rfl;omega;exact h1;exact h4)|(apply d_vr;exact rfl;apply v_loadAP;exact rfl;exact rfl;exact g5;exact rfl)|(apply d_storeR (i:=i) (e:=y.c) (er:=(cur.set i y).map Tab.c);exact rfl;exact rfl;exact rfl;exact rfl;exact rfl;exact rfl;exact hkc;exact rfl;exact hic;exact List.map_set.symm))|refine wk1 ?_|refine wk2 (fun hb hp=> ?_) (fun hb hp=> ?_)|fail))
   refine hK _ (cur.set i y,i+1,j+1) (hD.keep hx hq) (by dsimp only;omega) ?_
   exact Wk.mk' (by intro id h;simp[keys] at h;rcases h with rfl|rfl<;>rfl) (.cons rfl (Sub.refl _) (.cons rfl (Sub.refl _) (.cons rfl (Sub.refl _) (.cons rfl (Sub.refl _) .nil)))) (.cons rfl rfl (Subs.refl _) (.cons rfl rfl (Subs.refl _) .nil)) .nil
set_option maxHeartbeats 8000000 in
theorem dfX_some{gs:Globs}{f:FuncId}{s:Stm}[CallTy Tryz.prog f](p:Idx→Bool)(l:List Idx)(hne:l≠ [])(hl:l.length≤140737488355328)(hmb: [(1001,(Box.mk 36 (.l (s.cs.map .iv))))].all (fun p=> !p.2.cs.isEmpty && AV.mentsIn (keys [(1001,(Box.mk 36 (.l (s.cs.map .iv))))]) p.2.cs)=true)
 (hmx:([(1000,⟨64,.r (l.map Idx.c).flatten 0⟩),(1001,(Box.mk 36 (.l (s.cs.map .iv))))]:List (Nat×Box)).all (fun p=> !p.2.cs.isEmpty && AV.mentsIn (keys [(1000,⟨64,.r (l.map Idx.c).flatten 0⟩),(1001,(Box.mk 36 (.l (s.cs.map .iv))))]) p.2.cs)=true)
 (hc: ∀y∈l,CallG gs Tryz.prog f ([.agg [.iv (S y.n),.iv (S y.tb),.iv (S y.co)]] ++ [.ptr 1001 0]) [(1001,(Box.mk 36 (.l (s.cs.map .iv))))] [(1001,(Box.mk 36 (.l (s.cs.map .iv))))] [] (aB (p y))) (hnk:l.filter (fun x=> !p x)≠ [])
 (i0:Nat) (x0:Idx) (hbef: ∀y∈l.take i0,p y=false) (hx0:l[i0]?=some x0) (hp0:p x0=true):
 CallG gs Tryz.prog 52 [.bsh 1000 0 l.length 3,.fn f [.ptr 1001 0]] [(1000,⟨64,.r (l.map Idx.c).flatten 0⟩),(1001,(Box.mk 36 (.l (s.cs.map .iv))))] [(1002,⟨64,.r ((l.filter (fun x=> !p x)).map Idx.c).flatten 0⟩),(1000,⟨64,.l []⟩),(1001,(Box.mk 36 (.l (s.cs.map .iv))))] [] (.bsh 1002 0 (l.filter (fun x=> !p x)).length 3):=by
 refine CallG.intro _ Tryz.func52 rfl Tryz.ntmps52 rfl (fun w0 E0 hG=> ?_)
 have hk: ∀e∈l.map Idx.c,e.length=3:=by intro e he;obtain⟨t,_,rfl⟩:=List.mem_map.1 he;rfl
 have hfl:(l.map Idx.c).flatten.length=l.length*3:=by rw[flatten_len _ hk,List.length_map]
 have hfne:(l.map Idx.c).flatten≠ []:=flat_ne hk (by decide) (by simpa using hne)
 have kx:=ixX_any (gs:=gs) (f:=f) (b:=(Box.mk 36 (.l (s.cs.map .iv)))) p l hne hl hmb hc
 rw[idx_at hbef hx0 hp0] at kx
 have hi0:=(List.getElem?_eq_some_iff.1 hx0).1
 have he:((i0:Int)== -1)=false:=beq_eq_false_iff_ne.2 (by omega)
 (repeat' (first|(apply s_callX (bxi:= [(1000,⟨64,.r (l.map Idx.c).flatten 0⟩),(1001,(Box.mk 36 (.l (s.cs.map .iv))))]);exact rfl;exact hG;exact kx;exact rfl;exact .cons rfl rfl (Subs.refl _) (.cons rfl rfl (Subs.refl _) .nil);exact hmx;exact rfl)|refine wk1 ?_|refine wk2 (fun hb hp=> ?_) (fun hb hp=> ?_)|fail))
 refine L.openRow 0 rfl rfl (.inl hfne) (by omega) (fun cap hc1 hc2=> ?_)
 obtain⟨mm,hmm⟩: ∃mm,mm=cap*3 - (l.map Idx.c).flatten.length:=⟨_,rfl⟩
 rw[←hmm]
 rw[hfl] at hmm
 refine L.loopP (ι:=List Idx×Nat×Nat) (fun x=>⟨[(5,aI (x.2.1:Int)),(6,aI (x.2.2:Int)),(0,.bsl 1000 0 l.length cap),(1,.fn f [.ptr 1001 0])],[(1000,⟨64,.r (x.1.map Idx.c).flatten mm⟩),(1001,(Box.mk 36 (.l (s.cs.map .iv))))],[]⟩) (fun x=>l.length - x.2.2) (fun x=>DI p l x.1 x.2.1 x.2.2) (i0:=(l,i0,i0+1)) ?_ (.first hbef hx0 hp0) ?_
 · exact Wk.mk' (by intro id h;simp[keys] at h;rcases h with rfl|rfl<;>rfl) (.cons rfl (Sub.refl _) (.cons rfl (Sub.of_eq rfl) (.cons rfl (Sub.refl _) (.cons rfl (Sub.refl _) .nil)))) (.cons rfl rfl (Subs.refl _) (.cons rfl rfl (Subs.refl _) .nil)) .nil
 rintro ⟨cur,i,j⟩ hD K hK
 dsimp only at hD hK⊢
 have hlt0:=hD.lt
 have hle0:=hD.le
 have hcu:=hD.l
 have hkc: ∀e∈cur.map Idx.c,e.length=3:=by intro e he;obtain⟨t,_,rfl⟩:=List.mem_map.1 he;rfl
 have hlc:(cur.map Idx.c).length=l.length:=by rw[List.length_map,hcu]
 have hic:i<(cur.map Idx.c).length:=by rw[hlc];omega
 cases hx:l[j]? with
 |none=>
  obtain⟨hcl0,hci⟩:=hD.full hx
  have hcl:(cur.map Idx.c).take i=(l.filter (fun x=> !p x)).map Idx.c:=by rw[←List.map_take,hcl0]
  have hj:=List.getElem?_eq_none_iff.1 hx
  have hlt:decide ((j:Int)<(l.length:Int))=false:=decide_eq_false (by omega)
  generalize hG2:l.filter (fun x=> !p x)=kept at*
  (repeat' (first|(refine LW.is ?_;first|(apply s_vr;exact rfl;apply v_slBl (off':=i*3) (n':=l.length - i) (cap':=cap - i);exact rfl;exact rfl;omega;omega;omega;omega;omega)|(apply s_clearR (j:=i);exact rfl;exact rfl;exact hkc;exact rfl;(rw[hlc];omega);omega;(rw[hlc];omega);exact hcl;exact rfl)|(apply s_vr;exact rfl;apply v_slBh (n':=i);exact rfl;exact rfl;omega;omega;omega))|(refine DR.is ?_;first|(apply d_vr;exact rfl;apply v_slBl (off':=i*3) (n':=l.length - i) (cap':=cap - i);exact rfl;exact rfl;omega;omega;omega;omega;omega)|(apply d_clearR (j:=i);exact rfl;exact rfl;exact hkc;exact rfl;(rw[hlc];omega);omega;(rw[hlc];omega);exact hcl;exact rfl)|(apply d_vr;exact rfl;apply v_slBh (n':=i);exact rfl;exact rfl;omega;omega;omega))|refine wk1 ?_|refine wk2 (fun hb hp=> ?_) (fun hb hp=> ?_)|fail))
  have hpos:0<i:=by rw[←hci];exact List.length_pos_iff.2 hnk
  have hkk: ∀e∈kept.map Idx.c,e.length=3:=by intro e he;obtain⟨t,_,rfl⟩:=List.mem_map.1 he;rfl
  all_goals(apply L.renameR 4 1002 (k:=3) (n:=i);exact rfl;exact rfl;exact rfl;exact hkk;(rw[List.length_map];exact hci);omega;(rw[hlc];omega))
  all_goals(apply L.ends;exact rfl;exact rfl;exact Sub.of_eq (congrArg (fun z=>AV.bsh 1002 0 z 3) hci.symm);exact Wk.mk' (by intro id h;simp[keys] at h;rcases h with rfl|rfl<;>rfl) .nil (.cons rfl rfl (Subs.refl _) (.cons rfl rfl (Subs.refl _) (.cons rfl rfl (Subs.refl _) .nil))) .nil)
 |some y=>
  have hlt':=(List.getElem?_eq_some_iff.1 hx).1
  have hlt:decide ((j:Int)<(l.length:Int))=true:=decide_eq_true (by omega)
  have hcz:=hc y (List.mem_of_getElem? hx)
  have g1:((j:Nat):Int)<(l.length:Int):=by omega
  have g4:0+((j:Nat):Int).toNat*3=j*3:=by rw[Int.toNat_natCast,Nat.zero_add]
  have h1:((i:Nat):Int)<(l.length:Int):=by omega
  have h4:0+((i:Nat):Int).toNat*3=i*3:=by rw[Int.toNat_natCast,Nat.zero_add]
  have g5:((Box.mk 64 (.r (cur.map Idx.c).flatten mm)).cs.drop (j*3)).take 3= [.iv (S y.n),.iv (S y.tb),.iv (S y.co)]:=rowAtM hkc (by rw[List.getElem?_map,hD.at,hx];rfl)
  cases hq:p y with
  |true=>
   rw[hq] at hcz
   (repeat' (first|(apply s_callFn (f:=f) (bxi:= [(1001,(Box.mk 36 (.l (s.cs.map .iv))))]);exact rfl;exact hG;exact rfl;exact hcz;exact rfl;exact .cons rfl rfl (Subs.refl _) .nil;exact hmb;exact rfl)|(refine LW.is ?_;first|(apply s_vr;exact rfl;apply v_indexBsl;exact rfl;exact rfl;omega;exact g1;exact g4)|(apply s_vr;exact rfl;apply v_indexBsl;exact rfl;exact rfl;omega;exact h1;exact h4)|(apply s_vr;exact rfl;apply v_loadAP;exact rfl;exact rfl;exact g5;exact rfl)|(apply s_storeR (i:=i) (e:=y.c) (er:=(cur.set i y).map Idx.c);exact rfl;exact rfl;exact rfl;exact rfl;exact rfl;exact rfl;exact hkc;exact rfl;exact hic;exact List.map_set.symm))|(refine DR.is ?_;first|(apply d_vr;exact rfl;apply v_indexBsl;exact rfl;exact rfl;omega;exact g1;exact g4)|(apply d_vr;exact rfl;apply v_indexBsl;exact rfl;exact rfl;omega;exact h1;exact h4)|(apply d_vr;exact rfl;apply v_loadAP;exact rfl;exact rfl;exact g5;exact rfl)|(apply d_storeR (i:=i) (e:=y.c) (er:=(cur.set i y).map Idx.c);exact rfl;exact rfl;exact rfl;exact rfl;exact rfl;exact rfl;exact hkc;exact rfl;exact hic;exact List.map_set.symm))|refine wk1 ?_|refine wk2 (fun hb hp=> ?_) (fun hb hp=> ?_)|fail))
   refine hK _ (cur,i,j+1) (hD.drop hx hq) (by dsimp only;omega) ?_
   exact Wk.mk' (by intro id h;simp[keys] at h;rcases h with rfl|rfl<;>rfl) (.cons rfl (Sub.refl _) (.cons rfl (Sub.refl _) (.cons rfl (Sub.refl _) (.cons rfl (Sub.refl _) .nil)))) (.cons rfl rfl (Subs.refl _) (.cons rfl rfl (Subs.refl _) .nil)) .nil
  |false=>
   rw[hq] at hcz
   (repeat' (first|(apply s_callFn (f:=f) (bxi:= [(1001,(Box.mk 36 (.l (s.cs.map .iv))))]);exact rfl;exact hG;exact rfl;exact hcz;exact rfl;exact .cons rfl rfl (Subs.refl _) .nil;exact hmb;exact rfl)|(refine LW.is ?_;first|(apply s_vr;exact rfl;apply v_indexBsl;exact rfl;exact rfl;omega;exact g1;exact g4)|(apply s_vr;exact rfl;apply v_indexBsl;exact rfl;exact rfl;omega;exact h1;exact h4)|(apply s_vr;exact rfl;apply v_loadAP;exact rfl;exact rfl;exact g5;exact rfl)|(apply s_storeR (i:=i) (e:=y.c) (er:=(cur.set i y).map Idx.c);exact rfl;exact rfl;exact rfl;exact rfl;exact rfl;exact rfl;exact hkc;exact rfl;exact hic;exact List.map_set.symm))|(refine DR.is ?_;first|(apply d_vr;exact rfl;apply v_indexBsl;exact rfl;exact rfl;omega;exact g1;exact g4)|(apply d_vr;exact rfl;apply v_indexBsl;exact rfl;exact rfl;omega;exact h1;exact h4)|(apply d_vr;exact rfl;apply v_loadAP;exact rfl;exact rfl;exact g5;exact rfl)|(apply d_storeR (i:=i) (e:=y.c) (er:=(cur.set i y).map Idx.c);exact rfl;exact rfl;exact rfl;exact rfl;exact rfl;exact rfl;exact hkc;exact rfl;exact hic;exact List.map_set.symm))|refine wk1 ?_|refine wk2 (fun hb hp=> ?_) (fun hb hp=> ?_)|fail))
   refine hK _ (cur.set i y,i+1,j+1) (hD.keep hx hq) (by dsimp only;omega) ?_
   exact Wk.mk' (by intro id h;simp[keys] at h;rcases h with rfl|rfl<;>rfl) (.cons rfl (Sub.refl _) (.cons rfl (Sub.refl _) (.cons rfl (Sub.refl _) (.cons rfl (Sub.refl _) .nil)))) (.cons rfl rfl (Subs.refl _) (.cons rfl rfl (Subs.refl _) .nil)) .nil
set_option maxHeartbeats 8000000 in
theorem dfX_none{gs:Globs}{f:FuncId}{s:Stm}[CallTy Tryz.prog f](p:Idx→Bool)(l:List Idx)(hne:l≠ [])(hl:l.length≤140737488355328)(hmb: [(1001,(Box.mk 36 (.l (s.cs.map .iv))))].all (fun p=> !p.2.cs.isEmpty && AV.mentsIn (keys [(1001,(Box.mk 36 (.l (s.cs.map .iv))))]) p.2.cs)=true)
 (hmx:([(1000,⟨64,.r (l.map Idx.c).flatten 0⟩),(1001,(Box.mk 36 (.l (s.cs.map .iv))))]:List (Nat×Box)).all (fun p=> !p.2.cs.isEmpty && AV.mentsIn (keys [(1000,⟨64,.r (l.map Idx.c).flatten 0⟩),(1001,(Box.mk 36 (.l (s.cs.map .iv))))]) p.2.cs)=true)
 (hc: ∀y∈l,CallG gs Tryz.prog f ([.agg [.iv (S y.n),.iv (S y.tb),.iv (S y.co)]] ++ [.ptr 1001 0]) [(1001,(Box.mk 36 (.l (s.cs.map .iv))))] [(1001,(Box.mk 36 (.l (s.cs.map .iv))))] [] (aB (p y))) (hnk:l.filter (fun x=> !p x)= [])
 (i0:Nat) (x0:Idx) (hbef: ∀y∈l.take i0,p y=false) (hx0:l[i0]?=some x0) (hp0:p x0=true):
 CallG gs Tryz.prog 52 [.bsh 1000 0 l.length 3,.fn f [.ptr 1001 0]] [(1000,⟨64,.r (l.map Idx.c).flatten 0⟩),(1001,(Box.mk 36 (.l (s.cs.map .iv))))] [(1000,⟨64,.l []⟩),(1001,(Box.mk 36 (.l (s.cs.map .iv))))] [] (.iv (.sl [])):=by
 refine CallG.intro _ Tryz.func52 rfl Tryz.ntmps52 rfl (fun w0 E0 hG=> ?_)
 have hk: ∀e∈l.map Idx.c,e.length=3:=by intro e he;obtain⟨t,_,rfl⟩:=List.mem_map.1 he;rfl
 have hfl:(l.map Idx.c).flatten.length=l.length*3:=by rw[flatten_len _ hk,List.length_map]
 have hfne:(l.map Idx.c).flatten≠ []:=flat_ne hk (by decide) (by simpa using hne)
 have kx:=ixX_any (gs:=gs) (f:=f) (b:=(Box.mk 36 (.l (s.cs.map .iv)))) p l hne hl hmb hc
 rw[idx_at hbef hx0 hp0] at kx
 have hi0:=(List.getElem?_eq_some_iff.1 hx0).1
 have he:((i0:Int)== -1)=false:=beq_eq_false_iff_ne.2 (by omega)
 (repeat' (first|(apply s_callX (bxi:= [(1000,⟨64,.r (l.map Idx.c).flatten 0⟩),(1001,(Box.mk 36 (.l (s.cs.map .iv))))]);exact rfl;exact hG;exact kx;exact rfl;exact .cons rfl rfl (Subs.refl _) (.cons rfl rfl (Subs.refl _) .nil);exact hmx;exact rfl)|refine wk1 ?_|refine wk2 (fun hb hp=> ?_) (fun hb hp=> ?_)|fail))
 refine L.openRow 0 rfl rfl (.inl hfne) (by omega) (fun cap hc1 hc2=> ?_)
 obtain⟨mm,hmm⟩: ∃mm,mm=cap*3 - (l.map Idx.c).flatten.length:=⟨_,rfl⟩
 rw[←hmm]
 rw[hfl] at hmm
 refine L.loopP (ι:=List Idx×Nat×Nat) (fun x=>⟨[(5,aI (x.2.1:Int)),(6,aI (x.2.2:Int)),(0,.bsl 1000 0 l.length cap),(1,.fn f [.ptr 1001 0])],[(1000,⟨64,.r (x.1.map Idx.c).flatten mm⟩),(1001,(Box.mk 36 (.l (s.cs.map .iv))))],[]⟩) (fun x=>l.length - x.2.2) (fun x=>DI p l x.1 x.2.1 x.2.2) (i0:=(l,i0,i0+1)) ?_ (.first hbef hx0 hp0) ?_
 · exact Wk.mk' (by intro id h;simp[keys] at h;rcases h with rfl|rfl<;>rfl) (.cons rfl (Sub.refl _) (.cons rfl (Sub.of_eq rfl) (.cons rfl (Sub.refl _) (.cons rfl (Sub.refl _) .nil)))) (.cons rfl rfl (Subs.refl _) (.cons rfl rfl (Subs.refl _) .nil)) .nil
 rintro ⟨cur,i,j⟩ hD K hK
 dsimp only at hD hK⊢
 have hlt0:=hD.lt
 have hle0:=hD.le
 have hcu:=hD.l
 have hkc: ∀e∈cur.map Idx.c,e.length=3:=by intro e he;obtain⟨t,_,rfl⟩:=List.mem_map.1 he;rfl
 have hlc:(cur.map Idx.c).length=l.length:=by rw[List.length_map,hcu]
 have hic:i<(cur.map Idx.c).length:=by rw[hlc];omega
 cases hx:l[j]? with
 |none=>
  obtain⟨hcl0,hci⟩:=hD.full hx
  have hcl:(cur.map Idx.c).take i=(l.filter (fun x=> !p x)).map Idx.c:=by rw[←List.map_take,hcl0]
  have hj:=List.getElem?_eq_none_iff.1 hx
  have hlt:decide ((j:Int)<(l.length:Int))=false:=decide_eq_false (by omega)
  generalize hG2:l.filter (fun x=> !p x)=kept at*
  (repeat' (first|(refine LW.is ?_;first|(apply s_vr;exact rfl;apply v_slBl (off':=i*3) (n':=l.length - i) (cap':=cap - i);exact rfl;exact rfl;omega;omega;omega;omega;omega)|(apply s_clearR (j:=i);exact rfl;exact rfl;exact hkc;exact rfl;(rw[hlc];omega);omega;(rw[hlc];omega);exact hcl;exact rfl)|(apply s_vr;exact rfl;apply v_slBh (n':=i);exact rfl;exact rfl;omega;omega;omega))|(refine DR.is ?_;first|(apply d_vr;exact rfl;apply v_slBl (off':=i*3) (n':=l.length - i) (cap':=cap - i);exact rfl;exact rfl;omega;omega;omega;omega;omega)|(apply d_clearR (j:=i);exact rfl;exact rfl;exact hkc;exact rfl;(rw[hlc];omega);omega;(rw[hlc];omega);exact hcl;exact rfl)|(apply d_vr;exact rfl;apply v_slBh (n':=i);exact rfl;exact rfl;omega;omega;omega))|refine wk1 ?_|refine wk2 (fun hb hp=> ?_) (fun hb hp=> ?_)|fail))
  subst hnk
  all_goals refine L.kill 1000 rfl (row_ne (.inr (by rw[hlc];omega))) ?_
  all_goals(apply L.ends;exact rfl;exact rfl;exact hci▸Sub.bsl0 _ _ _;exact Wk.mk' (by intro id h;simp[keys] at h;rcases h with rfl|rfl<;>rfl) .nil (.cons rfl rfl (Subs.refl _) (.cons rfl rfl (Subs.refl _) .nil)) .nil)
 |some y=>
  have hlt':=(List.getElem?_eq_some_iff.1 hx).1
  have hlt:decide ((j:Int)<(l.length:Int))=true:=decide_eq_true (by omega)
  have hcz:=hc y (List.mem_of_getElem? hx)
  have g1:((j:Nat):Int)<(l.length:Int):=by omega
  have g4:0+((j:Nat):Int).toNat*3=j*3:=by rw[Int.toNat_natCast,Nat.zero_add]
  have h1:((i:Nat):Int)<(l.length:Int):=by omega
  have h4:0+((i:Nat):Int).toNat*3=i*3:=by rw[Int.toNat_natCast,Nat.zero_add]
  have g5:((Box.mk 64 (.r (cur.map Idx.c).flatten mm)).cs.drop (j*3)).take 3= [.iv (S y.n),.iv (S y.tb),.iv (S y.co)]:=rowAtM hkc (by rw[List.getElem?_map,hD.at,hx];rfl)
  cases hq:p y with
  |true=>
   rw[hq] at hcz
   (repeat' (first|(apply s_callFn (f:=f) (bxi:= [(1001,(Box.mk 36 (.l (s.cs.map .iv))))]);exact rfl;exact hG;exact rfl;exact hcz;exact rfl;exact .cons rfl rfl (Subs.refl _) .nil;exact hmb;exact rfl)|(refine LW.is ?_;first|(apply s_vr;exact rfl;apply v_indexBsl;exact rfl;exact rfl;omega;exact g1;exact g4)|(apply s_vr;exact rfl;apply v_indexBsl;exact rfl;exact rfl;omega;exact h1;exact h4)|(apply s_vr;exact rfl;apply v_loadAP;exact rfl;exact rfl;exact g5;exact rfl)|(apply s_storeR (i:=i) (e:=y.c) (er:=(cur.set i y).map Idx.c);exact rfl;exact rfl;exact rfl;exact rfl;exact rfl;exact rfl;exact hkc;exact rfl;exact hic;exact List.map_set.symm))|(refine DR.is ?_;first|(apply d_vr;exact rfl;apply v_indexBsl;exact rfl;exact rfl;omega;exact g1;exact g4)|(apply d_vr;exact rfl;apply v_indexBsl;exact rfl;exact rfl;omega;exact h1;exact h4)|(apply d_vr;exact rfl;apply v_loadAP;exact rfl;exact rfl;exact g5;exact rfl)|(apply d_storeR (i:=i) (e:=y.c) (er:=(cur.set i y).map Idx.c);exact rfl;exact rfl;exact rfl;exact rfl;exact rfl;exact rfl;exact hkc;exact rfl;exact hic;exact List.map_set.symm))|refine wk1 ?_|refine wk2 (fun hb hp=> ?_) (fun hb hp=> ?_)|fail))
   refine hK _ (cur,i,j+1) (hD.drop hx hq) (by dsimp only;omega) ?_
   exact Wk.mk' (by intro id h;simp[keys] at h;rcases h with rfl|rfl<;>rfl) (.cons rfl (Sub.refl _) (.cons rfl (Sub.refl _) (.cons rfl (Sub.refl _) (.cons rfl (Sub.refl _) .nil)))) (.cons rfl rfl (Subs.refl _) (.cons rfl rfl (Subs.refl _) .nil)) .nil
  |false=>
   rw[hq] at hcz
   (repeat' (first|(apply s_callFn (f:=f) (bxi:= [(1001,(Box.mk 36 (.l (s.cs.map .iv))))]);exact rfl;exact hG;exact rfl;exact hcz;exact rfl;exact .cons rfl rfl (Subs.refl _) .nil;exact hmb;exact rfl)|(refine LW.is ?_;first|(apply s_vr;exact rfl;apply v_indexBsl;exact rfl;exact rfl;omega;exact g1;exact g4)|(apply s_vr;exact rfl;apply v_indexBsl;exact rfl;exact rfl;omega;exact h1;exact h4)|(apply s_vr;exact rfl;apply v_loadAP;exact rfl;exact rfl;exact g5;exact rfl)|(apply s_storeR (i:=i) (e:=y.c) (er:=(cur.set i y).map Idx.c);exact rfl;exact rfl;exact rfl;exact rfl;exact rfl;exact rfl;exact hkc;exact rfl;exact hic;exact List.map_set.symm))|(refine DR.is ?_;first|(apply d_vr;exact rfl;apply v_indexBsl;exact rfl;exact rfl;omega;exact g1;exact g4)|(apply d_vr;exact rfl;apply v_indexBsl;exact rfl;exact rfl;omega;exact h1;exact h4)|(apply d_vr;exact rfl;apply v_loadAP;exact rfl;exact rfl;exact g5;exact rfl)|(apply d_storeR (i:=i) (e:=y.c) (er:=(cur.set i y).map Idx.c);exact rfl;exact rfl;exact rfl;exact rfl;exact rfl;exact rfl;exact hkc;exact rfl;exact hic;exact List.map_set.symm))|refine wk1 ?_|refine wk2 (fun hb hp=> ?_) (fun hb hp=> ?_)|fail))
   refine hK _ (cur.set i y,i+1,j+1) (hD.keep hx hq) (by dsimp only;omega) ?_
   exact Wk.mk' (by intro id h;simp[keys] at h;rcases h with rfl|rfl<;>rfl) (.cons rfl (Sub.refl _) (.cons rfl (Sub.refl _) (.cons rfl (Sub.refl _) (.cons rfl (Sub.refl _) .nil)))) (.cons rfl rfl (Subs.refl _) (.cons rfl rfl (Subs.refl _) .nil)) .nil
end Go.Proofs.YthcjohcakdnmmaaGreatDoor
