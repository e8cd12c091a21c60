/- Several texts in one, each with its own sentence ahead of it. Conditions: each one says its own. -/
import Derived.Lib.Bytealg
import Derived.Test.YthcjohcakdnmmaaGreatDoorZS16
import Derived.Test.YthcjohcakdnmmaaGreatDoorZS25
set_option linter.all false
namespace Go.Abs
set_option linter.unusedVariables false
theorem Yields.cmpB{P:Program}{c:Ctx}{st:St}{o:Oper}{f:FuncId}{x y:Operand}{ats:Array TypeId}{m n:List UInt8}(ho:o.op= .call {callee:= .value (.func f),args:= #[x,y],argTypes:=ats})
 (hok:extOk P f Extern.BytealgCompare.compare) (hx:st.ev x=aS m) (hy:st.ev y=aS n):Yields P c st o (aI (Lib.compareBytes m n)):=
 .im rfl fun E a w hi=>by
   obtain⟨fn,hf,h1,h2,h3,h4⟩:=hok
   have e1:=hi.im hx
   have e2:=hi.im hy
   have hrun:=run_callFunc_extern hf h1 h2 h3 h4 #[.string ⟨m.toArray⟩,.string ⟨n.toArray⟩] w
   rw[Lib.run_compareString] at hrun
   have:(execOp a.eval o).run P w=(callFunc f #[a.eval x,a.eval y]).run P w:=by
    simp[execOp,ho,resolve,Deferred.ofValue,Act.eval,invoke]
   rw[this,e1,e2,hrun]
   simp[Result.andThen]
theorem v_cmpB{P:Program}{c:Ctx}{fr:List (Nat×AV)}{bx:List (Nat×Box)}{tk:List (Nat×Tok)}{d:Nat}{ty:TypeId}{pos:String}{aft:Array Edge}{f:FuncId}{x y:Operand}{ats:Array TypeId}{m n:List UInt8}
 (hok:extOk P f Extern.BytealgCompare.compare) (hx:St.ev ⟨fr,bx,tk⟩ x=aS m) (hy:St.ev ⟨fr,bx,tk⟩ y=aS n):VV P c ⟨fr,bx,tk⟩ ⟨some d,.call {callee:= .value (.func f),args:= #[x,y],argTypes:=ats},ty,pos,aft,none⟩ (aI (Lib.compareBytes m n)) []:=
 .mk fun st' kE kL=> .cmpB rfl hok ((kE x (by simp[Op.operands,Call.operands])).trans hx) ((kE y (by simp[Op.operands,Call.operands])).trans hy)
end Go.Abs
namespace Go.Proofs.YthcjohcakdnmmaaGreatDoor
open Go.Abs
set_option maxRecDepth 100000
attribute [local irreducible] L Code.wp bodyPost Exit.then Exit.inBlock
set_option linter.unusedVariables false
set_option linter.unusedSimpArgs false
theorem cmp_lt: ∀a b:Str,decide (Lib.compareBytes a b<0)=decide (a<b)
 | [],[] =>by simp[Lib.compareBytes]
 | [],_::_=>by simp[Lib.compareBytes]
 |_::_,[] =>by simp[Lib.compareBytes]
 |a::l,b::m=>by
  have ih:=cmp_lt l m
  unfold Lib.compareBytes
  rw[Bool.eq_iff_iff] at ih⊢
  simp only[decide_eq_true_eq,List.cons_lt_cons_iff] at ih⊢
  by_cases h1:a<b
  · simp[h1]
  · by_cases h2:b<a
    · have:a≠b:=fun e=>by subst e;exact h1 h2
      simp[h1,h2,this]
    · have:a=b:=UInt8.le_antisymm (UInt8.not_lt.1 h2) (UInt8.not_lt.1 h1)
      subst this
      simp[h1,ih]
theorem cmp_eq: ∀a b:Str,(Lib.compareBytes a b==0)=(a==b)
 | [],[] =>by simp[Lib.compareBytes]
 | [],_::_=>by simp[Lib.compareBytes]
 |_::_,[] =>by simp[Lib.compareBytes]
 |a::l,b::m=>by
  have ih:=cmp_eq l m
  unfold Lib.compareBytes
  rw[Bool.eq_iff_iff] at ih⊢
  simp only[beq_iff_eq,List.cons.injEq] at ih⊢
  by_cases h1:a<b
  · have:a≠b:=fun e=>by subst e;exact absurd h1 (UInt8.lt_irrefl _)
    simp[h1,this]
  · by_cases h2:b<a
    · have:a≠b:=fun e=>by subst e;exact h1 h2
      simp[h1,h2,this]
    · have:a=b:=UInt8.le_antisymm (UInt8.not_lt.1 h2) (UInt8.not_lt.1 h1)
      subst this
      simp[h1,ih]
theorem extCmp:extOk Tryz.prog 90 Extern.BytealgCompare.compare:=⟨Tryz.f90,Tryz.func90,by kernel_rfl,by kernel_rfl,by kernel_rfl,by kernel_rfl⟩
theorem cmpString_any(a b:Str):CallA Tryz.prog 69 [aS a,aS b] [] [] [] (aI (Lib.compareBytes a b)):=by
 refine CallA.intro _ Tryz.func69 rfl Tryz.ntmps69 rfl (fun w0 E0=> ?_)
 (repeat' (first|(apply s_vr;exact rfl;apply v_cmpB;exact extCmp;exact rfl;exact rfl)|refine wk1 ?_|refine wk2 (fun hb hp=> ?_) (fun hb hp=> ?_)|fail))
 all_goals refine wkf ?_
 all_goals rfl
theorem compare_any(a b:Str):CallA Tryz.prog 45 [aS a,aS b] [] [] [] (aI (Lib.compareBytes a b)):=by
 refine CallA.intro _ Tryz.func45 rfl Tryz.ntmps45 rfl (fun w0 E0=> ?_)
 (repeat' (first|(refine LW.is ?_;first|(apply s_call0;exact rfl;rotate_left;exact rfl;rotate_left 3;exact cmpString_any a b;exact rfl))|(refine DR.is ?_;first|(apply d_call0;exact rfl;rotate_left;exact rfl;rotate_left 3;exact cmpString_any a b;exact rfl))|refine wk1 ?_|refine wk2 (fun hb hp=> ?_) (fun hb hp=> ?_)|fail))
 all_goals refine wkf ?_
 all_goals rfl
theorem with1_any(a b:Str)(cols:IV):CallA Tryz.prog 44 [.agg [.iv (S a),.iv cols],aS b] [] [] [] (aI (Lib.compareBytes a b)):=by
 refine CallA.intro _ Tryz.func44 rfl Tryz.ntmps44 rfl (fun w0 E0=> ?_)
 (repeat' (first|(refine LW.is ?_;first|(apply s_call0;exact rfl;rotate_left;exact rfl;rotate_left 3;exact compare_any a b;exact rfl))|(refine DR.is ?_;first|(apply d_call0;exact rfl;rotate_left;exact rfl;rotate_left 3;exact compare_any a b;exact rfl))|refine wk1 ?_|refine wk2 (fun hb hp=> ?_) (fun hb hp=> ?_)|fail))
 all_goals refine wkf ?_
 all_goals rfl
theorem with2_any(a b:Str)(x y:IV):CallA Tryz.prog 48 [.agg [.iv (S a),.iv x,.iv y],aS b] [] [] [] (aI (Lib.compareBytes a b)):=by
 refine CallA.intro _ Tryz.func48 rfl Tryz.ntmps48 rfl (fun w0 E0=> ?_)
 (repeat' (first|(refine LW.is ?_;first|(apply s_call0;exact rfl;rotate_left;exact rfl;rotate_left 3;exact compare_any a b;exact rfl))|(refine DR.is ?_;first|(apply d_call0;exact rfl;rotate_left;exact rfl;rotate_left 3;exact compare_any a b;exact rfl))|refine wk1 ?_|refine wk2 (fun hb hp=> ?_) (fun hb hp=> ?_)|fail))
 all_goals refine wkf ?_
 all_goals rfl
theorem rowAt{k i:Nat}{es:List (List IV)}{e:List IV}(hk: ∀e∈es,e.length=k)(h:es[i]?=some e){t:TypeId}:((Box.mk t (.r es.flatten 0)).cs.drop (i*k)).take k=e.map .iv:=by
 rw[Box.cs_r,List.replicate_zero,List.append_nil,←List.map_drop,←List.map_take,flat_pick es i e hk h]
set_option maxHeartbeats 4000000 in
theorem bsT_any{gs:Globs}(ts:List Tab)(key:Str)(hne:ts≠ [])(hl:ts.length≤140737488355328)(hf:Falls (fun s=>decide (s<key)) (ts.map Tab.n)):
 CallG gs Tryz.prog 43 [.bsh 1000 0 ts.length 2,aS key,.fn 44 []] [(1000,⟨47,.r (ts.map Tab.c).flatten 0⟩)] [(1000,⟨47,.r (ts.map Tab.c).flatten 0⟩)] [] (.tup [aI (lbM (ts.map Tab.n) key:Int),aB (foundM (ts.map Tab.n) key)]):=by
 refine CallG.intro _ Tryz.func43 rfl Tryz.ntmps43 rfl (fun w0 E0 hG=> ?_)
 have hle:lbM (ts.map Tab.n) key≤ts.length:=by have:=pre_le (fun s=>decide (s<key)) (ts.map Tab.n);rwa [List.length_map] at this
 have hk: ∀e∈ts.map Tab.c,e.length=2:=by intro e he;obtain⟨t,_,rfl⟩:=List.mem_map.1 he;rfl
 (repeat' (first|refine wk1 ?_|refine wk2 (fun hb hp=> ?_) (fun hb hp=> ?_)|fail))
 refine L.loopP (ι:=Nat×Nat) (fun i=>⟨[(9,aI (i.1:Int)),(10,aI (i.2:Int)),(8,aI (ts.length:Int)),(0,.bsh 1000 0 ts.length 2),(1,aS key),(2,.fn 44 [])],[(1000,⟨47,.r (ts.map Tab.c).flatten 0⟩)],[]⟩) (fun i=>i.2 - i.1) (fun i=>i.1≤lbM (ts.map Tab.n) key∧lbM (ts.map Tab.n) key≤i.2∧i.2≤ts.length) (i0:=(0,ts.length)) ?_ ⟨Nat.zero_le _,hle,Nat.le_refl _⟩ ?_
 · exact(Wk.mk' keys_some (.cons rfl (Sub.refl _) (.cons rfl (Sub.refl _) (.cons rfl (Sub.refl _) (.cons rfl (Sub.refl _) (.cons rfl (Sub.refl _) (.cons rfl (Sub.refl _) .nil)))))) (.cons rfl rfl (Subs.refl _) .nil) .nil)
 rintro ⟨i,j⟩ ⟨h1,h2,h3⟩ K hK
 dsimp only at h1 h2 h3⊢
 cases hlt:decide ((i:Int)<(j:Int)) with
 |true=>
  have hij:i<j:=by simpa using hlt
  have hh:=half i j (by omega)
  have hm:(i+j) / 2<ts.length:=by omega
  obtain⟨t,ht⟩: ∃t,ts[(i+j) / 2]?=some t:=⟨_,List.getElem?_eq_getElem hm⟩
  have hs:(ts.map Tab.n)[(i+j) / 2]?=some t.n:=by rw[List.getElem?_map,ht];rfl
  have g0:0≤IntKind.i64.wrap ((IntKind.u64.wrap ((i:Int)+(j:Int))).fdiv (2 ^ min (Int.toNat 1) IntKind.u64.bits)):=by rw[hh];omega
  have g1:IntKind.i64.wrap ((IntKind.u64.wrap ((i:Int)+(j:Int))).fdiv (2 ^ min (Int.toNat 1) IntKind.u64.bits))<(ts.length:Int):=by rw[hh];omega
  have g4:(0+(IntKind.i64.wrap ((IntKind.u64.wrap ((i:Int)+(j:Int))).fdiv (2 ^ min (Int.toNat 1) IntKind.u64.bits))).toNat)*2=(i+j) / 2*2:=by rw[hh,Int.toNat_natCast,Nat.zero_add]
  have g5:((Box.mk 47 (.r (ts.map Tab.c).flatten 0)).cs.drop ((i+j) / 2*2)).take 2= [.iv (S t.n),.iv (.sl (t.cols.map Col.c))]:=rowAt hk (by rw[List.getElem?_map,ht];rfl)
  have g2: -9223372036854775808≤IntKind.i64.wrap ((IntKind.u64.wrap ((i:Int)+(j:Int))).fdiv (2 ^ min (Int.toNat 1) IntKind.u64.bits))+1:=by omega
  have g3:IntKind.i64.wrap ((IntKind.u64.wrap ((i:Int)+(j:Int))).fdiv (2 ^ min (Int.toNat 1) IntKind.u64.bits))+1≤9223372036854775807:=by rw[hh];omega
  have kw:CallG gs Tryz.prog 44 ([.agg [.iv (S t.n),.iv (.sl (t.cols.map Col.c))],aS key] ++ []) [] [] [] (aI (Lib.compareBytes t.n key)):=(with1_any t.n key (.sl (t.cols.map Col.c))).toG (gs:=gs)
  cases hp:decide (t.n<key) with
  |true=>
   have:=hf.le hs (by simpa using hp)
   have hc:decide (Lib.compareBytes t.n key<0)=true:=by rw[cmp_lt];exact hp
   (repeat' (first|(apply s_callFn (f:=44) (caps:= []);exact rfl;exact hG;exact rfl;exact kw;exact rfl;exact .nil;exact rfl;exact rfl)|(refine LW.is ?_;first|(apply s_vr;exact rfl;apply v_addI;exact rfl;exact rfl;exact g2;exact g3)|(apply s_vr;exact rfl;apply v_indexBsh;exact rfl;exact rfl;exact g0;exact g1;exact g4)|(apply s_vr;exact rfl;apply v_loadAP;exact rfl;exact rfl;exact g5;exact rfl))|(refine DR.is ?_;first|(apply d_vr;exact rfl;apply v_addI;exact rfl;exact rfl;exact g2;exact g3)|(apply d_vr;exact rfl;apply v_indexBsh;exact rfl;exact rfl;exact g0;exact g1;exact g4)|(apply d_vr;exact rfl;apply v_loadAP;exact rfl;exact rfl;exact g5;exact rfl))|refine wk1 ?_|refine wk2 (fun hb hp=> ?_) (fun hb hp=> ?_)|fail))
   refine hK _ ((i+j) / 2+1,j) ⟨by unfold lbM;omega,h2,h3⟩ (by dsimp only;omega) ?_
   refine(Wk.mk' keys_some (.cons rfl (Sub.of_eq (congrArg (fun z=>aI z) ?_)) (.cons rfl (Sub.refl _) (.cons rfl (Sub.refl _) (.cons rfl (Sub.refl _) (.cons rfl (Sub.refl _) (.cons rfl (Sub.refl _) .nil)))))) (.cons rfl rfl (Subs.refl _) .nil) .nil)
   rw[hh];rfl
  |false=>
   have:=Falls.ge (p:=fun s=>decide (s<key)) hs (by simpa using hp)
   have hc:decide (Lib.compareBytes t.n key<0)=false:=by rw[cmp_lt];exact hp
   (repeat' (first|(apply s_callFn (f:=44) (caps:= []);exact rfl;exact hG;exact rfl;exact kw;exact rfl;exact .nil;exact rfl;exact rfl)|(refine LW.is ?_;first|(apply s_vr;exact rfl;apply v_addI;exact rfl;exact rfl;exact g2;exact g3)|(apply s_vr;exact rfl;apply v_indexBsh;exact rfl;exact rfl;exact g0;exact g1;exact g4)|(apply s_vr;exact rfl;apply v_loadAP;exact rfl;exact rfl;exact g5;exact rfl))|(refine DR.is ?_;first|(apply d_vr;exact rfl;apply v_addI;exact rfl;exact rfl;exact g2;exact g3)|(apply d_vr;exact rfl;apply v_indexBsh;exact rfl;exact rfl;exact g0;exact g1;exact g4)|(apply d_vr;exact rfl;apply v_loadAP;exact rfl;exact rfl;exact g5;exact rfl))|refine wk1 ?_|refine wk2 (fun hb hp=> ?_) (fun hb hp=> ?_)|fail))
   refine hK _ (i,(i+j) / 2) ⟨h1,by unfold lbM;omega,by dsimp only;omega⟩ (by dsimp only;omega) ?_
   refine(Wk.mk' keys_some (.cons rfl (Sub.refl _) (.cons rfl (Sub.of_eq (congrArg (fun z=>aI z) ?_)) (.cons rfl (Sub.refl _) (.cons rfl (Sub.refl _) (.cons rfl (Sub.refl _) (.cons rfl (Sub.refl _) .nil)))))) (.cons rfl rfl (Subs.refl _) .nil) .nil)
   rw[hh]
 |false=>
  have hij: ¬i<j:=by simpa using hlt
  obtain rfl:i=lbM (ts.map Tab.n) key:=by omega
  cases ht:ts[lbM (ts.map Tab.n) key]? with
  |none=>
   have hlt2:decide (((lbM (ts.map Tab.n) key:Nat):Int)<(ts.length:Int))=false:=by have:=List.getElem?_eq_none_iff.1 ht;exact decide_eq_false (by omega)
   have hr:foundM (ts.map Tab.n) key=false:=by simp[foundM,ht]
   rw[hr]
   (repeat' (first|refine wk1 ?_|refine wk2 (fun hb hp=> ?_) (fun hb hp=> ?_)|fail))
   all_goals(apply L.ends;exact rfl;exact rfl;exact Sub.refl _;exact Wk.mk' keys_some .nil (.cons rfl rfl (Subs.refl _) .nil) .nil)
  |some t=>
   have hlt3:=(List.getElem?_eq_some_iff.1 ht).1
   have hlt2:decide (((lbM (ts.map Tab.n) key:Nat):Int)<(ts.length:Int))=true:=decide_eq_true (by omega)
   have hs:(ts.map Tab.n)[lbM (ts.map Tab.n) key]?=some t.n:=by rw[List.getElem?_map,ht];rfl
   have g0:0≤((lbM (ts.map Tab.n) key:Nat):Int):=by omega
   have g1:((lbM (ts.map Tab.n) key:Nat):Int)<(ts.length:Int):=by omega
   have g4:(0+(((lbM (ts.map Tab.n) key:Nat):Int)).toNat)*2=lbM (ts.map Tab.n) key*2:=by rw[Int.toNat_natCast,Nat.zero_add]
   have g5:((Box.mk 47 (.r (ts.map Tab.c).flatten 0)).cs.drop (lbM (ts.map Tab.n) key*2)).take 2= [.iv (S t.n),.iv (.sl (t.cols.map Col.c))]:=rowAt hk (by rw[List.getElem?_map,ht];rfl)
   have kw:CallG gs Tryz.prog 44 ([.agg [.iv (S t.n),.iv (.sl (t.cols.map Col.c))],aS key] ++ []) [] [] [] (aI (Lib.compareBytes t.n key)):=(with1_any t.n key (.sl (t.cols.map Col.c))).toG (gs:=gs)
   have hr:foundM (ts.map Tab.n) key=(Lib.compareBytes t.n key==0):=by rw[foundM,hs,cmp_eq];rfl
   rw[hr]
   (repeat' (first|(apply s_callFn (f:=44) (caps:= []);exact rfl;exact hG;exact rfl;exact kw;exact rfl;exact .nil;exact rfl;exact rfl)|(refine LW.is ?_;first|(apply s_vr;exact rfl;apply v_indexBsh;exact rfl;exact rfl;exact g0;exact g1;exact g4)|(apply s_vr;exact rfl;apply v_loadAP;exact rfl;exact rfl;exact g5;exact rfl))|(refine DR.is ?_;first|(apply d_vr;exact rfl;apply v_indexBsh;exact rfl;exact rfl;exact g0;exact g1;exact g4)|(apply d_vr;exact rfl;apply v_loadAP;exact rfl;exact rfl;exact g5;exact rfl))|refine wk1 ?_|refine wk2 (fun hb hp=> ?_) (fun hb hp=> ?_)|fail))
   all_goals(apply L.ends;exact rfl;exact rfl;exact Sub.refl _;exact Wk.mk' keys_some .nil (.cons rfl rfl (Subs.refl _) .nil) .nil)
set_option maxHeartbeats 4000000 in
theorem bsT_emp{gs:Globs}(key:Str):
 CallG gs Tryz.prog 43 [.iv (.sl []),aS key,.fn 44 []] [] [] [] (.tup [aI 0,aB false]):=by
 refine CallG.intro _ Tryz.func43 rfl Tryz.ntmps43 rfl (fun w0 E0 hG=> ?_)
 (repeat' (first|refine wk1 ?_|refine wk2 (fun hb hp=> ?_) (fun hb hp=> ?_)|fail))
 refine L.loopP (ι:=Nat) (fun i=>⟨[(9,aI 0),(10,aI 0),(8,aI 0),(0,.iv (.sl [])),(1,aS key),(2,.fn 44 [])],[],[]⟩) (fun i=>i) (fun i=>True) (i0:=0) ?_ trivial ?_
 · exact wkk
 intro i _ K hK
 (repeat' (first|refine wk1 ?_|refine wk2 (fun hb hp=> ?_) (fun hb hp=> ?_)|fail))
 all_goals refine wkf ?_
 all_goals rfl
set_option maxHeartbeats 4000000 in
theorem bsX_any{gs:Globs}(ts:List Idx)(key:Str)(hne:ts≠ [])(hl:ts.length≤140737488355328)(hf:Falls (fun s=>decide (s<key)) (ts.map Idx.n)):
 CallG gs Tryz.prog 47 [.bsh 1000 0 ts.length 3,aS key,.fn 48 []] [(1000,⟨64,.r (ts.map Idx.c).flatten 0⟩)] [(1000,⟨64,.r (ts.map Idx.c).flatten 0⟩)] [] (.tup [aI (lbM (ts.map Idx.n) key:Int),aB (foundM (ts.map Idx.n) key)]):=by
 refine CallG.intro _ Tryz.func47 rfl Tryz.ntmps47 rfl (fun w0 E0 hG=> ?_)
 have hle:lbM (ts.map Idx.n) key≤ts.length:=by have:=pre_le (fun s=>decide (s<key)) (ts.map Idx.n);rwa [List.length_map] at this
 have hk: ∀e∈ts.map Idx.c,e.length=3:=by intro e he;obtain⟨t,_,rfl⟩:=List.mem_map.1 he;rfl
 (repeat' (first|refine wk1 ?_|refine wk2 (fun hb hp=> ?_) (fun hb hp=> ?_)|fail))
 refine L.loopP (ι:=Nat×Nat) (fun i=>⟨[(9,aI (i.1:Int)),(10,aI (i.2:Int)),(8,aI (ts.length:Int)),(0,.bsh 1000 0 ts.length 3),(1,aS key),(2,.fn 48 [])],[(1000,⟨64,.r (ts.map Idx.c).flatten 0⟩)],[]⟩) (fun i=>i.2 - i.1) (fun i=>i.1≤lbM (ts.map Idx.n) key∧lbM (ts.map Idx.n) key≤i.2∧i.2≤ts.length) (i0:=(0,ts.length)) ?_ ⟨Nat.zero_le _,hle,Nat.le_refl _⟩ ?_
 · exact(Wk.mk' keys_some (.cons rfl (Sub.refl _) (.cons rfl (Sub.refl _) (.cons rfl (Sub.refl _) (.cons rfl (Sub.refl _) (.cons rfl (Sub.refl _) (.cons rfl (Sub.refl _) .nil)))))) (.cons rfl rfl (Subs.refl _) .nil) .nil)
 rintro ⟨i,j⟩ ⟨h1,h2,h3⟩ K hK
 dsimp only at h1 h2 h3⊢
 cases hlt:decide ((i:Int)<(j:Int)) with
 |true=>
  have hij:i<j:=by simpa using hlt
  have hh:=half i j (by omega)
  have hm:(i+j) / 2<ts.length:=by omega
  obtain⟨t,ht⟩: ∃t,ts[(i+j) / 2]?=some t:=⟨_,List.getElem?_eq_getElem hm⟩
  have hs:(ts.map Idx.n)[(i+j) / 2]?=some t.n:=by rw[List.getElem?_map,ht];rfl
  have g0:0≤IntKind.i64.wrap ((IntKind.u64.wrap ((i:Int)+(j:Int))).fdiv (2 ^ min (Int.toNat 1) IntKind.u64.bits)):=by rw[hh];omega
  have g1:IntKind.i64.wrap ((IntKind.u64.wrap ((i:Int)+(j:Int))).fdiv (2 ^ min (Int.toNat 1) IntKind.u64.bits))<(ts.length:Int):=by rw[hh];omega
  have g4:(0+(IntKind.i64.wrap ((IntKind.u64.wrap ((i:Int)+(j:Int))).fdiv (2 ^ min (Int.toNat 1) IntKind.u64.bits))).toNat)*3=(i+j) / 2*3:=by rw[hh,Int.toNat_natCast,Nat.zero_add]
  have g5:((Box.mk 64 (.r (ts.map Idx.c).flatten 0)).cs.drop ((i+j) / 2*3)).take 3= [.iv (S t.n),.iv (S t.tb),.iv (S t.co)]:=rowAt hk (by rw[List.getElem?_map,ht];rfl)
  have g2: -9223372036854775808≤IntKind.i64.wrap ((IntKind.u64.wrap ((i:Int)+(j:Int))).fdiv (2 ^ min (Int.toNat 1) IntKind.u64.bits))+1:=by omega
  have g3:IntKind.i64.wrap ((IntKind.u64.wrap ((i:Int)+(j:Int))).fdiv (2 ^ min (Int.toNat 1) IntKind.u64.bits))+1≤9223372036854775807:=by rw[hh];omega
  have kw:CallG gs Tryz.prog 48 ([.agg [.iv (S t.n),.iv (S t.tb),.iv (S t.co)],aS key] ++ []) [] [] [] (aI (Lib.compareBytes t.n key)):=(with2_any t.n key (S t.tb) (S t.co)).toG (gs:=gs)
  cases hp:decide (t.n<key) with
  |true=>
   have:=hf.le hs (by simpa using hp)
   have hc:decide (Lib.compareBytes t.n key<0)=true:=by rw[cmp_lt];exact hp
   (repeat' (first|(apply s_callFn (f:=48) (caps:= []);exact rfl;exact hG;exact rfl;exact kw;exact rfl;exact .nil;exact rfl;exact rfl)|(refine LW.is ?_;first|(apply s_vr;exact rfl;apply v_addI;exact rfl;exact rfl;exact g2;exact g3)|(apply s_vr;exact rfl;apply v_indexBsh;exact rfl;exact rfl;exact g0;exact g1;exact g4)|(apply s_vr;exact rfl;apply v_loadAP;exact rfl;exact rfl;exact g5;exact rfl))|(refine DR.is ?_;first|(apply d_vr;exact rfl;apply v_addI;exact rfl;exact rfl;exact g2;exact g3)|(apply d_vr;exact rfl;apply v_indexBsh;exact rfl;exact rfl;exact g0;exact g1;exact g4)|(apply d_vr;exact rfl;apply v_loadAP;exact rfl;exact rfl;exact g5;exact rfl))|refine wk1 ?_|refine wk2 (fun hb hp=> ?_) (fun hb hp=> ?_)|fail))
   refine hK _ ((i+j) / 2+1,j) ⟨by unfold lbM;omega,h2,h3⟩ (by dsimp only;omega) ?_
   refine(Wk.mk' keys_some (.cons rfl (Sub.of_eq (congrArg (fun z=>aI z) ?_)) (.cons rfl (Sub.refl _) (.cons rfl (Sub.refl _) (.cons rfl (Sub.refl _) (.cons rfl (Sub.refl _) (.cons rfl (Sub.refl _) .nil)))))) (.cons rfl rfl (Subs.refl _) .nil) .nil)
   rw[hh];rfl
  |false=>
   have:=Falls.ge (p:=fun s=>decide (s<key)) hs (by simpa using hp)
   have hc:decide (Lib.compareBytes t.n key<0)=false:=by rw[cmp_lt];exact hp
   (repeat' (first|(apply s_callFn (f:=48) (caps:= []);exact rfl;exact hG;exact rfl;exact kw;exact rfl;exact .nil;exact rfl;exact rfl)|(refine LW.is ?_;first|(apply s_vr;exact rfl;apply v_addI;exact rfl;exact rfl;exact g2;exact g3)|(apply s_vr;exact rfl;apply v_indexBsh;exact rfl;exact rfl;exact g0;exact g1;exact g4)|(apply s_vr;exact rfl;apply v_loadAP;exact rfl;exact rfl;exact g5;exact rfl))|(refine DR.is ?_;first|(apply d_vr;exact rfl;apply v_addI;exact rfl;exact rfl;exact g2;exact g3)|(apply d_vr;exact rfl;apply v_indexBsh;exact rfl;exact rfl;exact g0;exact g1;exact g4)|(apply d_vr;exact rfl;apply v_loadAP;exact rfl;exact rfl;exact g5;exact rfl))|refine wk1 ?_|refine wk2 (fun hb hp=> ?_) (fun hb hp=> ?_)|fail))
   refine hK _ (i,(i+j) / 2) ⟨h1,by unfold lbM;omega,by dsimp only;omega⟩ (by dsimp only;omega) ?_
   refine(Wk.mk' keys_some (.cons rfl (Sub.refl _) (.cons rfl (Sub.of_eq (congrArg (fun z=>aI z) ?_)) (.cons rfl (Sub.refl _) (.cons rfl (Sub.refl _) (.cons rfl (Sub.refl _) (.cons rfl (Sub.refl _) .nil)))))) (.cons rfl rfl (Subs.refl _) .nil) .nil)
   rw[hh]
 |false=>
  have hij: ¬i<j:=by simpa using hlt
  obtain rfl:i=lbM (ts.map Idx.n) key:=by omega
  cases ht:ts[lbM (ts.map Idx.n) key]? with
  |none=>
   have hlt2:decide (((lbM (ts.map Idx.n) key:Nat):Int)<(ts.length:Int))=false:=by have:=List.getElem?_eq_none_iff.1 ht;exact decide_eq_false (by omega)
   have hr:foundM (ts.map Idx.n) key=false:=by simp[foundM,ht]
   rw[hr]
   (repeat' (first|refine wk1 ?_|refine wk2 (fun hb hp=> ?_) (fun hb hp=> ?_)|fail))
   all_goals(apply L.ends;exact rfl;exact rfl;exact Sub.refl _;exact Wk.mk' keys_some .nil (.cons rfl rfl (Subs.refl _) .nil) .nil)
  |some t=>
   have hlt3:=(List.getElem?_eq_some_iff.1 ht).1
   have hlt2:decide (((lbM (ts.map Idx.n) key:Nat):Int)<(ts.length:Int))=true:=decide_eq_true (by omega)
   have hs:(ts.map Idx.n)[lbM (ts.map Idx.n) key]?=some t.n:=by rw[List.getElem?_map,ht];rfl
   have g0:0≤((lbM (ts.map Idx.n) key:Nat):Int):=by omega
   have g1:((lbM (ts.map Idx.n) key:Nat):Int)<(ts.length:Int):=by omega
   have g4:(0+(((lbM (ts.map Idx.n) key:Nat):Int)).toNat)*3=lbM (ts.map Idx.n) key*3:=by rw[Int.toNat_natCast,Nat.zero_add]
   have g5:((Box.mk 64 (.r (ts.map Idx.c).flatten 0)).cs.drop (lbM (ts.map Idx.n) key*3)).take 3= [.iv (S t.n),.iv (S t.tb),.iv (S t.co)]:=rowAt hk (by rw[List.getElem?_map,ht];rfl)
   have kw:CallG gs Tryz.prog 48 ([.agg [.iv (S t.n),.iv (S t.tb),.iv (S t.co)],aS key] ++ []) [] [] [] (aI (Lib.compareBytes t.n key)):=(with2_any t.n key (S t.tb) (S t.co)).toG (gs:=gs)
   have hr:foundM (ts.map Idx.n) key=(Lib.compareBytes t.n key==0):=by rw[foundM,hs,cmp_eq];rfl
   rw[hr]
   (repeat' (first|(apply s_callFn (f:=48) (caps:= []);exact rfl;exact hG;exact rfl;exact kw;exact rfl;exact .nil;exact rfl;exact rfl)|(refine LW.is ?_;first|(apply s_vr;exact rfl;apply v_indexBsh;exact rfl;exact rfl;exact g0;exact g1;exact g4)|(apply s_vr;exact rfl;apply v_loadAP;exact rfl;exact rfl;exact g5;exact rfl))|(refine DR.is ?_;first|(apply d_vr;exact rfl;apply v_indexBsh;exact rfl;exact rfl;exact g0;exact g1;exact g4)|(apply d_vr;exact rfl;apply v_loadAP;exact rfl;exact rfl;exact g5;exact rfl))|refine wk1 ?_|refine wk2 (fun hb hp=> ?_) (fun hb hp=> ?_)|fail))
   all_goals(apply L.ends;exact rfl;exact rfl;exact Sub.refl _;exact Wk.mk' keys_some .nil (.cons rfl rfl (Subs.refl _) .nil) .nil)
set_option maxHeartbeats 4000000 in
theorem bsX_emp{gs:Globs}(key:Str):
 CallG gs Tryz.prog 47 [.iv (.sl []),aS key,.fn 48 []] [] [] [] (.tup [aI 0,aB false]):=by
 refine CallG.intro _ Tryz.func47 rfl Tryz.ntmps47 rfl (fun w0 E0 hG=> ?_)
 (repeat' (first|refine wk1 ?_|refine wk2 (fun hb hp=> ?_) (fun hb hp=> ?_)|fail))
 refine L.loopP (ι:=Nat) (fun i=>⟨[(9,aI 0),(10,aI 0),(8,aI 0),(0,.iv (.sl [])),(1,aS key),(2,.fn 48 [])],[],[]⟩) (fun i=>i) (fun i=>True) (i0:=0) ?_ trivial ?_
 · exact wkk
 intro i _ K hK
 (repeat' (first|refine wk1 ?_|refine wk2 (fun hb hp=> ?_) (fun hb hp=> ?_)|fail))
 all_goals refine wkf ?_
 all_goals rfl
end Go.Proofs.YthcjohcakdnmmaaGreatDoor
