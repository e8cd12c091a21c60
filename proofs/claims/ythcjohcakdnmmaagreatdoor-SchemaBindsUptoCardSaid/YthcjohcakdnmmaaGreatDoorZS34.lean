/- Several texts in one, each with its own sentence ahead of it. Conditions: each one says its own. -/
import Derived.Test.YthcjohcakdnmmaaGreatDoorZS33
set_option linter.all false
namespace Go.Proofs.YthcjohcakdnmmaaGreatDoor
open Go.Abs
set_option maxRecDepth 100000
attribute [local irreducible] L Code.wp bodyPost Exit.then Exit.inBlock
set_option linter.unusedVariables false
set_option linter.unusedSimpArgs false
theorem bo2N{i:Nat}{t:TypeId}{xs:List IV}{b:Box}(h:xs≠ [])(hb:b.cs.isEmpty=false):boOk [] [(i,⟨t,.r xs 0⟩),(3,b)] [(i,⟨t,.l []⟩),(3,b)] =true:=by
 cases xs with
 |nil=>exact absurd rfl h
 |cons x l=>simp[boOk,keys,hb]
theorem bm2N{L:List Nat}{i:Nat}{t:TypeId}{b:Box}(hb:AV.mentsIn L b.cs=true):([(i,(⟨t,.l []⟩:Box)),(3,b)]:List (Nat×Box)).all (fun p=>AV.mentsIn L p.2.cs)=true:=by simp[AV.mentsIn,hb]
set_option maxHeartbeats 8000000 in
theorem with_oEE{gs:Globs}(s:Stm)(k1:(s.kind==1)=false)(k2:(s.kind==2)=false)(k3:(s.kind==3)=false):
 CallG gs Tryz.prog 19 [.agg ((Cat.mk [] []).c.map .iv),.agg (s.cs.map .iv)] [] [] [] (.agg ((Cat.mk ([]:List Tab) ([]:List Idx)).c.map .iv)):=by
 refine CallG.intro _ Tryz.func19 rfl Tryz.ntmps19 rfl (fun w0 E0 hG=> ?_)
 (repeat' (first|(refine LW.is ?_;first|(apply s_call0;exact rfl;rotate_left;exact rfl;rotate_left 3;exact cloneT_emp;exact rfl)|(apply s_call0;exact rfl;rotate_left;exact rfl;rotate_left 3;exact cloneX_emp;exact rfl))|(refine DR.is ?_;first|(apply d_call0;exact rfl;rotate_left;exact rfl;rotate_left 3;exact cloneT_emp;exact rfl)|(apply d_call0;exact rfl;rotate_left;exact rfl;rotate_left 3;exact cloneX_emp;exact rfl))|refine wk1 ?_|refine wk2 (fun hb hp=> ?_) (fun hb hp=> ?_)|fail))
 all_goals refine wkf ?_
 all_goals rfl
set_option maxHeartbeats 8000000 in
theorem with_oKE{gs:Globs}(s:Stm)(ts:List Tab)(ht:ts≠ [])(htl:ts.length≤4)(k1:(s.kind==1)=false)(k2:(s.kind==2)=false)(k3:(s.kind==3)=false):
 CallG gs Tryz.prog 19 [.agg ((Cat.mk ts []).c.map .iv),.agg (s.cs.map .iv)] [] [] [] (.agg ((Cat.mk ts ([]:List Idx)).c.map .iv)):=by
 refine CallG.intro _ Tryz.func19 rfl Tryz.ntmps19 rfl (fun w0 E0 hG=> ?_)
 have hkT: ∀e∈ts.map Tab.c,e.length=2:=by intro e he;obtain⟨t,_,rfl⟩:=List.mem_map.1 he;rfl
 have qT:=cloneT_any (ts.map Tab.c) hkT (by simpa using ht) (by rw[List.length_map];simp[maxLen];omega) (by rw[List.length_map];omega)
 rw[List.length_map] at qT
 have hfT:(ts.map Tab.c).flatten≠ []:=flat_ne hkT (by decide) (by simpa using ht)
 (repeat' (first|(refine LW.is ?_;first|(apply s_call0;exact rfl;rotate_left;exact rfl;rotate_left 3;exact cloneX_emp;exact rfl))|(refine DR.is ?_;first|(apply d_call0;exact rfl;rotate_left;exact rfl;rotate_left 3;exact cloneX_emp;exact rfl))|refine wk1 ?_|refine wk2 (fun hb hp=> ?_) (fun hb hp=> ?_)|fail))
 all_goals(apply L.pubB 11 4 (es:=ts.map Tab.c) (k:=2);exact rfl;exact rfl;exact hkT;decide;exact(by simpa using ht);exact List.length_map _;exact rfl;exact List.cons_ne_nil _ _;exact rfl;exact .cons .here (.cons .same .nil))
 all_goals refine wkf ?_
 all_goals rfl
set_option maxHeartbeats 8000000 in
theorem with_cEE{gs:Globs}(s:Stm)(k1:(s.kind==1)=true):
 CallG gs Tryz.prog 19 [.agg ((Cat.mk [] []).c.map .iv),.agg (s.cs.map .iv)] [] [] [] (.agg ((Cat.mk [⟨s.name,s.cols⟩] ([]:List Idx)).c.map .iv)):=by
 refine CallG.intro _ Tryz.func19 rfl Tryz.ntmps19 rfl (fun w0 E0 hG=> ?_)
 (repeat' (first|(apply s_callW [];exact rfl;exact hG;exact bsT_emp s.name;exact .of_pub rfl;exact .nil;exact rfl;exact rfl;exact rfl;exact rfl)|(apply s_callW [];exact rfl;exact hG;exact(insertT_emp [S s.name,.sl (s.cols.map Col.c)] rfl).toG;exact .cons (Sub.refl _) (.cons (Sub.refl _) (.cons (Sub.row _ _) .nil));exact .nil;exact rfl;exact rfl;exact rfl;exact rfl)|(refine LW.is ?_;first|(apply s_call0;exact rfl;rotate_left;exact rfl;rotate_left 3;exact cloneT_emp;exact rfl)|(apply s_call0;exact rfl;rotate_left;exact rfl;rotate_left 3;exact cloneX_emp;exact rfl))|(refine DR.is ?_;first|(apply d_call0;exact rfl;rotate_left;exact rfl;rotate_left 3;exact cloneT_emp;exact rfl)|(apply d_call0;exact rfl;rotate_left;exact rfl;rotate_left 3;exact cloneX_emp;exact rfl))|refine wk1 ?_|refine wk2 (fun hb hp=> ?_) (fun hb hp=> ?_)|fail))
 all_goals refine wkf ?_
 all_goals rfl
set_option maxHeartbeats 8000000 in
theorem with_cKE{gs:Globs}(s:Stm)(ts:List Tab)(ht:ts≠ [])(htl:ts.length≤4)(hfl:Falls (fun x=>decide (x<s.name)) (ts.map Tab.n))(k1:(s.kind==1)=true):
 CallG gs Tryz.prog 19 [.agg ((Cat.mk ts []).c.map .iv),.agg (s.cs.map .iv)] [] [] [] (.agg ((Cat.mk (ts.take (lbM (ts.map Tab.n) s.name)++⟨s.name,s.cols⟩::ts.drop (lbM (ts.map Tab.n) s.name):List Tab) ([]:List Idx)).c.map .iv)):=by
 refine CallG.intro _ Tryz.func19 rfl Tryz.ntmps19 rfl (fun w0 E0 hG=> ?_)
 have hkT: ∀e∈ts.map Tab.c,e.length=2:=by intro e he;obtain⟨t,_,rfl⟩:=List.mem_map.1 he;rfl
 have qT:=cloneT_any (ts.map Tab.c) hkT (by simpa using ht) (by rw[List.length_map];simp[maxLen];omega) (by rw[List.length_map];omega)
 rw[List.length_map] at qT
 have hfT:(ts.map Tab.c).flatten≠ []:=flat_ne hkT (by decide) (by simpa using ht)
 have hle:lbM (ts.map Tab.n) s.name≤ts.length:=by have:=pre_le (fun x=>decide (x<s.name)) (ts.map Tab.n);rwa [List.length_map] at this
 have uT:=insertT_any (ts.map Tab.c) [S s.name,.sl (s.cols.map Col.c)] (lbM (ts.map Tab.n) s.name) hkT rfl (by simpa using ht) (by rw[List.length_map];exact hle) (by rw[List.length_map];simp[maxLen];omega) (by rw[List.length_map];omega)
 rw[List.length_map] at uT
 have hE:(ts.map Tab.c).take (lbM (ts.map Tab.n) s.name)++ [S s.name,.sl (s.cols.map Col.c)]::(ts.map Tab.c).drop (lbM (ts.map Tab.n) s.name)=(ts.take (lbM (ts.map Tab.n) s.name)++⟨s.name,s.cols⟩::ts.drop (lbM (ts.map Tab.n) s.name):List Tab).map Tab.c:=by simp[List.map_take,List.map_drop,Tab.c]
 rw[hE] at uT
 have hkn: ∀e∈(ts.take (lbM (ts.map Tab.n) s.name)++⟨s.name,s.cols⟩::ts.drop (lbM (ts.map Tab.n) s.name):List Tab).map Tab.c,e.length=2:=by intro e he;obtain⟨t,_,rfl⟩:=List.mem_map.1 he;rfl
 have hnl:((ts.take (lbM (ts.map Tab.n) s.name)++⟨s.name,s.cols⟩::ts.drop (lbM (ts.map Tab.n) s.name):List Tab).map Tab.c).length=ts.length+1:=by simp;omega
 have zT:=(bsT_any (gs:=gs) ts s.name ht (by omega) hfl).sws [(1000,11)] (args2:= [.bsh 11 0 ts.length 2,aS s.name,.fn 44 []]) (bx2:= [(11,⟨47,.r (ts.map Tab.c).flatten 0⟩)]) (bx2':= [(11,⟨47,.r (ts.map Tab.c).flatten 0⟩)]) (tk2':= []) (res2:= .tup [aI (lbM (ts.map Tab.n) s.name:Int),aB (foundM (ts.map Tab.n) s.name)]) rfl rfl rfl rfl rfl
 (repeat' (first|(apply s_callW [];exact rfl;exact hG;exact zT;exact Subs.refl _;exact .cons rfl rfl (Subs.refl _) .nil;exact rfl;exact bo1 hfT;exact bm1;exact rfl)|(refine LW.is ?_;first|(apply s_buildR (es:= [[S s.name,.sl (s.cols.map Col.c)]]);exact rfl;exact rfl;exact rfl;exact rfl;exact rfl;exact rfl;exact rfl;exact rfl;exact rfl)|(apply s_call21;exact rfl;exact uT;exact rfl;exact rfl;exact rfl;exact hfT;exact List.cons_ne_nil _ _;exact rfl;exact rfl;exact rfl)|(apply s_call0;exact rfl;rotate_left;exact rfl;rotate_left 3;exact cloneX_emp;exact rfl))|(refine DR.is ?_;first|(apply d_buildR (es:= [[S s.name,.sl (s.cols.map Col.c)]]);exact rfl;exact rfl;exact rfl;exact rfl;exact rfl;exact rfl;exact rfl;exact rfl;exact rfl)|(apply d_call21;exact rfl;exact uT;exact rfl;exact rfl;exact rfl;exact hfT;exact List.cons_ne_nil _ _;exact rfl;exact rfl;exact rfl)|(apply d_call0;exact rfl;rotate_left;exact rfl;rotate_left 3;exact cloneX_emp;exact rfl))|refine wk1 ?_|refine wk2 (fun hb hp=> ?_) (fun hb hp=> ?_)|fail))
 all_goals(apply L.pubB 38 4 (es:=(ts.take (lbM (ts.map Tab.n) s.name)++⟨s.name,s.cols⟩::ts.drop (lbM (ts.map Tab.n) s.name):List Tab).map Tab.c) (k:=2);exact rfl;exact rfl;exact hkn;decide;exact(by simp);exact hnl;exact rfl;exact List.cons_ne_nil _ _;exact rfl;exact .cons .here (.cons .same .nil))
 all_goals refine wkf ?_
 all_goals rfl
set_option maxHeartbeats 8000000 in
theorem with_mKE{gs:Globs}(s:Stm)(ts:List Tab)(ht:ts≠ [])(htl:ts.length≤4)(k1:(s.kind==1)=false)(k2:(s.kind==2)=true):
 CallG gs Tryz.prog 19 [.agg ((Cat.mk ts []).c.map .iv),.agg (s.cs.map .iv)] [] [] [] (.agg ((Cat.mk ts [⟨s.name,s.table,s.col⟩]).c.map .iv)):=by
 refine CallG.intro _ Tryz.func19 rfl Tryz.ntmps19 rfl (fun w0 E0 hG=> ?_)
 have hkT: ∀e∈ts.map Tab.c,e.length=2:=by intro e he;obtain⟨t,_,rfl⟩:=List.mem_map.1 he;rfl
 have qT:=cloneT_any (ts.map Tab.c) hkT (by simpa using ht) (by rw[List.length_map];simp[maxLen];omega) (by rw[List.length_map];omega)
 rw[List.length_map] at qT
 have hfT:(ts.map Tab.c).flatten≠ []:=flat_ne hkT (by decide) (by simpa using ht)
 (repeat' (first|(apply s_callW [];exact rfl;exact hG;exact bsX_emp s.name;exact .of_pub rfl;exact .nil;exact rfl;exact rfl;exact rfl;exact rfl)|(apply s_callW [];exact rfl;exact hG;exact(insertX_emp [S s.name,S s.table,S s.col] rfl).toG;exact .cons (Sub.refl _) (.cons (Sub.refl _) (.cons (Sub.row _ _) .nil));exact .nil;exact rfl;exact rfl;exact rfl;exact rfl)|(refine LW.is ?_;first|(apply s_call0;exact rfl;rotate_left;exact rfl;rotate_left 3;exact cloneX_emp;exact rfl))|(refine DR.is ?_;first|(apply d_call0;exact rfl;rotate_left;exact rfl;rotate_left 3;exact cloneX_emp;exact rfl))|refine wk1 ?_|refine wk2 (fun hb hp=> ?_) (fun hb hp=> ?_)|fail))
 all_goals(apply L.pubB 11 4 (es:=ts.map Tab.c) (k:=2);exact rfl;exact rfl;exact hkT;decide;exact(by simpa using ht);exact List.length_map _;exact rfl;exact List.cons_ne_nil _ _;exact rfl;exact .cons .here (.cons .same .nil))
 all_goals refine wkf ?_
 all_goals rfl
set_option maxHeartbeats 8000000 in
theorem with_dKE{gs:Globs}(s:Stm)(ts:List Tab)(ht:ts≠ [])(htl:ts.length≤4)(hkT0:ts.filter (fun x=> !(x.n==s.name))≠ [])(k1:(s.kind==1)=false)(k2:(s.kind==2)=false)(k3:(s.kind==3)=true):
 CallG gs Tryz.prog 19 [.agg ((Cat.mk ts []).c.map .iv),.agg (s.cs.map .iv)] [] [] [] (.agg ((Cat.mk (ts.filter (fun x=> !(x.n==s.name))) ([]:List Idx)).c.map .iv)):=by
 refine CallG.intro _ Tryz.func19 rfl Tryz.ntmps19 rfl (fun w0 E0 hG=> ?_)
 have hkT: ∀e∈ts.map Tab.c,e.length=2:=by intro e he;obtain⟨t,_,rfl⟩:=List.mem_map.1 he;rfl
 have qT:=cloneT_any (ts.map Tab.c) hkT (by simpa using ht) (by rw[List.length_map];simp[maxLen];omega) (by rw[List.length_map];omega)
 rw[List.length_map] at qT
 have hfT:(ts.map Tab.c).flatten≠ []:=flat_ne hkT (by decide) (by simpa using ht)
 have rT:=dfT_kept (gs:=gs) (f:=51) (s:=s) (fun t=>t.n==s.name) ts ht (by omega) rfl (hmx2 hfT rfl) (fun y _=>((with3_any s y.n (.sl (y.cols.map Col.c))).toG (gs:=gs)).sws [(1000,1001)] rfl rfl rfl rfl rfl) hkT0
 have sT:=rT.sws [(1002,68),(1001,3),(1000,11)] (args2:= [.bsh 11 0 ts.length 2,.fn 51 [.ptr 3 0]]) (bx2:= [(11,⟨47,.r (ts.map Tab.c).flatten 0⟩),(3,(Box.mk 36 (.l (s.cs.map .iv))))]) (bx2':= [(68,⟨47,.r ((ts.filter (fun x=> !(x.n==s.name))).map Tab.c).flatten 0⟩),(11,⟨47,.l []⟩),(3,(Box.mk 36 (.l (s.cs.map .iv))))]) (tk2':= []) (res2:= .bsh 68 0 (ts.filter (fun x=> !(x.n==s.name))).length 2) rfl rfl rfl rfl rfl
 have sX:=(dfX_emp (gs:=gs) (f:=53) (s:=s)).sws [(1001,3)] (args2:= [.iv (.sl []),.fn 53 [.ptr 3 0]]) (bx2:= [(3,(Box.mk 36 (.l (s.cs.map .iv))))]) (bx2':= [(3,(Box.mk 36 (.l (s.cs.map .iv))))]) (tk2':= []) (res2:= .iv (.sl [])) rfl rfl rfl rfl rfl
 (repeat' (first|(apply s_callW [68];exact rfl;exact hG;exact sT;exact Subs.refl _;exact .cons rfl rfl (Subs.refl _) (.cons rfl rfl (Subs.refl _) .nil);exact rfl;exact bo2 hfT rfl;exact bm2 rfl;exact rfl)|(apply s_callW [];exact rfl;exact hG;exact sX;exact .of_pub rfl;exact .cons rfl rfl (Subs.refl _) .nil;exact rfl;exact rfl;exact rfl;exact rfl)|(apply s_vr;exact rfl;apply v_makeFunc;exact rfl)|(refine LW.is ?_;first|(apply s_call0;exact rfl;rotate_left;exact rfl;rotate_left 3;exact cloneX_emp;exact rfl))|(refine DR.is ?_;first|(apply d_call0;exact rfl;rotate_left;exact rfl;rotate_left 3;exact cloneX_emp;exact rfl))|refine wk1 ?_|refine wk2 (fun hb hp=> ?_) (fun hb hp=> ?_)|fail))
 all_goals(apply L.pubB 68 4 (es:=(ts.filter (fun x=> !(x.n==s.name))).map Tab.c) (k:=2);exact rfl;exact rfl;exact(by intro e he;obtain⟨t,_,rfl⟩:=List.mem_map.1 he;rfl);decide;exact(by simpa using hkT0);exact List.length_map _;exact rfl;exact List.cons_ne_nil _ _;exact rfl;exact .cons .here (.cons .same .nil))
 all_goals refine wkf ?_
 all_goals rfl
set_option maxHeartbeats 8000000 in
theorem with_dKN{gs:Globs}(s:Stm)(ts:List Tab)(ht:ts≠ [])(htl:ts.length≤4)(hkT0:ts.filter (fun x=> !(x.n==s.name))≠ [])(is:List Idx)(hi:is≠ [])(hil:is.length≤4)(hnX0:is.filter (fun x=> !(x.tb==s.name))= [])(iX:Nat)(xX:Idx)(hbX: ∀y∈is.take iX,(fun x=>x.tb==s.name) y=false)(hxX:is[iX]?=some xX)(hpX:(fun x=>x.tb==s.name) xX=true)(k1:(s.kind==1)=false)(k2:(s.kind==2)=false)(k3:(s.kind==3)=true):
 CallG gs Tryz.prog 19 [.agg ((Cat.mk ts is).c.map .iv),.agg (s.cs.map .iv)] [] [] [] (.agg ((Cat.mk (ts.filter (fun x=> !(x.n==s.name))) []).c.map .iv)):=by
 refine CallG.intro _ Tryz.func19 rfl Tryz.ntmps19 rfl (fun w0 E0 hG=> ?_)
 have hkT: ∀e∈ts.map Tab.c,e.length=2:=by intro e he;obtain⟨t,_,rfl⟩:=List.mem_map.1 he;rfl
 have qT:=cloneT_any (ts.map Tab.c) hkT (by simpa using ht) (by rw[List.length_map];simp[maxLen];omega) (by rw[List.length_map];omega)
 rw[List.length_map] at qT
 have hfT:(ts.map Tab.c).flatten≠ []:=flat_ne hkT (by decide) (by simpa using ht)
 have rT:=dfT_kept (gs:=gs) (f:=51) (s:=s) (fun t=>t.n==s.name) ts ht (by omega) rfl (hmx2 hfT rfl) (fun y _=>((with3_any s y.n (.sl (y.cols.map Col.c))).toG (gs:=gs)).sws [(1000,1001)] rfl rfl rfl rfl rfl) hkT0
 have sT:=rT.sws [(1002,68),(1001,3),(1000,11)] (args2:= [.bsh 11 0 ts.length 2,.fn 51 [.ptr 3 0]]) (bx2:= [(11,⟨47,.r (ts.map Tab.c).flatten 0⟩),(3,(Box.mk 36 (.l (s.cs.map .iv))))]) (bx2':= [(68,⟨47,.r ((ts.filter (fun x=> !(x.n==s.name))).map Tab.c).flatten 0⟩),(11,⟨47,.l []⟩),(3,(Box.mk 36 (.l (s.cs.map .iv))))]) (tk2':= []) (res2:= .bsh 68 0 (ts.filter (fun x=> !(x.n==s.name))).length 2) rfl rfl rfl rfl rfl
 have hkX: ∀e∈is.map Idx.c,e.length=3:=by intro e he;obtain⟨t,_,rfl⟩:=List.mem_map.1 he;rfl
 have qX:=cloneX_any (is.map Idx.c) hkX (by simpa using hi) (by rw[List.length_map];simp[maxLen];omega) (by rw[List.length_map];omega)
 rw[List.length_map] at qX
 have hfX:(is.map Idx.c).flatten≠ []:=flat_ne hkX (by decide) (by simpa using hi)
 have rX:=dfX_none (gs:=gs) (f:=53) (s:=s) (fun x=>x.tb==s.name) is hi (by omega) rfl (hmx2 hfX rfl) (fun y _=>((with4_any s y.n y.tb (S y.co)).toG (gs:=gs)).sws [(1000,1001)] rfl rfl rfl rfl rfl) hnX0 iX xX hbX hxX hpX
 have sX:=rX.sws [(1001,3),(1000,14)] (args2:= [.bsh 14 0 is.length 3,.fn 53 [.ptr 3 0]]) (bx2:= [(14,⟨64,.r (is.map Idx.c).flatten 0⟩),(3,(Box.mk 36 (.l (s.cs.map .iv))))]) (bx2':= [(14,⟨64,.l []⟩),(3,(Box.mk 36 (.l (s.cs.map .iv))))]) (tk2':= []) (res2:= .iv (.sl [])) rfl rfl rfl rfl rfl
 (repeat' (first|(apply s_callW [68];exact rfl;exact hG;exact sT;exact Subs.refl _;exact .cons rfl rfl (Subs.refl _) (.cons rfl rfl (Subs.refl _) .nil);exact rfl;exact bo2 hfT rfl;exact bm2 rfl;exact rfl)|(apply s_callW [];exact rfl;exact hG;exact sX;exact Subs.refl _;exact .cons rfl rfl (Subs.refl _) (.cons rfl rfl (Subs.refl _) .nil);exact rfl;exact bo2N hfX rfl;exact bm2N rfl;exact rfl)|(apply s_vr;exact rfl;apply v_makeFunc;exact rfl)|refine wk1 ?_|refine wk2 (fun hb hp=> ?_) (fun hb hp=> ?_)|fail))
 all_goals(apply L.pubB 68 4 (es:=(ts.filter (fun x=> !(x.n==s.name))).map Tab.c) (k:=2);exact rfl;exact rfl;exact(by intro e he;obtain⟨t,_,rfl⟩:=List.mem_map.1 he;rfl);decide;exact(by simpa using hkT0);exact List.length_map _;exact rfl;exact List.cons_ne_nil _ _;exact rfl;exact .cons .here (.cons .same .nil))
 all_goals refine wkf ?_
 all_goals rfl
set_option maxHeartbeats 8000000 in
theorem with_dNE{gs:Globs}(s:Stm)(ts:List Tab)(ht:ts≠ [])(htl:ts.length≤4)(hnT0:ts.filter (fun x=> !(x.n==s.name))= [])(iT:Nat)(xT:Tab)(hbT: ∀y∈ts.take iT,(fun t=>t.n==s.name) y=false)(hxT:ts[iT]?=some xT)(hpT:(fun t=>t.n==s.name) xT=true)(k1:(s.kind==1)=false)(k2:(s.kind==2)=false)(k3:(s.kind==3)=true):
 CallG gs Tryz.prog 19 [.agg ((Cat.mk ts []).c.map .iv),.agg (s.cs.map .iv)] [] [] [] (.agg ((Cat.mk [] ([]:List Idx)).c.map .iv)):=by
 refine CallG.intro _ Tryz.func19 rfl Tryz.ntmps19 rfl (fun w0 E0 hG=> ?_)
 have hkT: ∀e∈ts.map Tab.c,e.length=2:=by intro e he;obtain⟨t,_,rfl⟩:=List.mem_map.1 he;rfl
 have qT:=cloneT_any (ts.map Tab.c) hkT (by simpa using ht) (by rw[List.length_map];simp[maxLen];omega) (by rw[List.length_map];omega)
 rw[List.length_map] at qT
 have hfT:(ts.map Tab.c).flatten≠ []:=flat_ne hkT (by decide) (by simpa using ht)
 have rT:=dfT_none (gs:=gs) (f:=51) (s:=s) (fun t=>t.n==s.name) ts ht (by omega) rfl (hmx2 hfT rfl) (fun y _=>((with3_any s y.n (.sl (y.cols.map Col.c))).toG (gs:=gs)).sws [(1000,1001)] rfl rfl rfl rfl rfl) hnT0 iT xT hbT hxT hpT
 have sT:=rT.sws [(1001,3),(1000,11)] (args2:= [.bsh 11 0 ts.length 2,.fn 51 [.ptr 3 0]]) (bx2:= [(11,⟨47,.r (ts.map Tab.c).flatten 0⟩),(3,(Box.mk 36 (.l (s.cs.map .iv))))]) (bx2':= [(11,⟨47,.l []⟩),(3,(Box.mk 36 (.l (s.cs.map .iv))))]) (tk2':= []) (res2:= .iv (.sl [])) rfl rfl rfl rfl rfl
 have sX:=(dfX_emp (gs:=gs) (f:=53) (s:=s)).sws [(1001,3)] (args2:= [.iv (.sl []),.fn 53 [.ptr 3 0]]) (bx2:= [(3,(Box.mk 36 (.l (s.cs.map .iv))))]) (bx2':= [(3,(Box.mk 36 (.l (s.cs.map .iv))))]) (tk2':= []) (res2:= .iv (.sl [])) rfl rfl rfl rfl rfl
 (repeat' (first|(apply s_callW [];exact rfl;exact hG;exact sT;exact Subs.refl _;exact .cons rfl rfl (Subs.refl _) (.cons rfl rfl (Subs.refl _) .nil);exact rfl;exact bo2N hfT rfl;exact bm2N rfl;exact rfl)|(apply s_callW [];exact rfl;exact hG;exact sX;exact .of_pub rfl;exact .cons rfl rfl (Subs.refl _) .nil;exact rfl;exact rfl;exact rfl;exact rfl)|(apply s_vr;exact rfl;apply v_makeFunc;exact rfl)|(refine LW.is ?_;first|(apply s_call0;exact rfl;rotate_left;exact rfl;rotate_left 3;exact cloneX_emp;exact rfl))|(refine DR.is ?_;first|(apply d_call0;exact rfl;rotate_left;exact rfl;rotate_left 3;exact cloneX_emp;exact rfl))|refine wk1 ?_|refine wk2 (fun hb hp=> ?_) (fun hb hp=> ?_)|fail))
 all_goals refine wkf ?_
 all_goals rfl
set_option maxHeartbeats 8000000 in
theorem with_dNN{gs:Globs}(s:Stm)(ts:List Tab)(ht:ts≠ [])(htl:ts.length≤4)(hnT0:ts.filter (fun x=> !(x.n==s.name))= [])(iT:Nat)(xT:Tab)(hbT: ∀y∈ts.take iT,(fun t=>t.n==s.name) y=false)(hxT:ts[iT]?=some xT)(hpT:(fun t=>t.n==s.name) xT=true)(is:List Idx)(hi:is≠ [])(hil:is.length≤4)(hnX0:is.filter (fun x=> !(x.tb==s.name))= [])(iX:Nat)(xX:Idx)(hbX: ∀y∈is.take iX,(fun x=>x.tb==s.name) y=false)(hxX:is[iX]?=some xX)(hpX:(fun x=>x.tb==s.name) xX=true)(k1:(s.kind==1)=false)(k2:(s.kind==2)=false)(k3:(s.kind==3)=true):
 CallG gs Tryz.prog 19 [.agg ((Cat.mk ts is).c.map .iv),.agg (s.cs.map .iv)] [] [] [] (.agg ((Cat.mk [] []).c.map .iv)):=by
 refine CallG.intro _ Tryz.func19 rfl Tryz.ntmps19 rfl (fun w0 E0 hG=> ?_)
 have hkT: ∀e∈ts.map Tab.c,e.length=2:=by intro e he;obtain⟨t,_,rfl⟩:=List.mem_map.1 he;rfl
 have qT:=cloneT_any (ts.map Tab.c) hkT (by simpa using ht) (by rw[List.length_map];simp[maxLen];omega) (by rw[List.length_map];omega)
 rw[List.length_map] at qT
 have hfT:(ts.map Tab.c).flatten≠ []:=flat_ne hkT (by decide) (by simpa using ht)
 have rT:=dfT_none (gs:=gs) (f:=51) (s:=s) (fun t=>t.n==s.name) ts ht (by omega) rfl (hmx2 hfT rfl) (fun y _=>((with3_any s y.n (.sl (y.cols.map Col.c))).toG (gs:=gs)).sws [(1000,1001)] rfl rfl rfl rfl rfl) hnT0 iT xT hbT hxT hpT
 have sT:=rT.sws [(1001,3),(1000,11)] (args2:= [.bsh 11 0 ts.length 2,.fn 51 [.ptr 3 0]]) (bx2:= [(11,⟨47,.r (ts.map Tab.c).flatten 0⟩),(3,(Box.mk 36 (.l (s.cs.map .iv))))]) (bx2':= [(11,⟨47,.l []⟩),(3,(Box.mk 36 (.l (s.cs.map .iv))))]) (tk2':= []) (res2:= .iv (.sl [])) rfl rfl rfl rfl rfl
 have hkX: ∀e∈is.map Idx.c,e.length=3:=by intro e he;obtain⟨t,_,rfl⟩:=List.mem_map.1 he;rfl
 have qX:=cloneX_any (is.map Idx.c) hkX (by simpa using hi) (by rw[List.length_map];simp[maxLen];omega) (by rw[List.length_map];omega)
 rw[List.length_map] at qX
 have hfX:(is.map Idx.c).flatten≠ []:=flat_ne hkX (by decide) (by simpa using hi)
 have rX:=dfX_none (gs:=gs) (f:=53) (s:=s) (fun x=>x.tb==s.name) is hi (by omega) rfl (hmx2 hfX rfl) (fun y _=>((with4_any s y.n y.tb (S y.co)).toG (gs:=gs)).sws [(1000,1001)] rfl rfl rfl rfl rfl) hnX0 iX xX hbX hxX hpX
 have sX:=rX.sws [(1001,3),(1000,14)] (args2:= [.bsh 14 0 is.length 3,.fn 53 [.ptr 3 0]]) (bx2:= [(14,⟨64,.r (is.map Idx.c).flatten 0⟩),(3,(Box.mk 36 (.l (s.cs.map .iv))))]) (bx2':= [(14,⟨64,.l []⟩),(3,(Box.mk 36 (.l (s.cs.map .iv))))]) (tk2':= []) (res2:= .iv (.sl [])) rfl rfl rfl rfl rfl
 (repeat' (first|(apply s_callW [];exact rfl;exact hG;exact sT;exact Subs.refl _;exact .cons rfl rfl (Subs.refl _) (.cons rfl rfl (Subs.refl _) .nil);exact rfl;exact bo2N hfT rfl;exact bm2N rfl;exact rfl)|(apply s_callW [];exact rfl;exact hG;exact sX;exact Subs.refl _;exact .cons rfl rfl (Subs.refl _) (.cons rfl rfl (Subs.refl _) .nil);exact rfl;exact bo2N hfX rfl;exact bm2N rfl;exact rfl)|(apply s_vr;exact rfl;apply v_makeFunc;exact rfl)|refine wk1 ?_|refine wk2 (fun hb hp=> ?_) (fun hb hp=> ?_)|fail))
 all_goals refine wkf ?_
 all_goals rfl
end Go.Proofs.YthcjohcakdnmmaaGreatDoor
