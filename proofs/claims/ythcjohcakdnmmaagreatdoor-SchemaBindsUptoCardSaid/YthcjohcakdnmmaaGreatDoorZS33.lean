/- Several texts in one, each with its own sentence ahead of it. Conditions: each one says its own. -/
import Derived.Test.YthcjohcakdnmmaaGreatDoorZS18
import Derived.Test.YthcjohcakdnmmaaGreatDoorZS32
set_option linter.all false
namespace Go.Proofs.YthcjohcakdnmmaaGreatDoor
open Go.Abs
set_option maxRecDepth 100000
attribute [local irreducible] L Code.wp bodyPost Exit.then Exit.inBlock
set_option linter.unusedVariables false
set_option linter.unusedSimpArgs false
theorem first_hit{α:Type}{p:α→Bool}: ∀{l:List α},(¬ ∀y∈l,p y=false)→ ∃i x,(∀y∈l.take i,p y=false)∧l[i]?=some x∧p x=true
 | [],h=>absurd (fun y hy=>by cases hy) h
 |x::l,h=>by
  cases hp:p x with
  |true=>exact⟨0,x,by simp,rfl,hp⟩
  |false=>
   obtain⟨i,z,h1,h2,h3⟩:=first_hit (l:=l) (fun hn=>h (fun y hy=>by
    rcases List.mem_cons.1 hy with rfl|hy
    · exact hp
    · exact hn y hy))
   exact⟨i+1,z,fun y hy=>by
    rw[List.take_succ_cons] at hy
    rcases List.mem_cons.1 hy with rfl|hy
    · exact hp
    · exact h1 y hy,by simpa using h2,h3⟩
set_option maxHeartbeats 8000000 in
theorem dfT_all{gs:Globs}{f:FuncId}{s:Stm}[CallTy Tryz.prog f](p:Tab→Bool)(l:List Tab)(hne:l≠ [])(hl:l.length≤140737488355328)(hmb: [(1001,(Box.mk 36 (.l (s.cs.map .iv))))].all (fun p=> !p.2.cs.isEmpty && AV.mentsIn (keys [(1001,(Box.mk 36 (.l (s.cs.map .iv))))]) p.2.cs)=true)
 (hmx:([(1000,⟨47,.r (l.map Tab.c).flatten 0⟩),(1001,(Box.mk 36 (.l (s.cs.map .iv))))]:List (Nat×Box)).all (fun p=> !p.2.cs.isEmpty && AV.mentsIn (keys [(1000,⟨47,.r (l.map Tab.c).flatten 0⟩),(1001,(Box.mk 36 (.l (s.cs.map .iv))))]) p.2.cs)=true)
 (hc: ∀y∈l,CallG gs Tryz.prog f ([.agg [.iv (S y.n),.iv (.sl (y.cols.map Col.c))]] ++ [.ptr 1001 0]) [(1001,(Box.mk 36 (.l (s.cs.map .iv))))] [(1001,(Box.mk 36 (.l (s.cs.map .iv))))] [] (aB (p y))) (hno: ∀y∈l,p y=false):
 CallG gs Tryz.prog 50 [.bsh 1000 0 l.length 2,.fn f [.ptr 1001 0]] [(1000,⟨47,.r (l.map Tab.c).flatten 0⟩),(1001,(Box.mk 36 (.l (s.cs.map .iv))))] [(1002,⟨47,.r (l.map Tab.c).flatten 0⟩),(1000,⟨47,.l []⟩),(1001,(Box.mk 36 (.l (s.cs.map .iv))))] [] (.bsh 1002 0 l.length 2):=by
 have hk: ∀e∈l.map Tab.c,e.length=2:=by intro e he;obtain⟨t,_,rfl⟩:=List.mem_map.1 he;rfl
 have hfl:(l.map Tab.c).flatten.length=l.length*2:=by rw[flatten_len _ hk,List.length_map]
 have hfne:(l.map Tab.c).flatten≠ []:=flat_ne hk (by decide) (by simpa using hne)
 have hpos:0<l.length:=List.length_pos_iff.2 hne
 refine CallG.intro _ Tryz.func50 rfl Tryz.ntmps50 rfl (fun w0 E0 hG=> ?_)
 have kx:=ixT_any (gs:=gs) (f:=f) (b:=(Box.mk 36 (.l (s.cs.map .iv)))) p l hne hl hmb hc
 rw[idx_no hno] at kx
 (repeat' (first|(apply s_callX (bxi:= [(1000,⟨47,.r (l.map Tab.c).flatten 0⟩),(1001,(Box.mk 36 (.l (s.cs.map .iv))))]);exact rfl;exact hG;exact kx;exact rfl;exact .cons rfl rfl (Subs.refl _) (.cons rfl rfl (Subs.refl _) .nil);exact hmx;exact rfl)|refine wk1 ?_|refine wk2 (fun hb hp=> ?_) (fun hb hp=> ?_)|fail))
 all_goals(refine L.openRow 4 (id:=1000) (n:=l.length) (k:=2) rfl rfl (.inl hfne) (by omega) (fun cap hc1 hc2=> ?_))
 all_goals(apply L.renameR 4 1002 (k:=2) (n:=l.length);exact rfl;exact rfl;exact rfl;exact hk;exact List.length_map _;omega;(rw[hfl];omega))
 all_goals(apply L.ends;exact rfl;exact rfl;exact Sub.refl _;exact Wk.mk' (by intro id h;simp[keys] at h;rcases h with rfl|rfl<;>rfl) .nil (.cons rfl rfl (Subs.refl _) (.cons rfl rfl (Subs.refl _) (.cons rfl rfl (Subs.refl _) .nil))) .nil)
set_option maxHeartbeats 4000000 in
theorem dfT_kept{gs:Globs}{f:FuncId}{s:Stm}[CallTy Tryz.prog f](p:Tab→Bool)(l:List Tab)(hne:l≠ [])(hl:l.length≤140737488355328)(hmb: [(1001,(Box.mk 36 (.l (s.cs.map .iv))))].all (fun p=> !p.2.cs.isEmpty && AV.mentsIn (keys [(1001,(Box.mk 36 (.l (s.cs.map .iv))))]) p.2.cs)=true)
 (hmx:([(1000,⟨47,.r (l.map Tab.c).flatten 0⟩),(1001,(Box.mk 36 (.l (s.cs.map .iv))))]:List (Nat×Box)).all (fun p=> !p.2.cs.isEmpty && AV.mentsIn (keys [(1000,⟨47,.r (l.map Tab.c).flatten 0⟩),(1001,(Box.mk 36 (.l (s.cs.map .iv))))]) p.2.cs)=true)
 (hc: ∀y∈l,CallG gs Tryz.prog f ([.agg [.iv (S y.n),.iv (.sl (y.cols.map Col.c))]] ++ [.ptr 1001 0]) [(1001,(Box.mk 36 (.l (s.cs.map .iv))))] [(1001,(Box.mk 36 (.l (s.cs.map .iv))))] [] (aB (p y))) (hnk:l.filter (fun x=> !p x)≠ []):
 CallG gs Tryz.prog 50 [.bsh 1000 0 l.length 2,.fn f [.ptr 1001 0]] [(1000,⟨47,.r (l.map Tab.c).flatten 0⟩),(1001,(Box.mk 36 (.l (s.cs.map .iv))))] [(1002,⟨47,.r ((l.filter (fun x=> !p x)).map Tab.c).flatten 0⟩),(1000,⟨47,.l []⟩),(1001,(Box.mk 36 (.l (s.cs.map .iv))))] [] (.bsh 1002 0 (l.filter (fun x=> !p x)).length 2):=by
 by_cases hno: ∀y∈l,p y=false
 · have e:l.filter (fun x=> !p x)=l:=List.filter_eq_self.2 (fun y hy=>by rw[hno y hy];rfl)
   rw[e]
   exact dfT_all p l hne hl hmb hmx hc hno
 · obtain⟨i,x,h1,h2,h3⟩:=first_hit hno
   exact dfT_some p l hne hl hmb hmx hc hnk i x h1 h2 h3
set_option maxHeartbeats 8000000 in
theorem dfX_all{gs:Globs}{f:FuncId}{s:Stm}[CallTy Tryz.prog f](p:Idx→Bool)(l:List Idx)(hne:l≠ [])(hl:l.length≤140737488355328)(hmb: [(1001,(Box.mk 36 (.l (s.cs.map .iv))))].all (fun p=> !p.2.cs.isEmpty && AV.mentsIn (keys [(1001,(Box.mk 36 (.l (s.cs.map .iv))))]) p.2.cs)=true)
 (hmx:([(1000,⟨64,.r (l.map Idx.c).flatten 0⟩),(1001,(Box.mk 36 (.l (s.cs.map .iv))))]:List (Nat×Box)).all (fun p=> !p.2.cs.isEmpty && AV.mentsIn (keys [(1000,⟨64,.r (l.map Idx.c).flatten 0⟩),(1001,(Box.mk 36 (.l (s.cs.map .iv))))]) p.2.cs)=true)
 (hc: ∀y∈l,CallG gs Tryz.prog f ([.agg [.iv (S y.n),.iv (S y.tb),.iv (S y.co)]] ++ [.ptr 1001 0]) [(1001,(Box.mk 36 (.l (s.cs.map .iv))))] [(1001,(Box.mk 36 (.l (s.cs.map .iv))))] [] (aB (p y))) (hno: ∀y∈l,p y=false):
 CallG gs Tryz.prog 52 [.bsh 1000 0 l.length 3,.fn f [.ptr 1001 0]] [(1000,⟨64,.r (l.map Idx.c).flatten 0⟩),(1001,(Box.mk 36 (.l (s.cs.map .iv))))] [(1002,⟨64,.r (l.map Idx.c).flatten 0⟩),(1000,⟨64,.l []⟩),(1001,(Box.mk 36 (.l (s.cs.map .iv))))] [] (.bsh 1002 0 l.length 3):=by
 have hk: ∀e∈l.map Idx.c,e.length=3:=by intro e he;obtain⟨t,_,rfl⟩:=List.mem_map.1 he;rfl
 have hfl:(l.map Idx.c).flatten.length=l.length*3:=by rw[flatten_len _ hk,List.length_map]
 have hfne:(l.map Idx.c).flatten≠ []:=flat_ne hk (by decide) (by simpa using hne)
 have hpos:0<l.length:=List.length_pos_iff.2 hne
 refine CallG.intro _ Tryz.func52 rfl Tryz.ntmps52 rfl (fun w0 E0 hG=> ?_)
 have kx:=ixX_any (gs:=gs) (f:=f) (b:=(Box.mk 36 (.l (s.cs.map .iv)))) p l hne hl hmb hc
 rw[idx_no hno] at kx
 (repeat' (first|(apply s_callX (bxi:= [(1000,⟨64,.r (l.map Idx.c).flatten 0⟩),(1001,(Box.mk 36 (.l (s.cs.map .iv))))]);exact rfl;exact hG;exact kx;exact rfl;exact .cons rfl rfl (Subs.refl _) (.cons rfl rfl (Subs.refl _) .nil);exact hmx;exact rfl)|refine wk1 ?_|refine wk2 (fun hb hp=> ?_) (fun hb hp=> ?_)|fail))
 all_goals(refine L.openRow 4 (id:=1000) (n:=l.length) (k:=3) rfl rfl (.inl hfne) (by omega) (fun cap hc1 hc2=> ?_))
 all_goals(apply L.renameR 4 1002 (k:=3) (n:=l.length);exact rfl;exact rfl;exact rfl;exact hk;exact List.length_map _;omega;(rw[hfl];omega))
 all_goals(apply L.ends;exact rfl;exact rfl;exact Sub.refl _;exact Wk.mk' (by intro id h;simp[keys] at h;rcases h with rfl|rfl<;>rfl) .nil (.cons rfl rfl (Subs.refl _) (.cons rfl rfl (Subs.refl _) (.cons rfl rfl (Subs.refl _) .nil))) .nil)
set_option maxHeartbeats 4000000 in
theorem ixX_emp{gs:Globs}{f:FuncId}{s:Stm}:
 CallG gs Tryz.prog 59 [.iv (.sl []),.fn f [.ptr 1001 0]] [(1001,(Box.mk 36 (.l (s.cs.map .iv))))] [(1001,(Box.mk 36 (.l (s.cs.map .iv))))] [] (aI (-1)):=by
 refine CallG.intro _ Tryz.func59 rfl Tryz.ntmps59 rfl (fun w0 E0 hG=> ?_)
 (repeat' (first|refine wk1 ?_|refine wk2 (fun hb hp=> ?_) (fun hb hp=> ?_)|fail))
 refine L.loopP (ι:=Nat) (fun i=>⟨[(8,aI 0),(7,aI 0),(0,.iv (.sl [])),(1,.fn f [.ptr 1001 0])],[(1001,(Box.mk 36 (.l (s.cs.map .iv))))],[]⟩) (fun i=>i) (fun i=>True) (i0:=0) ?_ trivial ?_
 · exact Wk.mk' keys_some (.cons rfl (Sub.of_eq rfl) (.cons rfl (Sub.of_eq rfl) (.cons rfl (Sub.refl _) (.cons rfl (Sub.refl _) .nil)))) (.cons rfl rfl (Subs.refl _) .nil) .nil
 intro i _ K hK
 (repeat' (first|refine wk1 ?_|refine wk2 (fun hb hp=> ?_) (fun hb hp=> ?_)|fail))
 all_goals(apply L.ends;exact rfl;exact rfl;exact Sub.of_eq rfl;exact Wk.mk' keys_some .nil (.cons rfl rfl (Subs.refl _) .nil) .nil)
set_option maxHeartbeats 4000000 in
theorem dfX_emp{gs:Globs}{f:FuncId}{s:Stm}:
 CallG gs Tryz.prog 52 [.iv (.sl []),.fn f [.ptr 1001 0]] [(1001,(Box.mk 36 (.l (s.cs.map .iv))))] [(1001,(Box.mk 36 (.l (s.cs.map .iv))))] [] (.iv (.sl [])):=by
 refine CallG.intro _ Tryz.func52 rfl Tryz.ntmps52 rfl (fun w0 E0 hG=> ?_)
 have hz:([(1001,(Box.mk 36 (.l (s.cs.map .iv))))]:List (Nat×Box)).all (fun p=> !p.2.cs.isEmpty && AV.mentsIn (keys [(1001,(Box.mk 36 (.l (s.cs.map .iv))))]) p.2.cs)=true:=by first|rfl|kernel_rfl|(simp[keys,Stm.cs,AV.mentsIn,AV.mentIn];done)
 have kx:=ixX_emp (gs:=gs) (f:=f) (s:=s)
 (repeat' (first|(apply s_callX (bxi:= [(1001,(Box.mk 36 (.l (s.cs.map .iv))))]);exact rfl;exact hG;exact kx;exact rfl;exact .cons rfl rfl (Subs.refl _) .nil;exact hz;exact rfl)|refine wk1 ?_|refine wk2 (fun hb hp=> ?_) (fun hb hp=> ?_)|fail))
 all_goals(apply L.ends;exact rfl;exact rfl;exact Sub.refl _;exact Wk.mk' keys_some .nil (.cons rfl rfl (Subs.refl _) .nil) .nil)
set_option maxHeartbeats 4000000 in
theorem dfX_kept{gs:Globs}{f:FuncId}{s:Stm}[CallTy Tryz.prog f](p:Idx→Bool)(l:List Idx)(hne:l≠ [])(hl:l.length≤140737488355328)(hmb: [(1001,(Box.mk 36 (.l (s.cs.map .iv))))].all (fun p=> !p.2.cs.isEmpty && AV.mentsIn (keys [(1001,(Box.mk 36 (.l (s.cs.map .iv))))]) p.2.cs)=true)
 (hmx:([(1000,⟨64,.r (l.map Idx.c).flatten 0⟩),(1001,(Box.mk 36 (.l (s.cs.map .iv))))]:List (Nat×Box)).all (fun p=> !p.2.cs.isEmpty && AV.mentsIn (keys [(1000,⟨64,.r (l.map Idx.c).flatten 0⟩),(1001,(Box.mk 36 (.l (s.cs.map .iv))))]) p.2.cs)=true)
 (hc: ∀y∈l,CallG gs Tryz.prog f ([.agg [.iv (S y.n),.iv (S y.tb),.iv (S y.co)]] ++ [.ptr 1001 0]) [(1001,(Box.mk 36 (.l (s.cs.map .iv))))] [(1001,(Box.mk 36 (.l (s.cs.map .iv))))] [] (aB (p y))) (hnk:l.filter (fun x=> !p x)≠ []):
 CallG gs Tryz.prog 52 [.bsh 1000 0 l.length 3,.fn f [.ptr 1001 0]] [(1000,⟨64,.r (l.map Idx.c).flatten 0⟩),(1001,(Box.mk 36 (.l (s.cs.map .iv))))] [(1002,⟨64,.r ((l.filter (fun x=> !p x)).map Idx.c).flatten 0⟩),(1000,⟨64,.l []⟩),(1001,(Box.mk 36 (.l (s.cs.map .iv))))] [] (.bsh 1002 0 (l.filter (fun x=> !p x)).length 3):=by
 by_cases hno: ∀y∈l,p y=false
 · have e:l.filter (fun x=> !p x)=l:=List.filter_eq_self.2 (fun y hy=>by rw[hno y hy];rfl)
   rw[e]
   exact dfX_all p l hne hl hmb hmx hc hno
 · obtain⟨i,x,h1,h2,h3⟩:=first_hit hno
   exact dfX_some p l hne hl hmb hmx hc hnk i x h1 h2 h3
end Go.Proofs.YthcjohcakdnmmaaGreatDoor
namespace Go.Abs
set_option linter.unusedVariables false
section
variable {P:Program}{c:Ctx}{st:St}{ops:Array Oper}{Q:Exit→Act→World→Prop}{rest:List Oper}{o:Oper}
theorem bm1{L:List Nat}{id:Nat}{t:TypeId}{xs:List IV}: [(id,Box.mk t (.r xs 0))].all (fun p=>AV.mentsIn L p.2.cs)=true:=by simp[AV.mentsIn_iv,AV.mentsIn]
theorem bo1{id:Nat}{t:TypeId}{xs:List IV}{b:Box}(h:xs≠ []):boOk [] [(id,⟨t,.r xs 0⟩)] [(id,b)] =true:=by
 cases xs with
 |nil=>exact absurd rfl h
 |cons x l=>simp[boOk,keys]
end
end Go.Abs
namespace Go.Proofs.YthcjohcakdnmmaaGreatDoor
open Go.Abs
set_option maxRecDepth 100000
attribute [local irreducible] L Code.wp bodyPost Exit.then Exit.inBlock
set_option linter.unusedVariables false
set_option linter.unusedSimpArgs false
set_option maxHeartbeats 8000000 in
theorem with_other{gs:Globs}(c:Cat)(s:Stm)(ht:c.ts≠ [])(hi:c.is≠ [])(htl:c.ts.length≤3)(hil:c.is.length≤4)(k1:(s.kind==1)=false)(k2:(s.kind==2)=false)(k3:(s.kind==3)=false):
 CallG gs Tryz.prog 19 [.agg (c.c.map .iv),.agg (s.cs.map .iv)] [] [] [] (.agg (c.c.map .iv)):=by
 refine CallG.intro _ Tryz.func19 rfl Tryz.ntmps19 rfl (fun w0 E0 hG=> ?_)
 have hkt: ∀e∈c.ts.map Tab.c,e.length=2:=by intro e he;obtain⟨t,_,rfl⟩:=List.mem_map.1 he;rfl
 have hki: ∀e∈c.is.map Idx.c,e.length=3:=by intro e he;obtain⟨t,_,rfl⟩:=List.mem_map.1 he;rfl
 have q1:=cloneT_any (c.ts.map Tab.c) hkt (by simpa using ht) (by rw[List.length_map];simp[maxLen];omega) (by rw[List.length_map];omega)
 have q2:=cloneX_any (c.is.map Idx.c) hki (by simpa using hi) (by rw[List.length_map];simp[maxLen];omega) (by rw[List.length_map];omega)
 (repeat' (first|refine wk1 ?_|refine wk2 (fun hb hp=> ?_) (fun hb hp=> ?_)|fail))
 all_goals(apply L.pubB 11 4 (es:=c.ts.map Tab.c) (k:=2);exact rfl;exact rfl;exact hkt;decide;exact(by simpa using ht);exact rfl;exact rfl;exact List.cons_ne_nil _ _;exact rfl;exact .cons .here (.cons .same .nil))
 all_goals(apply L.pubB 14 4 (es:=c.is.map Idx.c) (k:=3);exact rfl;exact rfl;exact hki;decide;exact(by simpa using hi);exact rfl;exact rfl;exact List.cons_ne_nil _ _;exact rfl;exact .cons .same (.cons .here .nil))
 all_goals refine wkf ?_
 all_goals rfl
set_option maxHeartbeats 8000000 in
theorem with_create{gs:Globs}(c:Cat)(s:Stm)(ht:c.ts≠ [])(hi:c.is≠ [])(htl:c.ts.length≤3)(hil:c.is.length≤4)(k1:(s.kind==1)=true)(hf:Falls (fun x=>decide (x<s.name)) (c.ts.map Tab.n)):
 CallG gs Tryz.prog 19 [.agg (c.c.map .iv),.agg (s.cs.map .iv)] [] [] [] (.agg ((Cat.mk (c.ts.take (lbM (c.ts.map Tab.n) s.name)++⟨s.name,s.cols⟩::c.ts.drop (lbM (c.ts.map Tab.n) s.name)) c.is).c.map .iv)):=by
 refine CallG.intro _ Tryz.func19 rfl Tryz.ntmps19 rfl (fun w0 E0 hG=> ?_)
 have hkt: ∀e∈c.ts.map Tab.c,e.length=2:=by intro e he;obtain⟨t,_,rfl⟩:=List.mem_map.1 he;rfl
 have hki: ∀e∈c.is.map Idx.c,e.length=3:=by intro e he;obtain⟨t,_,rfl⟩:=List.mem_map.1 he;rfl
 have hle:lbM (c.ts.map Tab.n) s.name≤c.ts.length:=by have:=pre_le (fun x=>decide (x<s.name)) (c.ts.map Tab.n);rwa [List.length_map] at this
 have q1:=cloneT_any (c.ts.map Tab.c) hkt (by simpa using ht) (by rw[List.length_map];simp[maxLen];omega) (by rw[List.length_map];omega)
 have q2:=cloneX_any (c.is.map Idx.c) hki (by simpa using hi) (by rw[List.length_map];simp[maxLen];omega) (by rw[List.length_map];omega)
 have q4:=insertT_any (c.ts.map Tab.c) [S s.name,.sl (s.cols.map Col.c)] (lbM (c.ts.map Tab.n) s.name) hkt rfl (by simpa using ht) (by rw[List.length_map];exact hle) (by rw[List.length_map];simp[maxLen];omega) (by rw[List.length_map];omega)
 rw[List.length_map] at q1 q2 q4
 have hE:(c.ts.map Tab.c).take (lbM (c.ts.map Tab.n) s.name)++ [S s.name,.sl (s.cols.map Col.c)]::(c.ts.map Tab.c).drop (lbM (c.ts.map Tab.n) s.name)=(c.ts.take (lbM (c.ts.map Tab.n) s.name)++⟨s.name,s.cols⟩::c.ts.drop (lbM (c.ts.map Tab.n) s.name):List Tab).map Tab.c:=by simp[List.map_take,List.map_drop,Tab.c]
 rw[hE] at q4
 have hkn: ∀e∈(c.ts.take (lbM (c.ts.map Tab.n) s.name)++⟨s.name,s.cols⟩::c.ts.drop (lbM (c.ts.map Tab.n) s.name):List Tab).map Tab.c,e.length=2:=by intro e he;obtain⟨t,_,rfl⟩:=List.mem_map.1 he;rfl
 have hnl:((c.ts.take (lbM (c.ts.map Tab.n) s.name)++⟨s.name,s.cols⟩::c.ts.drop (lbM (c.ts.map Tab.n) s.name):List Tab).map Tab.c).length=c.ts.length+1:=by simp;omega
 have q3:=(bsT_any (gs:=gs) c.ts s.name ht (by omega) hf).sws [(1000,11)] (args2:= [.bsh 11 0 c.ts.length 2,aS s.name,.fn 44 []]) (bx2:= [(11,⟨47,.r (c.ts.map Tab.c).flatten 0⟩)]) (bx2':= [(11,⟨47,.r (c.ts.map Tab.c).flatten 0⟩)]) (tk2':= []) (res2:= .tup [aI (lbM (c.ts.map Tab.n) s.name:Int),aB (foundM (c.ts.map Tab.n) s.name)]) rfl rfl rfl rfl rfl
 have hfl:(c.ts.map Tab.c).flatten≠ []:=flat_ne hkt (by decide) (by simpa using ht)
 (repeat' (first|(apply s_callW [];exact rfl;exact hG;exact q3;exact Subs.refl _;exact .cons rfl rfl (Subs.refl _) .nil;exact rfl;exact bo1 hfl;exact bm1;exact rfl)|(refine LW.is ?_;first|(apply s_buildR (es:= [[S s.name,.sl (s.cols.map Col.c)]]);exact rfl;exact rfl;exact rfl;exact rfl;exact rfl;exact rfl;exact rfl;exact rfl;exact rfl)|(apply s_call21;exact rfl;exact q4;exact rfl;exact rfl;exact rfl;exact hfl;exact List.cons_ne_nil _ _;exact rfl;exact rfl;exact rfl))|(refine DR.is ?_;first|(apply d_buildR (es:= [[S s.name,.sl (s.cols.map Col.c)]]);exact rfl;exact rfl;exact rfl;exact rfl;exact rfl;exact rfl;exact rfl;exact rfl;exact rfl)|(apply d_call21;exact rfl;exact q4;exact rfl;exact rfl;exact rfl;exact hfl;exact List.cons_ne_nil _ _;exact rfl;exact rfl;exact rfl))|refine wk1 ?_|refine wk2 (fun hb hp=> ?_) (fun hb hp=> ?_)|fail))
 all_goals(apply L.pubB 38 4 (es:=(c.ts.take (lbM (c.ts.map Tab.n) s.name)++⟨s.name,s.cols⟩::c.ts.drop (lbM (c.ts.map Tab.n) s.name):List Tab).map Tab.c) (k:=2);exact rfl;exact rfl;exact hkn;decide;exact(by simp);exact hnl;exact rfl;exact List.cons_ne_nil _ _;exact rfl;exact .cons .here (.cons .same .nil))
 all_goals(apply L.pubB 14 4 (es:=c.is.map Idx.c) (k:=3);exact rfl;exact rfl;exact hki;decide;exact(by simpa using hi);exact List.length_map _;exact rfl;exact List.cons_ne_nil _ _;exact rfl;exact .cons .same (.cons .here .nil))
 all_goals refine wkf ?_
 all_goals rfl
set_option maxHeartbeats 8000000 in
theorem with_mark{gs:Globs}(c:Cat)(s:Stm)(ht:c.ts≠ [])(hi:c.is≠ [])(htl:c.ts.length≤3)(hil:c.is.length≤4)(k1:(s.kind==1)=false)(k2:(s.kind==2)=true)(hf:Falls (fun x=>decide (x<s.name)) (c.is.map Idx.n)):
 CallG gs Tryz.prog 19 [.agg (c.c.map .iv),.agg (s.cs.map .iv)] [] [] [] (.agg ((Cat.mk c.ts (c.is.take (lbM (c.is.map Idx.n) s.name)++⟨s.name,s.table,s.col⟩::c.is.drop (lbM (c.is.map Idx.n) s.name))).c.map .iv)):=by
 refine CallG.intro _ Tryz.func19 rfl Tryz.ntmps19 rfl (fun w0 E0 hG=> ?_)
 have hkt: ∀e∈c.ts.map Tab.c,e.length=2:=by intro e he;obtain⟨t,_,rfl⟩:=List.mem_map.1 he;rfl
 have hki: ∀e∈c.is.map Idx.c,e.length=3:=by intro e he;obtain⟨t,_,rfl⟩:=List.mem_map.1 he;rfl
 have hle:lbM (c.is.map Idx.n) s.name≤c.is.length:=by have:=pre_le (fun x=>decide (x<s.name)) (c.is.map Idx.n);rwa [List.length_map] at this
 have q1:=cloneT_any (c.ts.map Tab.c) hkt (by simpa using ht) (by rw[List.length_map];simp[maxLen];omega) (by rw[List.length_map];omega)
 have q2:=cloneX_any (c.is.map Idx.c) hki (by simpa using hi) (by rw[List.length_map];simp[maxLen];omega) (by rw[List.length_map];omega)
 have q4:=insertX_any (c.is.map Idx.c) [S s.name,S s.table,S s.col] (lbM (c.is.map Idx.n) s.name) hki rfl (by simpa using hi) (by rw[List.length_map];exact hle) (by rw[List.length_map];simp[maxLen];omega) (by rw[List.length_map];omega)
 rw[List.length_map] at q1 q2 q4
 have hE:(c.is.map Idx.c).take (lbM (c.is.map Idx.n) s.name)++ [S s.name,S s.table,S s.col]::(c.is.map Idx.c).drop (lbM (c.is.map Idx.n) s.name)=(c.is.take (lbM (c.is.map Idx.n) s.name)++⟨s.name,s.table,s.col⟩::c.is.drop (lbM (c.is.map Idx.n) s.name):List Idx).map Idx.c:=by simp[List.map_take,List.map_drop,Idx.c]
 rw[hE] at q4
 have hkn: ∀e∈(c.is.take (lbM (c.is.map Idx.n) s.name)++⟨s.name,s.table,s.col⟩::c.is.drop (lbM (c.is.map Idx.n) s.name):List Idx).map Idx.c,e.length=3:=by intro e he;obtain⟨t,_,rfl⟩:=List.mem_map.1 he;rfl
 have hnl:((c.is.take (lbM (c.is.map Idx.n) s.name)++⟨s.name,s.table,s.col⟩::c.is.drop (lbM (c.is.map Idx.n) s.name):List Idx).map Idx.c).length=c.is.length+1:=by simp;omega
 have q3:=(bsX_any (gs:=gs) c.is s.name hi (by omega) hf).sws [(1000,14)] (args2:= [.bsh 14 0 c.is.length 3,aS s.name,.fn 48 []]) (bx2:= [(14,⟨64,.r (c.is.map Idx.c).flatten 0⟩)]) (bx2':= [(14,⟨64,.r (c.is.map Idx.c).flatten 0⟩)]) (tk2':= []) (res2:= .tup [aI (lbM (c.is.map Idx.n) s.name:Int),aB (foundM (c.is.map Idx.n) s.name)]) rfl rfl rfl rfl rfl
 have hfl:(c.is.map Idx.c).flatten≠ []:=flat_ne hki (by decide) (by simpa using hi)
 (repeat' (first|(apply s_callW [];exact rfl;exact hG;exact q3;exact Subs.refl _;exact .cons rfl rfl (Subs.refl _) .nil;exact rfl;exact bo1 hfl;exact bm1;exact rfl)|(refine LW.is ?_;first|(apply s_buildR (es:= [[S s.name,S s.table,S s.col]]);exact rfl;exact rfl;exact rfl;exact rfl;exact rfl;exact rfl;exact rfl;exact rfl;exact rfl)|(apply s_call21;exact rfl;exact q4;exact rfl;exact rfl;exact rfl;exact hfl;exact List.cons_ne_nil _ _;exact rfl;exact rfl;exact rfl))|(refine DR.is ?_;first|(apply d_buildR (es:= [[S s.name,S s.table,S s.col]]);exact rfl;exact rfl;exact rfl;exact rfl;exact rfl;exact rfl;exact rfl;exact rfl;exact rfl)|(apply d_call21;exact rfl;exact q4;exact rfl;exact rfl;exact rfl;exact hfl;exact List.cons_ne_nil _ _;exact rfl;exact rfl;exact rfl))|refine wk1 ?_|refine wk2 (fun hb hp=> ?_) (fun hb hp=> ?_)|fail))
 all_goals(apply L.pubB 11 4 (es:=c.ts.map Tab.c) (k:=2);exact rfl;exact rfl;exact hkt;decide;exact(by simpa using ht);exact List.length_map _;exact rfl;exact List.cons_ne_nil _ _;exact rfl;exact .cons .here (.cons .same .nil))
 all_goals(apply L.pubB 61 4 (es:=(c.is.take (lbM (c.is.map Idx.n) s.name)++⟨s.name,s.table,s.col⟩::c.is.drop (lbM (c.is.map Idx.n) s.name):List Idx).map Idx.c) (k:=3);exact rfl;exact rfl;exact hkn;decide;exact(by simp);exact hnl;exact rfl;exact List.cons_ne_nil _ _;exact rfl;exact .cons .same (.cons .here .nil))
 all_goals refine wkf ?_
 all_goals rfl
end Go.Proofs.YthcjohcakdnmmaaGreatDoor
namespace Go.Proofs.YthcjohcakdnmmaaGreatDoor
open Go.Abs
set_option maxRecDepth 100000
attribute [local irreducible] L Code.wp bodyPost Exit.then Exit.inBlock
set_option linter.unusedVariables false
set_option linter.unusedSimpArgs false
theorem hmx2{t:TypeId}{xs:List IV}{b:Box}(h:xs≠ [])(hb:(!b.cs.isEmpty && AV.mentsIn [1000,1001] b.cs)=true):([(1000,⟨t,.r xs 0⟩),(1001,b)]:List (Nat×Box)).all (fun p=> !p.2.cs.isEmpty && AV.mentsIn (keys [(1000,(⟨t,.r xs 0⟩:Box)),(1001,b)]) p.2.cs)=true:=by
 have h0:xs.isEmpty=false:=by cases xs with|nil=>exact absurd rfl h|cons x l=>rfl
 simp only[List.all_cons,List.all_nil,Bool.and_true,Bool.and_eq_true]
 refine⟨⟨by cases xs with|nil=>exact absurd rfl h|cons x l=>simp,by simp[AV.mentsIn_iv,AV.mentsIn]⟩,?_⟩
 simpa[keys] using hb
theorem bo2{i n:Nat}{t:TypeId}{xs ys:List IV}{b:Box}(h:xs≠ [])(hb:b.cs.isEmpty=false):boOk [n] [(i,⟨t,.r xs 0⟩),(3,b)] [(n,⟨t,.r ys 0⟩),(i,⟨t,.l []⟩),(3,b)] =true:=by
 cases xs with
 |nil=>exact absurd rfl h
 |cons x l=>simp[boOk,keys,hb]
theorem bm2{L:List Nat}{i n:Nat}{t:TypeId}{ys:List IV}{b:Box}(hb:AV.mentsIn L b.cs=true):([(n,(⟨t,.r ys 0⟩:Box)),(i,⟨t,.l []⟩),(3,b)]:List (Nat×Box)).all (fun p=>AV.mentsIn L p.2.cs)=true:=by simp[AV.mentsIn_iv,AV.mentsIn,hb]
set_option maxHeartbeats 8000000 in
theorem with_dropKK{gs:Globs}(c:Cat)(s:Stm)(ht:c.ts≠ [])(hi:c.is≠ [])(htl:c.ts.length≤3)(hil:c.is.length≤4)(k1:(s.kind==1)=false)(k2:(s.kind==2)=false)(k3:(s.kind==3)=true)
 (hkT:c.ts.filter (fun x=> !(x.n==s.name))≠ []) (hkX:c.is.filter (fun x=> !(x.tb==s.name))≠ []):
 CallG gs Tryz.prog 19 [.agg (c.c.map .iv),.agg (s.cs.map .iv)] [] [] [] (.agg ((Cat.mk (c.ts.filter (fun x=> !(x.n==s.name))) (c.is.filter (fun x=> !(x.tb==s.name)))).c.map .iv)):=by
 refine CallG.intro _ Tryz.func19 rfl Tryz.ntmps19 rfl (fun w0 E0 hG=> ?_)
 have hkt: ∀e∈c.ts.map Tab.c,e.length=2:=by intro e he;obtain⟨t,_,rfl⟩:=List.mem_map.1 he;rfl
 have hki: ∀e∈c.is.map Idx.c,e.length=3:=by intro e he;obtain⟨t,_,rfl⟩:=List.mem_map.1 he;rfl
 have q1:=cloneT_any (c.ts.map Tab.c) hkt (by simpa using ht) (by rw[List.length_map];simp[maxLen];omega) (by rw[List.length_map];omega)
 have q2:=cloneX_any (c.is.map Idx.c) hki (by simpa using hi) (by rw[List.length_map];simp[maxLen];omega) (by rw[List.length_map];omega)
 rw[List.length_map] at q1 q2
 have hfT:(c.ts.map Tab.c).flatten≠ []:=flat_ne hkt (by decide) (by simpa using ht)
 have hfX:(c.is.map Idx.c).flatten≠ []:=flat_ne hki (by decide) (by simpa using hi)
 have q3:=dfT_kept (gs:=gs) (f:=51) (s:=s) (fun t=>t.n==s.name) c.ts ht (by omega) rfl (hmx2 hfT rfl) (fun y _=>((with3_any s y.n (.sl (y.cols.map Col.c))).toG (gs:=gs)).sws [(1000,1001)] rfl rfl rfl rfl rfl) hkT
 have q4:=dfX_kept (gs:=gs) (f:=53) (s:=s) (fun x=>x.tb==s.name) c.is hi (by omega) rfl (hmx2 hfX rfl) (fun y _=>((with4_any s y.n y.tb (S y.co)).toG (gs:=gs)).sws [(1000,1001)] rfl rfl rfl rfl rfl) hkX
 have q5:=q3.sws [(1002,68),(1001,3),(1000,11)] (args2:= [.bsh 11 0 c.ts.length 2,.fn 51 [.ptr 3 0]]) (bx2:= [(11,⟨47,.r (c.ts.map Tab.c).flatten 0⟩),(3,(Box.mk 36 (.l (s.cs.map .iv))))]) (bx2':= [(68,⟨47,.r ((c.ts.filter (fun x=> !(x.n==s.name))).map Tab.c).flatten 0⟩),(11,⟨47,.l []⟩),(3,(Box.mk 36 (.l (s.cs.map .iv))))]) (tk2':= []) (res2:= .bsh 68 0 (c.ts.filter (fun x=> !(x.n==s.name))).length 2) rfl rfl rfl rfl rfl
 have q6:=q4.sws [(1002,73),(1001,3),(1000,14)] (args2:= [.bsh 14 0 c.is.length 3,.fn 53 [.ptr 3 0]]) (bx2:= [(14,⟨64,.r (c.is.map Idx.c).flatten 0⟩),(3,(Box.mk 36 (.l (s.cs.map .iv))))]) (bx2':= [(73,⟨64,.r ((c.is.filter (fun x=> !(x.tb==s.name))).map Idx.c).flatten 0⟩),(14,⟨64,.l []⟩),(3,(Box.mk 36 (.l (s.cs.map .iv))))]) (tk2':= []) (res2:= .bsh 73 0 (c.is.filter (fun x=> !(x.tb==s.name))).length 3) rfl rfl rfl rfl rfl
 (repeat' (first|(apply s_vr;exact rfl;apply v_makeFunc;exact rfl)|(apply s_callW [68];exact rfl;exact hG;exact q5;exact Subs.refl _;exact .cons rfl rfl (Subs.refl _) (.cons rfl rfl (Subs.refl _) .nil);exact rfl;exact bo2 hfT rfl;exact bm2 rfl;exact rfl)|(apply s_callW [73];exact rfl;exact hG;exact q6;exact Subs.refl _;exact .cons rfl rfl (Subs.refl _) (.cons rfl rfl (Subs.refl _) .nil);exact rfl;exact bo2 hfX rfl;exact bm2 rfl;exact rfl)|refine wk1 ?_|refine wk2 (fun hb hp=> ?_) (fun hb hp=> ?_)|fail))
 all_goals(apply L.pubB 68 4 (es:=(c.ts.filter (fun x=> !(x.n==s.name))).map Tab.c) (k:=2);exact rfl;exact rfl;(intro e he;obtain⟨t,_,rfl⟩:=List.mem_map.1 he;rfl);decide;exact(by simpa using hkT);exact List.length_map _;exact rfl;exact List.cons_ne_nil _ _;exact rfl;exact .cons .here (.cons .same .nil))
 all_goals(apply L.pubB 73 4 (es:=(c.is.filter (fun x=> !(x.tb==s.name))).map Idx.c) (k:=3);exact rfl;exact rfl;(intro e he;obtain⟨t,_,rfl⟩:=List.mem_map.1 he;rfl);decide;exact(by simpa using hkX);exact List.length_map _;exact rfl;exact List.cons_ne_nil _ _;exact rfl;exact .cons .same (.cons .here .nil))
 all_goals refine wkf ?_
 all_goals rfl
end Go.Proofs.YthcjohcakdnmmaaGreatDoor
