/- Several texts in one, each with its own sentence ahead of it. Conditions: each one says its own. -/
import Derived.Test.YtadjbegnlimepaaGreatDoorZS41
set_option linter.all false
namespace Go.Proofs.YtadjbegnlimepaaGreatDoor
open Go.Abs
set_option maxRecDepth 100000
attribute [local irreducible] L Code.wp bodyPost Exit.then Exit.inBlock
set_option linter.unusedVariables false
set_option linter.unusedSimpArgs false
def sX(k:Int)(e:Ex)(x:IV)(dn:Bool)(n:Int):List AV:= [aI k,aS [],aS [],aS [],.nils,.nils,.nils,.nils,.nils,aI e.op,aI e.v.k,aI e.v.n,aS e.v.s,aS e.s,aS e.name,aI e.n,.iv (.sl (e.l.map Ex.c)),.iv x,aB dn,aI n]
set_option maxHeartbeats 8000000 in
theorem where2_any{gs:Globs}(m:Int)(hgm:maxG m∈gs)(l:List Str)(hl:l.length≤1000000)(ht:TokA l)(kd:Int)(o:IV)(dn:Bool)(n:Int):
 CallG gs Tryz.prog 39 [.ptr 1000 0,.ptr 1001 0] [(1000,rowB l),(1001,⟨39,.l (sX kd nilE o dn n)⟩)] [(1000,rowB (dcWh l).1),(1001,⟨39,.l (sX kd (dcWh l).2.1 o dn n)⟩)] [] (aB (dcWh l).2.2):=by
 have kc:=cut_any l [wWHERE] hl (by simp)
 refine CallG.intro _ Tryz.func39 rfl Tryz.ntmps39 rfl (fun w0 E0 hG=> ?_)
 cases hc:cutM l [wWHERE] with
 |none=>
  have e1:dcWh l=(l,nilE,true):=by unfold dcWh;rw[hc]
  have ec:cutR l [wWHERE] =(l,[],-1):=by unfold cutR;rw[hc]
  rw[ec] at kc
  rw[e1]
  (repeat' (first|refine wk1 ?_|refine wk2 (fun hb hp=> ?_) (fun hb hp=> ?_)|fail))
  all_goals(apply L.endQ1;exact rfl;exact rfl;exact Wk.mk' (by intro id h;simp[keys] at h;rcases h with rfl|rfl<;>rfl) .nil (.cons rfl rfl (Subs.of_eq rfl) (.cons rfl rfl (Subs.of_eq rfl) .nil)) .nil;exact rfl)
 |some p=>
  have e1:dcWh l=(l.take p.1,refO (l.drop (p.1+1)) 6):=by unfold dcWh;rw[hc]
  have ec:cutR l [wWHERE] =(l.take p.1,l.drop (p.1+1),(p.2:Int)):=by unfold cutR;rw[hc]
  have ke:=expr_rc m hgm (k:=6) (ht.drop (p.1+1)) (by rw[List.length_drop];omega) (by decide)
  have q1:decide ((p.2:Int)<0)=false:=decide_eq_false (by omega)
  unfold RC at ke
  rw[ec] at kc
  rw[e1]
  generalize refO (l.drop (p.1+1)) 6=r at*
  obtain⟨x,b⟩:=r
  dsimp only at ke⊢
  (repeat' (first|refine wk1 ?_|refine wk2 (fun hb hp=> ?_) (fun hb hp=> ?_)|fail))
  all_goals(apply L.endQ1;exact rfl;exact rfl;exact Wk.mk' (by intro id h;simp[keys] at h;rcases h with rfl|rfl<;>rfl) .nil (.cons rfl rfl (Subs.of_eq rfl) (.cons rfl rfl (Subs.of_eq rfl) .nil)) .nil;exact rfl)
theorem where2_at{gs:Globs}(m:Int)(hgm:maxG m∈gs){l:List Str}(hl:l.length≤1000000)(ht:TokA l)(kd:Int)(o:IV)(dn:Bool)(n:Int):
 CallG gs Tryz.prog 39 ([] ++ [.ptr 1 0,.ptr 4 0]) [(1,rowB l),(4,⟨39,.l (sX kd nilE o dn n)⟩)] [(1,rowB (dcWh l).1),(4,⟨39,.l (sX kd (dcWh l).2.1 o dn n)⟩)] [] (aB (dcWh l).2.2):=
 (where2_any m hgm l hl ht kd o dn n).sws [(1000,1),(1001,4)] (args2:= [.ptr 1 0,.ptr 4 0]) (bx2:= [(1,rowB l),(4,⟨39,.l (sX kd nilE o dn n)⟩)]) (bx2':= [(1,rowB (dcWh l).1),(4,⟨39,.l (sX kd (dcWh l).2.1 o dn n)⟩)]) (tk2':= []) (res2:=aB (dcWh l).2.2) rfl rfl rfl rfl rfl
end Go.Proofs.YtadjbegnlimepaaGreatDoor
