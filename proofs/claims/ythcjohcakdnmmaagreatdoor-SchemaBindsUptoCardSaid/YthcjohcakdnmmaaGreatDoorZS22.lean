/- Several texts in one, each with its own sentence ahead of it. Conditions: each one says its own. -/
import Derived.Test.YthcjohcakdnmmaaGreatDoorZS17
import Derived.Test.YthcjohcakdnmmaaGreatDoorZS21
set_option linter.all false
namespace Go.Proofs.YthcjohcakdnmmaaGreatDoor
open Go.Abs
set_option maxRecDepth 100000
attribute [local irreducible] L Code.wp bodyPost Exit.then Exit.inBlock
set_option linter.unusedVariables false
set_option linter.unusedSimpArgs false
def Ex.cs(e:Ex):List IV:= [I e.op,I e.v.k,I e.v.n,S e.v.s,S e.s,S e.name,I e.n,.sl (e.l.map Ex.c)]
theorem Ex.c_cs(e:Ex):e.c=e.cs:=by cases e;exact Ex.c_eq _ _ _ _ _ _
def nilE:Ex:= .mk 0 ⟨0,0,[]⟩ [] [] 0 []
structure Ast where
 co:Str
 e:Ex
def Ast.c(x:Ast):List IV:=S x.co::x.e.cs
def numC(n:Int):List IV:= [I n]
structure Stm where
 kind:Int
 name:Str
 table:Str
 col:Str
 cols:List Col
 rows:List (List Ex)
 sets:List Ast
 frm:List Str
 out:List Ex
 wh:Ex
 ord:List Ex
 down:Bool
 n:Int
def exRow(r:List Ex):List IV:= [.sl (r.map Ex.c)]
def Stm.cs(s:Stm):List IV:= [I s.kind,S s.name,S s.table,S s.col,.sl (s.cols.map Col.c),.sl (s.rows.map exRow),.sl (s.sets.map Ast.c),.sl (s.frm.map Str.c),.sl (s.out.map Ex.c),
 I s.wh.op,I s.wh.v.k,I s.wh.v.n,S s.wh.v.s,S s.wh.s,S s.wh.name,I s.wh.n,.sl (s.wh.l.map Ex.c),.sl (s.ord.map Ex.c),.im (.bool s.down),I s.n]
mutual
theorem mentIn_of{l:List Nat}: ∀(v:AV),AV.mentIn [] v=true→AV.mentIn l v=true
 | .any,_=>rfl
 | .iv _,_=>rfl
 | .nils,_=>rfl
 | .emp,_=>rfl
 | .el _,_=>rfl
 | .row _ _,h=>by simp[AV.mentIn] at h
 | .ptr _ _,h=>by simp[AV.mentIn] at h
 | .bsl _ _ _ _,h=>by simp[AV.mentIn] at h
 | .bsh _ _ _ _,h=>by simp[AV.mentIn] at h
 | .agg cs,h=>by rw[AV.mentIn] at h⊢;exact mentsIn_of h
 | .tup cs,h=>by rw[AV.mentIn] at h⊢;exact mentsIn_of h
 | .fn _ cs,h=>by rw[AV.mentIn] at h⊢;exact mentsIn_of h
 | .opt _ v,h=>by rw[AV.mentIn] at h⊢;exact mentIn_of v h
theorem mentsIn_of{l:List Nat}: ∀{cs:List AV},AV.mentsIn [] cs=true→AV.mentsIn l cs=true
 | [],_=>rfl
 |c::cs,h=>by
  rw[AV.mentsIn,Bool.and_eq_true] at h⊢
  exact⟨mentIn_of c h.1,mentsIn_of h.2⟩
end
def nilSt:Stm:=⟨0,[],[],[],[],[],[],[],[],nilE,[],false,0⟩
set_option maxRecDepth 100000 in
set_option maxHeartbeats 4000000 in
theorem indexFuncE_any{gs:Globs}{f:FuncId}{caps:List AV}{bxi:List (Nat×Box)}[CallTy Tryz.prog f](p:Ex→Bool)(l:List Ex)(hl:l.length≤140737488355328)(hc: ∀y∈l,CallG gs Tryz.prog f (.agg ((Ex.cs y).map .iv)::caps) bxi bxi [] (aB (p y)))
 (hw:WkB bxi bxi) (hmb:bxi.all (fun p=> !p.2.cs.isEmpty && AV.mentsIn (keys bxi) p.2.cs)=true):
 CallG gs Tryz.prog 54 [.iv (.sl (l.map Ex.c)),.fn f caps] bxi bxi [] (aI (idxM p l)):=by
 refine CallG.intro _ Tryz.func54 rfl Tryz.ntmps54 rfl (fun w0 E0 hG=> ?_)
 (repeat' (first|refine wk1 ?_|refine wk2 (fun hb hp=> ?_) (fun hb hp=> ?_)|fail))
 refine L.loopP (ι:=Nat) (fun i=>⟨[(8,aI (i:Int)),(7,aI ((l.map Ex.c).length:Int)),(0,.iv (.sl (l.map Ex.c))),(1,.fn f caps)],bxi,[]⟩) (fun i=>l.length - i) (fun i=> ∀y∈l.take i,p y=false) (i0:=0) ?_ (by simp) ?_
 · exact Wk.mkX keys_some (.cons rfl (Sub.refl _) (.cons rfl (Sub.refl _) (.cons rfl (Sub.refl _) (.cons rfl (Sub.refl _) .nil)))) (fun s v h=>h) .nil
 intro i hI K hK
 cases hx:l[i]? with
 |none=>
  have hlt:=ltF (l:=l.map Ex.c) (getFN hx)
  rw[idx_no (take_full hI hx)]
  (repeat' (first|refine wk1 ?_|refine wk2 (fun hb hp=> ?_) (fun hb hp=> ?_)|fail))
  apply L.ends;exact rfl;exact rfl;exact Sub.refl _
  exact Wk.mkX keys_some .nil (fun s v h=>h) .nil
 |some y=>
  have hlt:=ltT (l:=l.map Ex.c) (getF (f:=Ex.c) hx)
  have hlt':=ltN hx
  have hcy:=hc y (List.mem_of_getElem? hx)
  have g1:(l.map Ex.c)[((i:Nat):Int).toNat]?=some [I y.op,I y.v.k,I y.v.n,S y.v.s,S y.s,S y.name,I y.n,.sl (y.l.map Ex.c)]:=by rw[Int.toNat_natCast,List.getElem?_map,hx];exact congrArg some (Ex.c_cs y)
  cases hq:p y with
  |true=>
   rw[hq] at hcy
   have hcz:CallG gs Tryz.prog f ([.agg ((Ex.cs y).map .iv)] ++caps) bxi bxi [] _:=hcy
   rw[idx_at hI hx hq]
   (repeat' (first|(apply s_callFn (f:=f);exact rfl;exact hG;exact rfl;exact hcz;exact rfl;exact hw;exact hmb;exact rfl)|refine wk1 ?_|refine wk2 (fun hb hp=> ?_) (fun hb hp=> ?_)|fail))
   apply L.ends;exact rfl;exact rfl;exact Sub.refl _
   exact Wk.mkX keys_some .nil (fun s v h=>lookup_app h) .nil
  |false=>
   rw[hq] at hcy
   have hcz:CallG gs Tryz.prog f ([.agg ((Ex.cs y).map .iv)] ++caps) bxi bxi [] _:=hcy
   (repeat' (first|(apply s_callFn (f:=f);exact rfl;exact hG;exact rfl;exact hcz;exact rfl;exact hw;exact hmb;exact rfl)|refine wk1 ?_|refine wk2 (fun hb hp=> ?_) (fun hb hp=> ?_)|fail))
   refine hK _ (i+1) (take_snoc hI hx hq) (by omega) ?_
   exact Wk.mkX keys_some (.cons rfl (Sub.refl _) (.cons rfl (Sub.refl _) (.cons rfl (Sub.refl _) (.cons rfl (Sub.refl _) .nil)))) (fun s v h=>lookup_app h) .nil
set_option maxRecDepth 100000 in
theorem containsE_any{gs:Globs}{f:FuncId}{b:Box}[CallTy Tryz.prog f](p:Ex→Bool)(l:List Ex)(hl:l.length≤140737488355328)(hbn:b.cs.isEmpty=false)(hm:AV.mentsIn [] b.cs=true)
 (hc: ∀y∈l,CallG gs Tryz.prog f [.agg ((Ex.cs y).map .iv),.ptr 1000 0] [(1000,b)] [(1000,b)] [] (aB (p y))):
 CallG gs Tryz.prog 22 [.iv (.sl (l.map Ex.c)),.fn f [.ptr 1000 0]] [(1000,b)] [(1000,b)] [] (aB (l.any p)):=by
 have k:=indexFuncE_any (f:=f) (caps:= [.ptr 1000 0]) (bxi:= [(1000,b)]) p l hl hc (.cons rfl rfl (Subs.refl _) .nil) (by simp[hbn,mentsIn_of hm])
 refine CallG.intro _ Tryz.func22 rfl Tryz.ntmps22 rfl (fun w0 E0 hG=> ?_)
 rw[←idx_ge]
 (repeat' (first|(refine LW.is ?_;first|(apply s_callQ1 (q:=1000);exact rfl;exact hG;exact k;exact rfl;exact rfl;exact hbn;exact hm;exact rfl))|(refine DR.is ?_;first|(apply d_callQ1 (q:=1000);exact rfl;exact hG;exact k;exact rfl;exact rfl;exact hbn;exact hm;exact rfl))|refine wk1 ?_|refine wk2 (fun hb hp=> ?_) (fun hb hp=> ?_)|fail))
 all_goals(apply L.ends;exact rfl;exact rfl;exact Sub.refl _;exact Wk.mk' (by intro id h;simp[keys] at h;subst h;rfl) .nil (.cons rfl rfl (Subs.refl _) .nil) .nil)
set_option maxRecDepth 100000 in
set_option maxHeartbeats 4000000 in
theorem indexFuncX_any{gs:Globs}{f:FuncId}{caps:List AV}{bxi:List (Nat×Box)}[CallTy Tryz.prog f](p:Idx→Bool)(l:List Idx)(hl:l.length≤140737488355328)(hc: ∀y∈l,CallG gs Tryz.prog f (.agg ((Idx.c y).map .iv)::caps) bxi bxi [] (aB (p y)))
 (hw:WkB bxi bxi) (hmb:bxi.all (fun p=> !p.2.cs.isEmpty && AV.mentsIn (keys bxi) p.2.cs)=true):
 CallG gs Tryz.prog 59 [.iv (.sl (l.map Idx.c)),.fn f caps] bxi bxi [] (aI (idxM p l)):=by
 refine CallG.intro _ Tryz.func59 rfl Tryz.ntmps59 rfl (fun w0 E0 hG=> ?_)
 (repeat' (first|refine wk1 ?_|refine wk2 (fun hb hp=> ?_) (fun hb hp=> ?_)|fail))
 refine L.loopP (ι:=Nat) (fun i=>⟨[(8,aI (i:Int)),(7,aI ((l.map Idx.c).length:Int)),(0,.iv (.sl (l.map Idx.c))),(1,.fn f caps)],bxi,[]⟩) (fun i=>l.length - i) (fun i=> ∀y∈l.take i,p y=false) (i0:=0) ?_ (by simp) ?_
 · exact Wk.mkX keys_some (.cons rfl (Sub.refl _) (.cons rfl (Sub.refl _) (.cons rfl (Sub.refl _) (.cons rfl (Sub.refl _) .nil)))) (fun s v h=>h) .nil
 intro i hI K hK
 cases hx:l[i]? with
 |none=>
  have hlt:=ltF (l:=l.map Idx.c) (getFN hx)
  rw[idx_no (take_full hI hx)]
  (repeat' (first|refine wk1 ?_|refine wk2 (fun hb hp=> ?_) (fun hb hp=> ?_)|fail))
  apply L.ends;exact rfl;exact rfl;exact Sub.refl _
  exact Wk.mkX keys_some .nil (fun s v h=>h) .nil
 |some y=>
  have hlt:=ltT (l:=l.map Idx.c) (getF (f:=Idx.c) hx)
  have hlt':=ltN hx
  have hcy:=hc y (List.mem_of_getElem? hx)
  have g1:(l.map Idx.c)[((i:Nat):Int).toNat]?=some [S y.n,S y.tb,S y.co]:=by rw[Int.toNat_natCast,List.getElem?_map,hx];rfl
  cases hq:p y with
  |true=>
   rw[hq] at hcy
   have hcz:CallG gs Tryz.prog f ([.agg ((Idx.c y).map .iv)] ++caps) bxi bxi [] _:=hcy
   rw[idx_at hI hx hq]
   (repeat' (first|(apply s_callFn (f:=f);exact rfl;exact hG;exact rfl;exact hcz;exact rfl;exact hw;exact hmb;exact rfl)|refine wk1 ?_|refine wk2 (fun hb hp=> ?_) (fun hb hp=> ?_)|fail))
   apply L.ends;exact rfl;exact rfl;exact Sub.refl _
   exact Wk.mkX keys_some .nil (fun s v h=>lookup_app h) .nil
  |false=>
   rw[hq] at hcy
   have hcz:CallG gs Tryz.prog f ([.agg ((Idx.c y).map .iv)] ++caps) bxi bxi [] _:=hcy
   (repeat' (first|(apply s_callFn (f:=f);exact rfl;exact hG;exact rfl;exact hcz;exact rfl;exact hw;exact hmb;exact rfl)|refine wk1 ?_|refine wk2 (fun hb hp=> ?_) (fun hb hp=> ?_)|fail))
   refine hK _ (i+1) (take_snoc hI hx hq) (by omega) ?_
   exact Wk.mkX keys_some (.cons rfl (Sub.refl _) (.cons rfl (Sub.refl _) (.cons rfl (Sub.refl _) (.cons rfl (Sub.refl _) .nil)))) (fun s v h=>lookup_app h) .nil
set_option maxRecDepth 100000 in
theorem containsX_any{gs:Globs}{f:FuncId}{b:Box}[CallTy Tryz.prog f](p:Idx→Bool)(l:List Idx)(hl:l.length≤140737488355328)(hbn:b.cs.isEmpty=false)(hm:AV.mentsIn [] b.cs=true)
 (hc: ∀y∈l,CallG gs Tryz.prog f [.agg ((Idx.c y).map .iv),.ptr 1000 0] [(1000,b)] [(1000,b)] [] (aB (p y))):
 CallG gs Tryz.prog 27 [.iv (.sl (l.map Idx.c)),.fn f [.ptr 1000 0]] [(1000,b)] [(1000,b)] [] (aB (l.any p)):=by
 have k:=indexFuncX_any (f:=f) (caps:= [.ptr 1000 0]) (bxi:= [(1000,b)]) p l hl hc (.cons rfl rfl (Subs.refl _) .nil) (by simp[hbn,mentsIn_of hm])
 refine CallG.intro _ Tryz.func27 rfl Tryz.ntmps27 rfl (fun w0 E0 hG=> ?_)
 rw[←idx_ge]
 (repeat' (first|(refine LW.is ?_;first|(apply s_callQ1 (q:=1000);exact rfl;exact hG;exact k;exact rfl;exact rfl;exact hbn;exact hm;exact rfl))|(refine DR.is ?_;first|(apply d_callQ1 (q:=1000);exact rfl;exact hG;exact k;exact rfl;exact rfl;exact hbn;exact hm;exact rfl))|refine wk1 ?_|refine wk2 (fun hb hp=> ?_) (fun hb hp=> ?_)|fail))
 all_goals(apply L.ends;exact rfl;exact rfl;exact Sub.refl _;exact Wk.mk' (by intro id h;simp[keys] at h;subst h;rfl) .nil (.cons rfl rfl (Subs.refl _) .nil) .nil)
set_option maxRecDepth 100000 in
set_option maxHeartbeats 4000000 in
theorem indexFuncT_any{gs:Globs}{f:FuncId}{caps:List AV}{bxi:List (Nat×Box)}[CallTy Tryz.prog f](p:Ast→Bool)(l:List Ast)(hl:l.length≤140737488355328)(hc: ∀y∈l,CallG gs Tryz.prog f (.agg ((Ast.c y).map .iv)::caps) bxi bxi [] (aB (p y)))
 (hw:WkB bxi bxi) (hmb:bxi.all (fun p=> !p.2.cs.isEmpty && AV.mentsIn (keys bxi) p.2.cs)=true):
 CallG gs Tryz.prog 77 [.iv (.sl (l.map Ast.c)),.fn f caps] bxi bxi [] (aI (idxM p l)):=by
 refine CallG.intro _ Tryz.func77 rfl Tryz.ntmps77 rfl (fun w0 E0 hG=> ?_)
 (repeat' (first|refine wk1 ?_|refine wk2 (fun hb hp=> ?_) (fun hb hp=> ?_)|fail))
 refine L.loopP (ι:=Nat) (fun i=>⟨[(8,aI (i:Int)),(7,aI ((l.map Ast.c).length:Int)),(0,.iv (.sl (l.map Ast.c))),(1,.fn f caps)],bxi,[]⟩) (fun i=>l.length - i) (fun i=> ∀y∈l.take i,p y=false) (i0:=0) ?_ (by simp) ?_
 · exact Wk.mkX keys_some (.cons rfl (Sub.refl _) (.cons rfl (Sub.refl _) (.cons rfl (Sub.refl _) (.cons rfl (Sub.refl _) .nil)))) (fun s v h=>h) .nil
 intro i hI K hK
 cases hx:l[i]? with
 |none=>
  have hlt:=ltF (l:=l.map Ast.c) (getFN hx)
  rw[idx_no (take_full hI hx)]
  (repeat' (first|refine wk1 ?_|refine wk2 (fun hb hp=> ?_) (fun hb hp=> ?_)|fail))
  apply L.ends;exact rfl;exact rfl;exact Sub.refl _
  exact Wk.mkX keys_some .nil (fun s v h=>h) .nil
 |some y=>
  have hlt:=ltT (l:=l.map Ast.c) (getF (f:=Ast.c) hx)
  have hlt':=ltN hx
  have hcy:=hc y (List.mem_of_getElem? hx)
  have g1:(l.map Ast.c)[((i:Nat):Int).toNat]?=some [S y.co,I y.e.op,I y.e.v.k,I y.e.v.n,S y.e.v.s,S y.e.s,S y.e.name,I y.e.n,.sl (y.e.l.map Ex.c)]:=by rw[Int.toNat_natCast,List.getElem?_map,hx];rfl
  cases hq:p y with
  |true=>
   rw[hq] at hcy
   have hcz:CallG gs Tryz.prog f ([.agg ((Ast.c y).map .iv)] ++caps) bxi bxi [] _:=hcy
   rw[idx_at hI hx hq]
   (repeat' (first|(apply s_callFn (f:=f);exact rfl;exact hG;exact rfl;exact hcz;exact rfl;exact hw;exact hmb;exact rfl)|refine wk1 ?_|refine wk2 (fun hb hp=> ?_) (fun hb hp=> ?_)|fail))
   apply L.ends;exact rfl;exact rfl;exact Sub.refl _
   exact Wk.mkX keys_some .nil (fun s v h=>lookup_app h) .nil
  |false=>
   rw[hq] at hcy
   have hcz:CallG gs Tryz.prog f ([.agg ((Ast.c y).map .iv)] ++caps) bxi bxi [] _:=hcy
   (repeat' (first|(apply s_callFn (f:=f);exact rfl;exact hG;exact rfl;exact hcz;exact rfl;exact hw;exact hmb;exact rfl)|refine wk1 ?_|refine wk2 (fun hb hp=> ?_) (fun hb hp=> ?_)|fail))
   refine hK _ (i+1) (take_snoc hI hx hq) (by omega) ?_
   exact Wk.mkX keys_some (.cons rfl (Sub.refl _) (.cons rfl (Sub.refl _) (.cons rfl (Sub.refl _) (.cons rfl (Sub.refl _) .nil)))) (fun s v h=>lookup_app h) .nil
set_option maxRecDepth 100000 in
theorem containsT_any{gs:Globs}{f:FuncId}{b:Box}[CallTy Tryz.prog f](p:Ast→Bool)(l:List Ast)(hl:l.length≤140737488355328)(hbn:b.cs.isEmpty=false)(hm:AV.mentsIn [] b.cs=true)
 (hc: ∀y∈l,CallG gs Tryz.prog f [.agg ((Ast.c y).map .iv),.ptr 1000 0] [(1000,b)] [(1000,b)] [] (aB (p y))):
 CallG gs Tryz.prog 61 [.iv (.sl (l.map Ast.c)),.fn f [.ptr 1000 0]] [(1000,b)] [(1000,b)] [] (aB (l.any p)):=by
 have k:=indexFuncT_any (f:=f) (caps:= [.ptr 1000 0]) (bxi:= [(1000,b)]) p l hl hc (.cons rfl rfl (Subs.refl _) .nil) (by simp[hbn,mentsIn_of hm])
 refine CallG.intro _ Tryz.func61 rfl Tryz.ntmps61 rfl (fun w0 E0 hG=> ?_)
 rw[←idx_ge]
 (repeat' (first|(refine LW.is ?_;first|(apply s_callQ1 (q:=1000);exact rfl;exact hG;exact k;exact rfl;exact rfl;exact hbn;exact hm;exact rfl))|(refine DR.is ?_;first|(apply d_callQ1 (q:=1000);exact rfl;exact hG;exact k;exact rfl;exact rfl;exact hbn;exact hm;exact rfl))|refine wk1 ?_|refine wk2 (fun hb hp=> ?_) (fun hb hp=> ?_)|fail))
 all_goals(apply L.ends;exact rfl;exact rfl;exact Sub.refl _;exact Wk.mk' (by intro id h;simp[keys] at h;subst h;rfl) .nil (.cons rfl rfl (Subs.refl _) .nil) .nil)
set_option maxRecDepth 100000 in
set_option maxHeartbeats 4000000 in
theorem indexFuncN_any{gs:Globs}{f:FuncId}{caps:List AV}{bxi:List (Nat×Box)}[CallTy Tryz.prog f](p:Int→Bool)(l:List Int)(hl:l.length≤140737488355328)(hc: ∀y∈l,CallG gs Tryz.prog f (aI y::caps) bxi bxi [] (aB (p y)))
 (hw:WkB bxi bxi) (hmb:bxi.all (fun p=> !p.2.cs.isEmpty && AV.mentsIn (keys bxi) p.2.cs)=true):
 CallG gs Tryz.prog 93 [.iv (.sl (l.map numC)),.fn f caps] bxi bxi [] (aI (idxM p l)):=by
 refine CallG.intro _ Tryz.func93 rfl Tryz.ntmps93 rfl (fun w0 E0 hG=> ?_)
 (repeat' (first|refine wk1 ?_|refine wk2 (fun hb hp=> ?_) (fun hb hp=> ?_)|fail))
 refine L.loopP (ι:=Nat) (fun i=>⟨[(8,aI (i:Int)),(7,aI ((l.map numC).length:Int)),(0,.iv (.sl (l.map numC))),(1,.fn f caps)],bxi,[]⟩) (fun i=>l.length - i) (fun i=> ∀y∈l.take i,p y=false) (i0:=0) ?_ (by simp) ?_
 · exact Wk.mkX keys_some (.cons rfl (Sub.refl _) (.cons rfl (Sub.refl _) (.cons rfl (Sub.refl _) (.cons rfl (Sub.refl _) .nil)))) (fun s v h=>h) .nil
 intro i hI K hK
 cases hx:l[i]? with
 |none=>
  have hlt:=ltF (l:=l.map numC) (getFN hx)
  rw[idx_no (take_full hI hx)]
  (repeat' (first|refine wk1 ?_|refine wk2 (fun hb hp=> ?_) (fun hb hp=> ?_)|fail))
  apply L.ends;exact rfl;exact rfl;exact Sub.refl _
  exact Wk.mkX keys_some .nil (fun s v h=>h) .nil
 |some y=>
  have hlt:=ltT (l:=l.map numC) (getF (f:=numC) hx)
  have hlt':=ltN hx
  have hcy:=hc y (List.mem_of_getElem? hx)
  have g1:(l.map numC)[((i:Nat):Int).toNat]?=some [I y]:=by rw[Int.toNat_natCast,List.getElem?_map,hx];rfl
  cases hq:p y with
  |true=>
   rw[hq] at hcy
   have hcz:CallG gs Tryz.prog f ([aI y] ++caps) bxi bxi [] _:=hcy
   rw[idx_at hI hx hq]
   (repeat' (first|(apply s_callFn (f:=f);exact rfl;exact hG;exact rfl;exact hcz;exact rfl;exact hw;exact hmb;exact rfl)|refine wk1 ?_|refine wk2 (fun hb hp=> ?_) (fun hb hp=> ?_)|fail))
   apply L.ends;exact rfl;exact rfl;exact Sub.refl _
   exact Wk.mkX keys_some .nil (fun s v h=>lookup_app h) .nil
  |false=>
   rw[hq] at hcy
   have hcz:CallG gs Tryz.prog f ([aI y] ++caps) bxi bxi [] _:=hcy
   (repeat' (first|(apply s_callFn (f:=f);exact rfl;exact hG;exact rfl;exact hcz;exact rfl;exact hw;exact hmb;exact rfl)|refine wk1 ?_|refine wk2 (fun hb hp=> ?_) (fun hb hp=> ?_)|fail))
   refine hK _ (i+1) (take_snoc hI hx hq) (by omega) ?_
   exact Wk.mkX keys_some (.cons rfl (Sub.refl _) (.cons rfl (Sub.refl _) (.cons rfl (Sub.refl _) (.cons rfl (Sub.refl _) .nil)))) (fun s v h=>lookup_app h) .nil
set_option maxRecDepth 100000 in
theorem containsN_any{gs:Globs}{f:FuncId}{b:Box}[CallTy Tryz.prog f](p:Int→Bool)(l:List Int)(hl:l.length≤140737488355328)(hbn:b.cs.isEmpty=false)(hm:AV.mentsIn [] b.cs=true)
 (hc: ∀y∈l,CallG gs Tryz.prog f [aI y,.ptr 1000 0] [(1000,b)] [(1000,b)] [] (aB (p y))):
 CallG gs Tryz.prog 79 [.iv (.sl (l.map numC)),.fn f [.ptr 1000 0]] [(1000,b)] [(1000,b)] [] (aB (l.any p)):=by
 have k:=indexFuncN_any (f:=f) (caps:= [.ptr 1000 0]) (bxi:= [(1000,b)]) p l hl hc (.cons rfl rfl (Subs.refl _) .nil) (by simp[hbn,mentsIn_of hm])
 refine CallG.intro _ Tryz.func79 rfl Tryz.ntmps79 rfl (fun w0 E0 hG=> ?_)
 rw[←idx_ge]
 (repeat' (first|(refine LW.is ?_;first|(apply s_callQ1 (q:=1000);exact rfl;exact hG;exact k;exact rfl;exact rfl;exact hbn;exact hm;exact rfl))|(refine DR.is ?_;first|(apply d_callQ1 (q:=1000);exact rfl;exact hG;exact k;exact rfl;exact rfl;exact hbn;exact hm;exact rfl))|refine wk1 ?_|refine wk2 (fun hb hp=> ?_) (fun hb hp=> ?_)|fail))
 all_goals(apply L.ends;exact rfl;exact rfl;exact Sub.refl _;exact Wk.mk' (by intro id h;simp[keys] at h;subst h;rfl) .nil (.cons rfl rfl (Subs.refl _) .nil) .nil)
set_option maxRecDepth 100000 in
theorem containsE0_any{gs:Globs}{f:FuncId}[CallTy Tryz.prog f](p:Ex→Bool)(l:List Ex)(hl:l.length≤140737488355328)
 (hc: ∀y∈l,CallG gs Tryz.prog f [.agg ((Ex.cs y).map .iv)] [] [] [] (aB (p y))):
 CallG gs Tryz.prog 22 [.iv (.sl (l.map Ex.c)),.fn f []] [] [] [] (aB (l.any p)):=by
 have k:=indexFuncE_any (f:=f) (caps:= []) (bxi:= []) p l hl hc .nil rfl
 refine CallG.intro _ Tryz.func22 rfl Tryz.ntmps22 rfl (fun w0 E0 hG=> ?_)
 rw[←idx_ge]
 (repeat' (first|refine wk1 ?_|refine wk2 (fun hb hp=> ?_) (fun hb hp=> ?_)|fail))
 all_goals refine wkf ?_
 all_goals rfl
end Go.Proofs.YthcjohcakdnmmaaGreatDoor
namespace Go.Proofs.YthcjohcakdnmmaaGreatDoor
open Go.Abs
set_option maxRecDepth 100000
attribute [local irreducible] L Code.wp bodyPost Exit.then Exit.inBlock
set_option linter.unusedVariables false
set_option linter.unusedSimpArgs false
def hitM(s name:Str)(t:Tab):Bool:=decide ((0:Int)≤colM t name) && (s== [] ||s==t.n)
def colTy(t:Tab)(k:Int):Int:=(t.cols.getD k.toNat ⟨[],0,false⟩).t
def findGo(s name:Str):List Tab→Int→Int→Int→Int×Int×Int
 | [],at_,place,kind=>if place<0 then(0,0,3) else(place,kind,0)
 |t::ts,at_,place,kind=>
  if hitM s name t then
   if 0≤place then(0,0,3) else findGo s name ts (at_+t.cols.length) (at_+colM t name) (colTy t (colM t name))
  else findGo s name ts (at_+t.cols.length) place kind
def findM(ts:List Tab)(s name:Str):Int×Int×Int:=findGo s name ts 0 (-1) 0
structure Sc (s:List Tab):Prop where
 l:s.length≤1000
 c: ∀t∈s,t.cols.length≤1000
theorem Sc.nil:Sc []:=⟨by decide,by simp⟩
set_option maxRecDepth 100000 in
set_option maxHeartbeats 4000000 in
theorem find_any(ts:List Tab)(e:Ex)(hs:Sc ts):
 CallA Tryz.prog 81 [.iv (.sl (ts.map Tab.c)),.agg (e.cs.map .iv)] [] [] [] (.tup [.iv (I (findM ts e.s e.name).1),.iv (I (findM ts e.s e.name).2.1),.iv (I (findM ts e.s e.name).2.2)]):=by
 obtain⟨op,v,s,name,n,l⟩:=e
 have hc:(Ex.mk op v s name n l).cs= [I op,I v.k,I v.n,S v.s,S s,S name,I n,.sl (l.map Ex.c)]:=rfl
 show CallA _ _ _ _ _ _ (.tup [.iv (I (findM ts s name).1),.iv (I (findM ts s name).2.1),.iv (I (findM ts s name).2.2)])
 rw[hc]
 clear hc
 have hl:=hs.l
 refine CallA.intro _ Tryz.func81 rfl Tryz.ntmps81 rfl (fun w0 E0=> ?_)
 (repeat' (first|refine wk1 ?_|refine wk2 (fun hb hp=> ?_) (fun hb hp=> ?_)|fail))
 refine L.loopP (ι:=Nat×Int×Int×Int) (fun i=>⟨[(15,aI (i.1:Int)),(14,aI ((ts.map Tab.c).length:Int)),(13,.iv (.sl (ts.map Tab.c))),(3,.ptr 3 0),(7,aI i.2.1),(8,aI i.2.2.1),(9,aI i.2.2.2)],
  [(3,⟨34,.l [.iv (I op),.iv (I v.k),.iv (I v.n),.iv (S v.s),.iv (S s),.iv (S name),.iv (I n),.iv (.sl (l.map Ex.c))]⟩)],[]⟩) (fun i=>ts.length - i.1)
  (fun i=>findM ts s name=findGo s name (ts.drop i.1) i.2.1 i.2.2.1 i.2.2.2∧0≤i.2.1∧i.2.1≤1000*i.1∧ -1≤i.2.2.1∧i.2.2.1≤1000*i.1) (i0:=(0,0,-1,0)) ?_ ⟨rfl,by decide,by decide,by decide,by decide⟩ ?_
 · exact wkk
 rintro ⟨i,a,p,k⟩ ⟨hI,b1,b2,b3,b4⟩ K hK
 dsimp only at hI b1 b2 b3 b4⊢
 cases hx:ts[i]? with
 |none=>
  have hlt:=ltF (l:=ts.map Tab.c) (getFN hx)
  rw[dropN hx,findGo] at hI
  by_cases hp0:p<0
  · rw[if_pos hp0] at hI
    have q0:decide (p<0)=true:=decide_eq_true hp0
    rw[hI]
    (repeat' (first|refine wk1 ?_|refine wk2 (fun hb hp=> ?_) (fun hb hp=> ?_)|fail))
    all_goals refine wkf ?_
    all_goals rfl
  · rw[if_neg hp0] at hI
    have q0:decide (p<0)=false:=decide_eq_false hp0
    rw[hI]
    (repeat' (first|refine wk1 ?_|refine wk2 (fun hb hp=> ?_) (fun hb hp=> ?_)|fail))
    all_goals refine wkf ?_
    all_goals rfl
 |some t=>
  have hlt:=ltT (l:=ts.map Tab.c) (getF (f:=Tab.c) hx)
  have hlt':=ltN hx
  have g1:(ts.map Tab.c)[((i:Nat):Int).toNat]?=some [S t.n,.sl (t.cols.map Col.c)]:=by rw[Int.toNat_natCast,List.getElem?_map,hx];rfl
  have htl:=hs.c t (List.mem_of_getElem? hx)
  have kf:=findCol_any t name (by omega)
  have lc:((t.cols.map Col.c).length:Int)=(t.cols.length:Int):=by simp
  have hran:=idx_ran (fun c:Col=>c.n==name) t.cols
  have hcm:colM t name=idxM (fun c:Col=>c.n==name) t.cols:=rfl
  rw[←hcm] at hran
  rw[dropC hx,findGo] at hI
  cases hh:hitM s name t with
  |false=>
   rw[hh,if_neg (by simp)] at hI
   unfold hitM at hh
   have hres:(fun i:Nat×Int×Int×Int=>findM ts s name=findGo s name (ts.drop i.1) i.2.1 i.2.2.1 i.2.2.2∧0≤i.2.1∧i.2.1≤1000*i.1∧ -1≤i.2.2.1∧i.2.2.1≤1000*i.1) (i+1,a+((t.cols.map Col.c).length:Int),p,k):=by
    refine⟨by rw[hI,lc],?_,?_,b3,?_⟩
    · dsimp only;omega
    · dsimp only;rw[lc];omega
    · dsimp only;omega
   cases h1:decide ((0:Int)≤colM t name) with
   |false=>
    (repeat' (first|refine wk1 ?_|refine wk2 (fun hb hp=> ?_) (fun hb hp=> ?_)|fail))
    refine hK _ (i+1,a+((t.cols.map Col.c).length:Int),p,k) hres (by dsimp only;omega) ?_
    exact wkk
   |true=>
    rw[h1,Bool.true_and,Bool.or_eq_false_iff] at hh
    obtain⟨h2,h3⟩:=hh
    (repeat' (first|refine wk1 ?_|refine wk2 (fun hb hp=> ?_) (fun hb hp=> ?_)|fail))
    refine hK _ (i+1,a+((t.cols.map Col.c).length:Int),p,k) hres (by dsimp only;omega) ?_
    exact wkk
  |true=>
   rw[hh,if_pos rfl] at hI
   unfold hitM at hh
   rw[Bool.and_eq_true,Bool.or_eq_true] at hh
   obtain⟨h1,h23⟩:=hh
   have h0:0≤colM t name:=of_decide_eq_true h1
   have hki:(colM t name).toNat<t.cols.length:=by
    unfold colM at h0⊢
    unfold idxM at h0⊢
    cases hf:t.cols.findIdx? (fun c:Col=>c.n==name) with
    |none=>rw[hf] at h0;simp only at h0;omega
    |some j=>have:=(List.findIdx?_eq_some_iff_getElem.1 hf).1;simpa using this
   have g2:(t.cols.map Col.c)[(colM t name).toNat]?=some [S (t.cols.getD (colM t name).toNat ⟨[],0,false⟩).n,I (t.cols.getD (colM t name).toNat ⟨[],0,false⟩).t,.im (.bool (t.cols.getD (colM t name).toNat ⟨[],0,false⟩).m)]:=by rw[List.getElem?_map,getD_some ⟨[],0,false⟩ hki];rfl
   have hh:(s== [] ||s==t.n)=true:=by rw[Bool.or_eq_true];exact h23
   by_cases hp0:0≤p
   · rw[if_pos hp0] at hI
     have q0:decide (0≤p)=true:=decide_eq_true hp0
     rw[hI]
     cases h2:s== [] with
     |true=>
      (repeat' (first|refine wk1 ?_|refine wk2 (fun hb hp=> ?_) (fun hb hp=> ?_)|fail))
      all_goals refine wkf ?_
      all_goals rfl
     |false=>
      have h3:(s==t.n)=true:=by rw[h2,Bool.false_or] at hh;exact hh
      (repeat' (first|refine wk1 ?_|refine wk2 (fun hb hp=> ?_) (fun hb hp=> ?_)|fail))
      all_goals refine wkf ?_
      all_goals rfl
   · rw[if_neg hp0] at hI
     have q0:decide (0≤p)=false:=decide_eq_false hp0
     have hct:colTy t (colM t name)=(t.cols.getD (colM t name).toNat ⟨[],0,false⟩).t:=rfl
     rw[hct] at hI
     generalize t.cols.getD (colM t name).toNat ⟨[],0,false⟩=cc at*
     generalize colM t name=kk at*
     have hres:(fun i:Nat×Int×Int×Int=>findM ts s name=findGo s name (ts.drop i.1) i.2.1 i.2.2.1 i.2.2.2∧0≤i.2.1∧i.2.1≤1000*i.1∧ -1≤i.2.2.1∧i.2.2.1≤1000*i.1) (i+1,a+((t.cols.map Col.c).length:Int),a+kk,cc.t):=by
      refine⟨by rw[hI,lc],?_,?_,?_,?_⟩
      · dsimp only;omega
      · dsimp only;rw[lc];omega
      · dsimp only;omega
      · dsimp only;omega
     cases h2:s== [] with
     |true=>
      (repeat' (first|(refine LW.is ?_;first|(apply s_vr;exact rfl;apply v_indexA;exact rfl;exact rfl;(first|omega|exact h0);(first|exact g1|exact g2);exact rfl))|(refine DR.is ?_;first|(apply d_vr;exact rfl;apply v_indexA;exact rfl;exact rfl;(first|omega|exact h0);(first|exact g1|exact g2);exact rfl))|refine wk1 ?_|refine wk2 (fun hb hp=> ?_) (fun hb hp=> ?_)|fail))
      refine hK _ (i+1,a+((t.cols.map Col.c).length:Int),a+kk,cc.t) hres (by dsimp only;omega) ?_
      exact wkk
     |false=>
      have h3:(s==t.n)=true:=by rw[h2,Bool.false_or] at hh;exact hh
      (repeat' (first|(refine LW.is ?_;first|(apply s_vr;exact rfl;apply v_indexA;exact rfl;exact rfl;(first|omega|exact h0);(first|exact g1|exact g2);exact rfl))|(refine DR.is ?_;first|(apply d_vr;exact rfl;apply v_indexA;exact rfl;exact rfl;(first|omega|exact h0);(first|exact g1|exact g2);exact rfl))|refine wk1 ?_|refine wk2 (fun hb hp=> ?_) (fun hb hp=> ?_)|fail))
      refine hK _ (i+1,a+((t.cols.map Col.c).length:Int),a+kk,cc.t) hres (by dsimp only;omega) ?_
      exact wkk
def allB(k:Int)(ts:List Int):Bool:= !(ts.any (fun t=>(t !=k) && (t !=0)))
theorem bind11_any{gs:Globs}(y k:Int):
 CallG gs Tryz.prog 80 [aI y,.ptr 1000 0] [(1000,⟨3,.l [aI k]⟩)] [(1000,⟨3,.l [aI k]⟩)] [] (aB ((y !=k) && (y !=0))):=by
 refine CallG.intro _ Tryz.func80 rfl Tryz.ntmps80 rfl (fun w0 E0 hG=> ?_)
 cases h:y !=k
 · (repeat' (first|refine wk1 ?_|refine wk2 (fun hb hp=> ?_) (fun hb hp=> ?_)|fail))
   all_goals(apply L.ends;exact rfl;exact rfl;exact Sub.refl _;exact Wk.mk' (by intro id h;simp[keys] at h;subst h;rfl) .nil (.cons rfl rfl (Subs.refl _) .nil) .nil)
 · (repeat' (first|refine wk1 ?_|refine wk2 (fun hb hp=> ?_) (fun hb hp=> ?_)|fail))
   all_goals(apply L.ends;exact rfl;exact rfl;exact Sub.refl _;exact Wk.mk' (by intro id h;simp[keys] at h;subst h;rfl) .nil (.cons rfl rfl (Subs.refl _) .nil) .nil)
set_option maxRecDepth 100000 in
theorem bind1_any{gs:Globs}(k:Int)(ts:List Int)(hl:ts.length≤140737488355328):
 CallG gs Tryz.prog 78 [aI k,.ptr 1000 0] [(1000,⟨119,.l [.iv (.sl (ts.map numC))]⟩)] [(1000,⟨119,.l [.iv (.sl (ts.map numC))]⟩)] [] (aB (allB k ts)):=by
 have kc:=containsN_any (gs:=gs) (f:=80) (b:=⟨3,.l [aI k]⟩) (fun t=>(t !=k) && (t !=0)) ts hl rfl rfl (fun y _=>bind11_any y k)
 refine CallG.intro _ Tryz.func78 rfl Tryz.ntmps78 rfl (fun w0 E0 hG=> ?_)
 (repeat' (first|(apply s_vr;exact rfl;apply v_makeFunc;exact rfl)|(refine LW.is ?_;first|(apply s_callG1 (q:=2);exact rfl;exact hG;exact kc;exact rfl;exact rfl;exact rfl;exact rfl;exact rfl;exact rfl;exact rfl))|(refine DR.is ?_;first|(apply d_callG1 (q:=2);exact rfl;exact hG;exact kc;exact rfl;exact rfl;exact rfl;exact rfl;exact rfl;exact rfl;exact rfl))|refine wk1 ?_|refine wk2 (fun hb hp=> ?_) (fun hb hp=> ?_)|fail))
 all_goals(apply L.ends;exact rfl;exact rfl;exact Sub.refl _;exact Wk.mk' (by intro id h;simp[keys] at h;subst h;rfl) .nil (.cons rfl rfl (Subs.refl _) .nil) .nil)
end Go.Proofs.YthcjohcakdnmmaaGreatDoor
namespace Go.Proofs.YthcjohcakdnmmaaGreatDoor
open Go.Abs
set_option maxRecDepth 100000
attribute [local irreducible] L Code.wp bodyPost Exit.then Exit.inBlock
set_option linter.unusedVariables false
set_option linter.unusedSimpArgs false
abbrev BR:=Ex×Int×Int
def errM(l:List Int):Int:=(l.find? (fun f=>f !=0)).getD 0
def badB:BR:=(nilE,0,5)
def bindOne(ts:List Tab)(op:Int)(v:Val)(s name:Str)(n f:Int)(es:List Ex)(tys:List Int):BR:=
 if f≠0 then(nilE,0,f)
 else if op=1 then(.mk op v s name n es,v.k,0)
 else if op=2 then(.mk op v s name (findM ts s name).1 es,(findM ts s name).2.1,(findM ts s name).2.2)
 else if op=3∨op=4 then if allB 1 tys then(.mk op v s name n es,1,0) else badB
 else if op=5∨op=6 then if(allB 1 tys||allB 2 tys) then(.mk op v s name n es,3,0) else badB
 else if op=7∨op=8∨op=9 then if allB 3 tys then(.mk op v s name n es,3,0) else badB
 else if op=10 then(.mk op v s name n es,3,0)
 else badB
def bindM(ts:List Tab):Ex→BR
 | .mk op v s name n l=>bindOne ts op v s name n (errM ((l.attach.map fun x=>bindM ts x.1).map (·.2.2))) ((l.attach.map fun x=>bindM ts x.1).map (·.1)) ((l.attach.map fun x=>bindM ts x.1).map (·.2.1))
 decreasing_by
  all_goals
   have:=List.sizeOf_lt_of_mem x.2
   simp;omega
theorem bindM_eq(ts:List Tab)(op:Int)(v:Val)(s name:Str)(n:Int)(l:List Ex):
 bindM ts (.mk op v s name n l)=bindOne ts op v s name n (errM (l.map fun x=>(bindM ts x).2.2)) (l.map fun x=>(bindM ts x).1) (l.map fun x=>(bindM ts x).2.1):=by
 rw[bindM]
 have e:(l.attach.map fun x=>bindM ts x.1)=l.map (bindM ts):=by simp
 rw[e];simp[List.map_map,Function.comp_def]
theorem err_at{l:List Ex}{g:Ex→Int}{i:Nat}{x:Ex}(h: ∀y∈l.take i,g y=0)(hx:l[i]?=some x)(hp:g x≠0):errM (l.map g)=g x:=by
 have hi:=(List.getElem?_eq_some_iff.1 hx).1
 have e:l.map g=(l.take i).map g++g x::(l.drop (i+1)).map g:=by
  rw[←List.map_cons,←List.map_append,←(List.getElem?_eq_some_iff.1 hx).2,←List.drop_eq_getElem_cons hi,List.take_append_drop]
 have hn:((l.take i).map g).find? (fun f=>f !=0)=none:=List.find?_eq_none.2 (fun y hy=>by obtain⟨z,hz,rfl⟩:=List.mem_map.1 hy;simp[h z hz])
 have hq:(g x !=0)=true:=by simpa using hp
 rw[errM,e,List.find?_append,hn,List.find?_cons,hq];rfl
theorem err_no{l:List Ex}{g:Ex→Int}(h: ∀y∈l,g y=0):errM (l.map g)=0:=by
 have hn:(l.map g).find? (fun f=>f !=0)=none:=List.find?_eq_none.2 (fun y hy=>by obtain⟨z,hz,rfl⟩:=List.mem_map.1 hy;simp[h z hz])
 rw[errM,hn];rfl
theorem take_snocE{g:Ex→Int}{l:List Ex}{i:Nat}{x:Ex}(h: ∀y∈l.take i,g y=0)(hx:l[i]?=some x)(hp:g x=0): ∀y∈l.take (i+1),g y=0:=fun y hy=>by
 rw[List.take_add_one,hx] at hy
 rcases List.mem_append.1 hy with hy|hy
 · exact h y hy
 · simp at hy;subst hy;exact hp
set_option maxHeartbeats 8000000 in
theorem bind_any(ts:List Tab)(hs:Sc ts): ∀(e:Ex) (hok:e.Ok),CallA Tryz.prog 64 [.iv (.sl (ts.map Tab.c)),.agg (e.cs.map .iv)] [] [] [] (.tup [.agg ((bindM ts e).1.cs.map .iv),.iv (I (bindM ts e).2.1),.iv (I (bindM ts e).2.2)])
 | .mk op v s name n l,hok=>by
   have ih: ∀x∈l,CallA Tryz.prog 64 [.iv (.sl (ts.map Tab.c)),.agg (x.cs.map .iv)] [] [] [] (.tup [.agg ((bindM ts x).1.cs.map .iv),.iv (I (bindM ts x).2.1),.iv (I (bindM ts x).2.2)]):=fun x hx=>bind_any ts hs x (by cases hok with|mk _ h=>exact h x hx)
   have hl:l.length*104≤140737488355328:=by cases hok with|mk hl _=>exact hl
   have hc:(Ex.mk op v s name n l).cs= [I op,I v.k,I v.n,S v.s,S s,S name,I n,.sl (l.map Ex.c)]:=rfl
   rw[bindM_eq,hc]
   clear hc hok
   refine CallG.toA (CallG.intro _ Tryz.func64 rfl Tryz.ntmps64 rfl (fun w0 E0 hG=> ?_))
   (repeat' (first|refine wk1 ?_|refine wk2 (fun hb hp=> ?_) (fun hb hp=> ?_)|fail))
   refine L.adopt 7 (s:=7) (t:=34) (k:=8) rfl rfl rfl ?_
   refine L.adoptB 8 108 3 1 rfl (by simp) rfl rfl (.cons .here .nil) ?_
   refine L.loopP (ι:=Nat) (fun i=>⟨[(21,aI (i:Int)),(20,aI ((l.map Ex.c).length:Int)),(19,.iv (.sl (l.map Ex.c))),(7,.row 7 (((l.take i).map fun x=>(bindM ts x).1).map Ex.c)),(0,.iv (.sl (ts.map Tab.c))),(3,.ptr 3 0),(4,.ptr 4 0),(8,.ptr 8 0),(5,aI 0),(6,aI 0)],
    [(3,⟨34,.l [.iv (I op),.iv (I v.k),.iv (I v.n),.iv (S v.s),.iv (S s),.iv (S name),.iv (I n),.iv (.sl (l.map Ex.c))]⟩),(4,⟨34,.l [.iv (I 0),.iv (I 0),.iv (I 0),.iv (S []),.iv (S []),.iv (S []),.iv (I 0),.nils]⟩),(8,⟨119,.l [.row 108 (((l.take i).map fun x=>(bindM ts x).2.1).map numC)]⟩)],[(7,⟨34,8⟩),(108,⟨3,1⟩)]⟩) (fun i=>l.length - i) (fun i=> ∀x∈l.take i,(bindM ts x).2.2=0) (i0:=0) ?_ (by simp) ?_
   · exact wkk
   intro i hI K hK
   cases hx:l[i]? with
   |some x=>
    have hlt:=ltT (l:=l.map Ex.c) (getF (f:=Ex.c) hx)
    have hlt':=ltN hx
    have ihx:=ih x (List.mem_of_getElem? hx)
    have g1:(l.map Ex.c)[((i:Nat):Int).toNat]?=some [I x.op,I x.v.k,I x.v.n,S x.v.s,S x.s,S x.name,I x.n,.sl (x.l.map Ex.c)]:=by rw[Int.toNat_natCast,List.getElem?_map,hx];exact congrArg some (Ex.c_cs x)
    have n1:((l.take (i+1)).map fun x=>(bindM ts x).1).map Ex.c=((l.take i).map fun x=>(bindM ts x).1).map Ex.c++ [(bindM ts x).1.cs]:=by rw[takeC hx,List.map_append,List.map_append];exact congrArg _ (by simp[Ex.c_cs])
    have n2:((l.take (i+1)).map fun x=>(bindM ts x).2.1).map numC=((l.take i).map fun x=>(bindM ts x).2.1).map numC++ [numC (bindM ts x).2.1]:=by rw[takeC hx];simp
    have l1:(((l.take i).map fun x=>(bindM ts x).1).map Ex.c).length=i:=by simp;omega
    have l2:(((l.take i).map fun x=>(bindM ts x).2.1).map numC).length=i:=by simp;omega
    have k1: ∀e∈((l.take i).map fun x=>(bindM ts x).1).map Ex.c,e.length=8:=fun e he=>by obtain⟨y,_,rfl⟩:=List.mem_map.1 he;rw[Ex.c_cs];rfl
    have k2: ∀e∈((l.take i).map fun x=>(bindM ts x).2.1).map numC,e.length=1:=fun e he=>by obtain⟨y,_,rfl⟩:=List.mem_map.1 he;rfl
    by_cases hf:(bindM ts x).2.2=0
    · have hI':=take_snocE (g:=fun x=>(bindM ts x).2.2) hI hx hf
      generalize bindM ts x=r at*
      obtain⟨e,ty,f⟩:=r
      dsimp only at hf ihx n1 n2
      subst hf
      generalize ((l.take i).map fun x=>(bindM ts x).1).map Ex.c=es at*
      generalize ((l.take i).map fun x=>(bindM ts x).2.1).map numC=tys at*
      clear hI ih
      (repeat' (first|(refine LW.is ?_;first|(apply s_append;exact rfl;exact rfl;exact rfl;exact rfl;(first|exact k1|exact k2);(first|exact len_chunks rfl|exact len_cons rfl len_nil);(first|(simp[maxLen,chunks_length,l1];omega)|(simp[maxLen,chunks_length,l2];omega));(first|(simp[chunks_length,l1];omega)|(simp[chunks_length,l2];omega));exact rfl;exact rfl))|(refine DR.is ?_;first|(apply d_append;exact rfl;exact rfl;exact rfl;exact rfl;(first|exact k1|exact k2);(first|exact len_chunks rfl|exact len_cons rfl len_nil);(first|(simp[maxLen,chunks_length,l1];omega)|(simp[maxLen,chunks_length,l2];omega));(first|(simp[chunks_length,l1];omega)|(simp[chunks_length,l2];omega));exact rfl;exact rfl))|refine wk1 ?_|refine wk2 (fun hb hp=> ?_) (fun hb hp=> ?_)|fail))
      refine L.onlyS [21,20,19,7,0,3,4,8,5,6] [3,4,8] rfl ?_
      refine L.retok 7 39 7 rfl rfl rfl rfl ?_
      refine L.retokB 8 43 108 rfl (by simp) rfl rfl rfl (.cons .row .nil) ?_
      refine hK _ (i+1) hI' (by omega) (Wk.mk' (by intro id h;cases h) (.cons rfl (Sub.refl _) (.cons rfl (Sub.refl _) (.cons rfl (Sub.refl _) (.cons rfl (Sub.of_eq (congrArg (AV.row 7) n1.symm)) (.cons rfl (Sub.refl _) (.cons rfl (Sub.refl _) (.cons rfl (Sub.refl _) (.cons rfl (Sub.refl _) (.cons rfl (Sub.refl _) (.cons rfl (Sub.refl _) .nil)))))))))) (.cons rfl rfl (Subs.refl _) (.cons rfl rfl (Subs.refl _) (.cons rfl rfl (Subs.cons (Sub.of_eq (congrArg (AV.row 108) n2.symm)) .nil) .nil))) (.cons rfl (.cons rfl .nil)))
    · have he:=err_at (g:=fun x=>(bindM ts x).2.2) hI hx hf
      rw[he]
      generalize bindM ts x=r at*
      obtain⟨e,ty,f⟩:=r
      dsimp only at hf ihx n1 n2 he⊢
      have hb:bindOne ts op v s name n f (l.map fun x=>(bindM ts x).1) (l.map fun x=>(bindM ts x).2.1)=(nilE,0,f):=by rw[bindOne,if_pos hf]
      rw[hb]
      have q:(f !=0)=true:=by simpa using hf
      (repeat' (first|refine wk1 ?_|refine wk2 (fun hb hp=> ?_) (fun hb hp=> ?_)|fail))
      all_goals refine wkf ?_
      all_goals rfl
   |none=>
    have hlt:=ltF (l:=l.map Ex.c) (getFN hx)
    have hN:l.take i=l:=List.take_of_length_le (List.getElem?_eq_none_iff.1 hx)
    rw[hN] at hI⊢
    rw[err_no (g:=fun x=>(bindM ts x).2.2) hI]
    have ll:(l.map fun x=>(bindM ts x).2.1).length=l.length:=by simp
    generalize (l.map fun x=>(bindM ts x).1)=es at*
    generalize (l.map fun x=>(bindM ts x).2.1)=tys at*
    have kb:=fun(k:Int) (b:Bool) (h:allB k tys=b)=>(h▸(bind1_any (gs:= []) k tys (by omega)).at1 (q:=8) rfl rfl rfl rfl:CallG [] Tryz.prog 78 ([aI k] ++ [.ptr 8 0]) [(8,⟨119,.l [.iv (.sl (tys.map numC))]⟩)] [(8,⟨119,.l [.iv (.sl (tys.map numC))]⟩)] [] (aB b))
    have kf:=find_any ts (.mk op v s name n es) hs
    clear hI ih hK hx hN
    by_cases h1:op=1
    · subst h1
      have e:bindOne ts 1 v s name n 0 es tys=(.mk 1 v s name n es,v.k,0):=by simp[bindOne]
      rw[e]
      (repeat' (first|(apply s_vr;exact rfl;apply v_makeFunc;exact rfl)|refine wk1 ?_|refine wk2 (fun hb hp=> ?_) (fun hb hp=> ?_)|fail))
      all_goals refine wkf ?_
      all_goals rfl
    have q1:(op==1)=false:=by simp[h1]
    by_cases h2:op=2
    · subst h2
      have e:bindOne ts 2 v s name n 0 es tys=(.mk 2 v s name (findM ts s name).1 es,(findM ts s name).2.1,(findM ts s name).2.2):=by simp[bindOne]
      rw[e]
      have kf:CallA _ _ _ _ _ _ (.tup [.iv (I (findM ts s name).1),.iv (I (findM ts s name).2.1),.iv (I (findM ts s name).2.2)]):=kf
      generalize findM ts s name=r at*
      (repeat' (first|(apply s_vr;exact rfl;apply v_makeFunc;exact rfl)|refine wk1 ?_|refine wk2 (fun hb hp=> ?_) (fun hb hp=> ?_)|fail))
      all_goals refine wkf ?_
      all_goals rfl
    have q2:(op==2)=false:=by simp[h2]
    by_cases h34:op=3∨op=4
    · cases ha:allB 1 tys with
      |true=>
       have e:bindOne ts op v s name n 0 es tys=(.mk op v s name n es,1,0):=by rcases h34 with rfl|rfl<;>simp[bindOne,ha]
       rw[e]
       have kc:=kb 1 true ha
       rcases h34 with rfl|rfl
       all_goals(repeat' (first|(apply s_vr;exact rfl;apply v_makeFunc;exact rfl)|(apply s_callFn (f:=78) (caps:= [.ptr 8 0]);exact rfl;exact hG;exact rfl;exact kc;exact rfl;exact .cons rfl rfl (Subs.cons (Sub.row _ _) .nil) .nil;exact rfl;exact rfl)|refine wk1 ?_|refine wk2 (fun hb hp=> ?_) (fun hb hp=> ?_)|fail))
       all_goals refine wkf ?_
       all_goals rfl
      |false=>
       have e:bindOne ts op v s name n 0 es tys=badB:=by rcases h34 with rfl|rfl<;>simp[bindOne,ha]
       rw[e]
       have kc:=kb 1 false ha
       rcases h34 with rfl|rfl
       all_goals(repeat' (first|(apply s_vr;exact rfl;apply v_makeFunc;exact rfl)|(apply s_callFn (f:=78) (caps:= [.ptr 8 0]);exact rfl;exact hG;exact rfl;exact kc;exact rfl;exact .cons rfl rfl (Subs.cons (Sub.row _ _) .nil) .nil;exact rfl;exact rfl)|refine wk1 ?_|refine wk2 (fun hb hp=> ?_) (fun hb hp=> ?_)|fail))
       all_goals refine wkf ?_
       all_goals rfl
    have q3:(op==3)=false:=by simp;omega
    have q4:(op==4)=false:=by simp;omega
    by_cases h56:op=5∨op=6
    · cases ha:allB 1 tys with
      |true=>
       have e:bindOne ts op v s name n 0 es tys=(.mk op v s name n es,3,0):=by rcases h56 with rfl|rfl<;>simp[bindOne,ha]
       rw[e]
       have kc:=kb 1 true ha
       rcases h56 with rfl|rfl
       all_goals(repeat' (first|(apply s_vr;exact rfl;apply v_makeFunc;exact rfl)|(apply s_callFn (f:=78) (caps:= [.ptr 8 0]);exact rfl;exact hG;exact rfl;exact kc;exact rfl;exact .cons rfl rfl (Subs.cons (Sub.row _ _) .nil) .nil;exact rfl;exact rfl)|refine wk1 ?_|refine wk2 (fun hb hp=> ?_) (fun hb hp=> ?_)|fail))
       all_goals refine wkf ?_
       all_goals rfl
      |false=>
       have kc:=kb 1 false ha
       cases hb:allB 2 tys with
       |true=>
        have e:bindOne ts op v s name n 0 es tys=(.mk op v s name n es,3,0):=by rcases h56 with rfl|rfl<;>simp[bindOne,ha,hb]
        rw[e]
        have kd:=kb 2 true hb
        rcases h56 with rfl|rfl
        all_goals(repeat' (first|(apply s_vr;exact rfl;apply v_makeFunc;exact rfl)|(apply s_callFn (f:=78) (caps:= [.ptr 8 0]);exact rfl;exact hG;exact rfl;exact kc;exact rfl;exact .cons rfl rfl (Subs.cons (Sub.row _ _) .nil) .nil;exact rfl;exact rfl)|(apply s_callFn (f:=78) (caps:= [.ptr 8 0]);exact rfl;exact hG;exact rfl;exact kd;exact rfl;exact .cons rfl rfl (Subs.refl _) .nil;exact rfl;exact rfl)|refine wk1 ?_|refine wk2 (fun hb hp=> ?_) (fun hb hp=> ?_)|fail))
        all_goals refine wkf ?_
        all_goals rfl
       |false=>
        have e:bindOne ts op v s name n 0 es tys=badB:=by rcases h56 with rfl|rfl<;>simp[bindOne,ha,hb]
        rw[e]
        have kd:=kb 2 false hb
        rcases h56 with rfl|rfl
        all_goals(repeat' (first|(apply s_vr;exact rfl;apply v_makeFunc;exact rfl)|(apply s_callFn (f:=78) (caps:= [.ptr 8 0]);exact rfl;exact hG;exact rfl;exact kc;exact rfl;exact .cons rfl rfl (Subs.cons (Sub.row _ _) .nil) .nil;exact rfl;exact rfl)|(apply s_callFn (f:=78) (caps:= [.ptr 8 0]);exact rfl;exact hG;exact rfl;exact kd;exact rfl;exact .cons rfl rfl (Subs.refl _) .nil;exact rfl;exact rfl)|refine wk1 ?_|refine wk2 (fun hb hp=> ?_) (fun hb hp=> ?_)|fail))
        all_goals refine wkf ?_
        all_goals rfl
    have q5:(op==5)=false:=by simp;omega
    have q6:(op==6)=false:=by simp;omega
    by_cases h789:op=7∨op=8∨op=9
    · cases ha:allB 3 tys with
      |true=>
       have e:bindOne ts op v s name n 0 es tys=(.mk op v s name n es,3,0):=by rcases h789 with rfl|rfl|rfl<;>simp[bindOne,ha]
       rw[e]
       have kc:=kb 3 true ha
       rcases h789 with rfl|rfl|rfl
       all_goals(repeat' (first|(apply s_vr;exact rfl;apply v_makeFunc;exact rfl)|(apply s_callFn (f:=78) (caps:= [.ptr 8 0]);exact rfl;exact hG;exact rfl;exact kc;exact rfl;exact .cons rfl rfl (Subs.cons (Sub.row _ _) .nil) .nil;exact rfl;exact rfl)|refine wk1 ?_|refine wk2 (fun hb hp=> ?_) (fun hb hp=> ?_)|fail))
       all_goals refine wkf ?_
       all_goals rfl
      |false=>
       have e:bindOne ts op v s name n 0 es tys=badB:=by rcases h789 with rfl|rfl|rfl<;>simp[bindOne,ha]
       rw[e]
       have kc:=kb 3 false ha
       rcases h789 with rfl|rfl|rfl
       all_goals(repeat' (first|(apply s_vr;exact rfl;apply v_makeFunc;exact rfl)|(apply s_callFn (f:=78) (caps:= [.ptr 8 0]);exact rfl;exact hG;exact rfl;exact kc;exact rfl;exact .cons rfl rfl (Subs.cons (Sub.row _ _) .nil) .nil;exact rfl;exact rfl)|refine wk1 ?_|refine wk2 (fun hb hp=> ?_) (fun hb hp=> ?_)|fail))
       all_goals refine wkf ?_
       all_goals rfl
    have q7:(op==7)=false:=by simp;omega
    have q8:(op==8)=false:=by simp;omega
    have q9:(op==9)=false:=by simp;omega
    by_cases h10:op=10
    · subst h10
      have e:bindOne ts 10 v s name n 0 es tys=(.mk 10 v s name n es,3,0):=by simp[bindOne]
      rw[e]
      (repeat' (first|(apply s_vr;exact rfl;apply v_makeFunc;exact rfl)|refine wk1 ?_|refine wk2 (fun hb hp=> ?_) (fun hb hp=> ?_)|fail))
      all_goals refine wkf ?_
      all_goals rfl
    have q10:(op==10)=false:=by simp[h10]
    have e:bindOne ts op v s name n 0 es tys=badB:=by simp[bindOne,h1,h2,h34,h56,h789,h10]
    rw[e]
    (repeat' (first|(apply s_vr;exact rfl;apply v_makeFunc;exact rfl)|refine wk1 ?_|refine wk2 (fun hb hp=> ?_) (fun hb hp=> ?_)|fail))
    all_goals refine wkf ?_
    all_goals rfl
 termination_by e=>SizeOf.sizeOf e
 decreasing_by
  have:=List.sizeOf_lt_of_mem hx
  simp;omega
end Go.Proofs.YthcjohcakdnmmaaGreatDoor
