/- Several texts in one, each with its own sentence ahead of it. Conditions: each one says its own. -/
import Derived.Test.YthcjohcakdnmmaaGreatDoorZS18
import Derived.Test.YthcjohcakdnmmaaGreatDoorZS22
import Derived.Test.YthcjohcakdnmmaaGreatDoorZS26
import Derived.Test.YthcjohcakdnmmaaGreatDoorZS36
set_option linter.all false
namespace Go.Proofs.YthcjohcakdnmmaaGreatDoor
open Go.Abs
set_option maxRecDepth 100000
attribute [local irreducible] L Code.wp bodyPost Exit.then Exit.inBlock
set_option linter.unusedVariables false
set_option linter.unusedSimpArgs false
theorem L.lenS(s:Nat){c:Ctx}{st:St}{X:Act→World→Prop}{es:List (List IV)}(hs:st.fr.lookup s=some (.iv (.sl es)))(h:es.length≤9223372036854775807→L c st X):L c st X:=by
 unfold L at h⊢
 rintro a w ⟨E,hi⟩
 have hr:=(hi.slot s _ hs).iv_inv
 refine h ?_ a w ⟨E,hi⟩
 generalize a.tmps.getD s undef=u at hr
 cases hr with
 |emp=>simp
 |sl f hc hm=>exact Nat.le_trans hc hm
set_option maxHeartbeats 8000000 in
theorem exprs_same{gs:Globs}(l:List Ex)(ih: ∀x∈l,CallG gs Tryz.prog 38 [.agg (x.c.map .iv),.agg (x.c.map .iv)] [] [] [] (aB true)):CallG gs Tryz.prog 37 [.iv (.sl (l.map Ex.c)),.iv (.sl (l.map Ex.c))] [] [] [] (aB true):=by
 refine CallG.intro _ Tryz.func37 rfl Tryz.ntmps37 rfl (fun w0 E0 hG=> ?_)
 have q0:(!(((l.map Ex.c).length:Int)==((l.map Ex.c).length:Int)))=false:=by simp
 refine L.lenS 0 rfl (fun hlen=> ?_)
 rw[List.length_map] at hlen
 (repeat' (first|refine wk1 ?_|refine wk2 (fun hb hp=> ?_) (fun hb hp=> ?_)|fail))
 refine L.loopP (ι:=Nat) (fun i=>⟨[(13,aI (i:Int)),(12,aI ((l.map Ex.c).length:Int)),(0,.iv (.sl (l.map Ex.c))),(1,.iv (.sl (l.map Ex.c)))],[],[]⟩) (fun i=>l.length - i) (fun i=>True) (i0:=0) ?_ trivial ?_
 · exact wkk
 clear q0
 intro i _ K hK
 cases hx:l[i]? with
 |none=>
  have hlt:=ltF (l:=l.map Ex.c) (getFN hx)
  (repeat' (first|refine wk1 ?_|refine wk2 (fun hb hp=> ?_) (fun hb hp=> ?_)|fail))
  all_goals refine wkf ?_
  all_goals rfl
 |some x=>
  have hlt:=ltT (l:=l.map Ex.c) (getF (f:=Ex.c) hx)
  have hlt':=ltN hx
  have ke:=ih x (List.mem_of_getElem? hx)
  have g1:(l.map Ex.c)[((i:Nat):Int).toNat]?=some x.c:=by rw[Int.toNat_natCast,List.getElem?_map,hx];rfl
  obtain⟨op,v,s,name,n,xl⟩:=x
  rw[Ex.c_eq] at ke g1
  clear ih
  (repeat' (first|refine wk1 ?_|refine wk2 (fun hb hp=> ?_) (fun hb hp=> ?_)|fail))
  refine hK _ (i+1) trivial (by omega) ?_
  exact wkk
set_option maxHeartbeats 8000000 in
theorem expr_same{gs:Globs}: ∀x:Ex,CallG gs Tryz.prog 38 [.agg (x.c.map .iv),.agg (x.c.map .iv)] [] [] [] (aB true)
 | .mk op v s name n l=>by
   have ke:=exprs_same (gs:=gs) l (fun x hx=>expr_same x)
   have q1:(op==op)=true:=beq_self_eq_true op
   have q2:(s==s)=true:=beq_self_eq_true s
   have q3:(name==name)=true:=beq_self_eq_true name
   have q4:(n==n)=true:=beq_self_eq_true n
   have eq1:eqVs [.iv (I v.k),.iv (I v.n),.iv (S v.s)] [.iv (I v.k),.iv (I v.n),.iv (S v.s)] =some true:=by simp[eqVs,eqV]
   rw[Ex.c_eq]
   refine CallG.intro _ Tryz.func38 rfl Tryz.ntmps38 rfl (fun w0 E0 hG=> ?_)
   (repeat' (first|(refine LW.is ?_;first|(apply s_vr;exact rfl;apply v_eqlAgg;exact rfl;exact rfl;exact rfl;exact eq1))|(refine DR.is ?_;first|(apply d_vr;exact rfl;apply v_eqlAgg;exact rfl;exact rfl;exact rfl;exact eq1))|refine wk1 ?_|refine wk2 (fun hb hp=> ?_) (fun hb hp=> ?_)|fail))
   all_goals refine wkf ?_
   all_goals rfl
 termination_by x=>SizeOf.sizeOf x
 decreasing_by
  have:=List.sizeOf_lt_of_mem hx
  simp;omega
set_option maxHeartbeats 32000000 in
theorem stmt_same{gs:Globs}(s:Stm):CallG gs Tryz.prog 8 [.agg (s.cs.map .iv),.agg (s.cs.map .iv)] [] [] [] (aB true):=by
 have k1:=exprs_same (gs:=gs) s.out (fun x _=>expr_same x)
 have k2:CallG gs Tryz.prog 38 [.agg (s.wh.cs.map .iv),.agg (s.wh.cs.map .iv)] [] [] [] (aB true):=by
  have:=expr_same (gs:=gs) s.wh
  rw[Ex.c_cs] at this;exact this
 have k3:=exprs_same (gs:=gs) s.ord (fun x _=>expr_same x)
 have z1:(!(s.kind==s.kind))=false:=by simp
 have z2:(!(s.name==s.name))=false:=by simp
 have z3:(!(s.table==s.table))=false:=by simp
 have z4:(!(s.col==s.col))=false:=by simp
 have z5:(!(s.down==s.down))=false:=by simp
 have z6:(!(s.n==s.n))=false:=by simp
 have z_cols:(!(((s.cols.map Col.c).length:Int)==((s.cols.map Col.c).length:Int)))=false:=by simp
 have z_rows:(!(((s.rows.map exRow).length:Int)==((s.rows.map exRow).length:Int)))=false:=by simp
 have z_sets:(!(((s.sets.map Ast.c).length:Int)==((s.sets.map Ast.c).length:Int)))=false:=by simp
 have z_frm:(!(((s.frm.map Str.c).length:Int)==((s.frm.map Str.c).length:Int)))=false:=by simp
 refine CallG.intro _ Tryz.func8 rfl Tryz.ntmps8 rfl (fun w0 E0 hG=> ?_)
 (repeat' (first|refine wk1 ?_|refine wk2 (fun hb hp=> ?_) (fun hb hp=> ?_)|fail))
 refine L.lenS 86 (es:=(s.cols.map Col.c)) rfl (fun hlen=> ?_)
 rw[List.length_map] at hlen
 refine L.loopP (ι:=Nat) (fun i=>⟨[(88,aI (i:Int)),(87,aI ((s.cols.map Col.c).length:Int)),(2,.ptr 2 0),(3,.ptr 3 0)],[(2,⟨36,.l [aI s.kind,aS s.name,aS s.table,aS s.col,.iv (.sl (s.cols.map Col.c)),.iv (.sl (s.rows.map exRow)),.iv (.sl (s.sets.map Ast.c)),.iv (.sl (s.frm.map Str.c)),.iv (.sl (s.out.map Ex.c)),aI s.wh.op,aI s.wh.v.k,aI s.wh.v.n,aS s.wh.v.s,aS s.wh.s,aS s.wh.name,aI s.wh.n,.iv (.sl (s.wh.l.map Ex.c)),.iv (.sl (s.ord.map Ex.c)),aB s.down,aI s.n]⟩),(3,⟨36,.l [aI s.kind,aS s.name,aS s.table,aS s.col,.iv (.sl (s.cols.map Col.c)),.iv (.sl (s.rows.map exRow)),.iv (.sl (s.sets.map Ast.c)),.iv (.sl (s.frm.map Str.c)),.iv (.sl (s.out.map Ex.c)),aI s.wh.op,aI s.wh.v.k,aI s.wh.v.n,aS s.wh.v.s,aS s.wh.s,aS s.wh.name,aI s.wh.n,.iv (.sl (s.wh.l.map Ex.c)),.iv (.sl (s.ord.map Ex.c)),aB s.down,aI s.n]⟩)],[]⟩) (fun i=>s.cols.length - i) (fun i=>True) (i0:=0) ?_ trivial ?_
 · exact wkk
 intro i _ K hK
 cases hx:s.cols[i]? with
 |some x=>
  have hlt:=ltT (l:=(s.cols.map Col.c)) (getF (f:=Col.c) hx)
  have hlt':=ltN hx
  have g1:(s.cols.map Col.c)[((i:Nat):Int).toNat]?=some [S x.n,I x.t,.im (.bool x.m)]:=by rw[Int.toNat_natCast,List.getElem?_map,hx];rfl
  have eq1:eqVs [.iv (S x.n),.iv (I x.t),.iv (.im (.bool x.m))] [.iv (S x.n),.iv (I x.t),.iv (.im (.bool x.m))] =some true:=by simp[eqVs,eqV]
  (repeat' (first|(refine LW.is ?_;first|(apply s_vr;exact rfl;apply v_neqAgg;exact rfl;exact rfl;exact rfl;exact eq1))|(refine DR.is ?_;first|(apply d_vr;exact rfl;apply v_neqAgg;exact rfl;exact rfl;exact rfl;exact eq1))|refine wk1 ?_|refine wk2 (fun hb hp=> ?_) (fun hb hp=> ?_)|fail))
  refine hK _ (i+1) trivial (by omega) ?_
  exact wkk
 |none=>
 have hlt:=ltF (l:=(s.cols.map Col.c)) (getFN hx)
 clear hK hlen
 (repeat' (first|refine wk1 ?_|refine wk2 (fun hb hp=> ?_) (fun hb hp=> ?_)|fail))
 refine L.lenS 104 (es:=(s.rows.map exRow)) rfl (fun hlen=> ?_)
 rw[List.length_map] at hlen
 refine L.loopP (ι:=Nat) (fun i=>⟨[(106,aI (i:Int)),(105,aI ((s.rows.map exRow).length:Int)),(2,.ptr 2 0),(3,.ptr 3 0)],[(2,⟨36,.l [aI s.kind,aS s.name,aS s.table,aS s.col,.iv (.sl (s.cols.map Col.c)),.iv (.sl (s.rows.map exRow)),.iv (.sl (s.sets.map Ast.c)),.iv (.sl (s.frm.map Str.c)),.iv (.sl (s.out.map Ex.c)),aI s.wh.op,aI s.wh.v.k,aI s.wh.v.n,aS s.wh.v.s,aS s.wh.s,aS s.wh.name,aI s.wh.n,.iv (.sl (s.wh.l.map Ex.c)),.iv (.sl (s.ord.map Ex.c)),aB s.down,aI s.n]⟩),(3,⟨36,.l [aI s.kind,aS s.name,aS s.table,aS s.col,.iv (.sl (s.cols.map Col.c)),.iv (.sl (s.rows.map exRow)),.iv (.sl (s.sets.map Ast.c)),.iv (.sl (s.frm.map Str.c)),.iv (.sl (s.out.map Ex.c)),aI s.wh.op,aI s.wh.v.k,aI s.wh.v.n,aS s.wh.v.s,aS s.wh.s,aS s.wh.name,aI s.wh.n,.iv (.sl (s.wh.l.map Ex.c)),.iv (.sl (s.ord.map Ex.c)),aB s.down,aI s.n]⟩)],[]⟩) (fun i=>s.rows.length - i) (fun i=>True) (i0:=0) ?_ trivial ?_
 · exact wkk
 intro i _ K hK
 cases hx:s.rows[i]? with
 |some x=>
  have hlt:=ltT (l:=(s.rows.map exRow)) (getF (f:=exRow) hx)
  have hlt':=ltN hx
  have g1:(s.rows.map exRow)[((i:Nat):Int).toNat]?=some [.sl (x.map Ex.c)]:=by rw[Int.toNat_natCast,List.getElem?_map,hx];rfl
  have ke:=exprs_same (gs:=gs) x (fun x _=>expr_same x)
  (repeat' (first|refine wk1 ?_|refine wk2 (fun hb hp=> ?_) (fun hb hp=> ?_)|fail))
  refine hK _ (i+1) trivial (by omega) ?_
  exact wkk
 |none=>
 have hlt:=ltF (l:=(s.rows.map exRow)) (getFN hx)
 clear hK hlen
 (repeat' (first|refine wk1 ?_|refine wk2 (fun hb hp=> ?_) (fun hb hp=> ?_)|fail))
 refine L.lenS 123 (es:=(s.sets.map Ast.c)) rfl (fun hlen=> ?_)
 rw[List.length_map] at hlen
 refine L.loopP (ι:=Nat) (fun i=>⟨[(125,aI (i:Int)),(124,aI ((s.sets.map Ast.c).length:Int)),(2,.ptr 2 0),(3,.ptr 3 0)],[(2,⟨36,.l [aI s.kind,aS s.name,aS s.table,aS s.col,.iv (.sl (s.cols.map Col.c)),.iv (.sl (s.rows.map exRow)),.iv (.sl (s.sets.map Ast.c)),.iv (.sl (s.frm.map Str.c)),.iv (.sl (s.out.map Ex.c)),aI s.wh.op,aI s.wh.v.k,aI s.wh.v.n,aS s.wh.v.s,aS s.wh.s,aS s.wh.name,aI s.wh.n,.iv (.sl (s.wh.l.map Ex.c)),.iv (.sl (s.ord.map Ex.c)),aB s.down,aI s.n]⟩),(3,⟨36,.l [aI s.kind,aS s.name,aS s.table,aS s.col,.iv (.sl (s.cols.map Col.c)),.iv (.sl (s.rows.map exRow)),.iv (.sl (s.sets.map Ast.c)),.iv (.sl (s.frm.map Str.c)),.iv (.sl (s.out.map Ex.c)),aI s.wh.op,aI s.wh.v.k,aI s.wh.v.n,aS s.wh.v.s,aS s.wh.s,aS s.wh.name,aI s.wh.n,.iv (.sl (s.wh.l.map Ex.c)),.iv (.sl (s.ord.map Ex.c)),aB s.down,aI s.n]⟩)],[]⟩) (fun i=>s.sets.length - i) (fun i=>True) (i0:=0) ?_ trivial ?_
 · exact wkk
 intro i _ K hK
 cases hx:s.sets[i]? with
 |some x=>
  have hlt:=ltT (l:=(s.sets.map Ast.c)) (getF (f:=Ast.c) hx)
  have hlt':=ltN hx
  have g1:(s.sets.map Ast.c)[((i:Nat):Int).toNat]?=some [S x.co,I x.e.op,I x.e.v.k,I x.e.v.n,S x.e.v.s,S x.e.s,S x.e.name,I x.e.n,.sl (x.e.l.map Ex.c)]:=by rw[Int.toNat_natCast,List.getElem?_map,hx];rfl
  have ke:CallG gs Tryz.prog 38 [.agg (x.e.cs.map .iv),.agg (x.e.cs.map .iv)] [] [] [] (aB true):=by
   have:=expr_same (gs:=gs) x.e
   rw[Ex.c_cs] at this;exact this
  have y1:(!(x.co==x.co))=false:=by simp
  (repeat' (first|refine wk1 ?_|refine wk2 (fun hb hp=> ?_) (fun hb hp=> ?_)|fail))
  refine hK _ (i+1) trivial (by omega) ?_
  exact wkk
 |none=>
 have hlt:=ltF (l:=(s.sets.map Ast.c)) (getFN hx)
 clear hK hlen
 (repeat' (first|refine wk1 ?_|refine wk2 (fun hb hp=> ?_) (fun hb hp=> ?_)|fail))
 refine L.lenS 159 (es:=(s.frm.map Str.c)) rfl (fun hlen=> ?_)
 rw[List.length_map] at hlen
 refine L.loopP (ι:=Nat) (fun i=>⟨[(161,aI (i:Int)),(160,aI ((s.frm.map Str.c).length:Int)),(2,.ptr 2 0),(3,.ptr 3 0)],[(2,⟨36,.l [aI s.kind,aS s.name,aS s.table,aS s.col,.iv (.sl (s.cols.map Col.c)),.iv (.sl (s.rows.map exRow)),.iv (.sl (s.sets.map Ast.c)),.iv (.sl (s.frm.map Str.c)),.iv (.sl (s.out.map Ex.c)),aI s.wh.op,aI s.wh.v.k,aI s.wh.v.n,aS s.wh.v.s,aS s.wh.s,aS s.wh.name,aI s.wh.n,.iv (.sl (s.wh.l.map Ex.c)),.iv (.sl (s.ord.map Ex.c)),aB s.down,aI s.n]⟩),(3,⟨36,.l [aI s.kind,aS s.name,aS s.table,aS s.col,.iv (.sl (s.cols.map Col.c)),.iv (.sl (s.rows.map exRow)),.iv (.sl (s.sets.map Ast.c)),.iv (.sl (s.frm.map Str.c)),.iv (.sl (s.out.map Ex.c)),aI s.wh.op,aI s.wh.v.k,aI s.wh.v.n,aS s.wh.v.s,aS s.wh.s,aS s.wh.name,aI s.wh.n,.iv (.sl (s.wh.l.map Ex.c)),.iv (.sl (s.ord.map Ex.c)),aB s.down,aI s.n]⟩)],[]⟩) (fun i=>s.frm.length - i) (fun i=>True) (i0:=0) ?_ trivial ?_
 · exact wkk
 intro i _ K hK
 cases hx:s.frm[i]? with
 |some x=>
  have hlt:=ltT (l:=(s.frm.map Str.c)) (getF (f:=Str.c) hx)
  have hlt':=ltN hx
  have g1:(s.frm.map Str.c)[((i:Nat):Int).toNat]?=some [S x]:=by rw[Int.toNat_natCast,List.getElem?_map,hx];rfl
  have y1:(!(x==x))=false:=by simp
  (repeat' (first|refine wk1 ?_|refine wk2 (fun hb hp=> ?_) (fun hb hp=> ?_)|fail))
  refine hK _ (i+1) trivial (by omega) ?_
  exact wkk
 |none=>
 have hlt:=ltF (l:=(s.frm.map Str.c)) (getFN hx)
 clear hK hlen
 (repeat' (first|refine wk1 ?_|refine wk2 (fun hb hp=> ?_) (fun hb hp=> ?_)|fail))
 all_goals refine wkf ?_
 all_goals rfl
end Go.Proofs.YthcjohcakdnmmaaGreatDoor
namespace Go.Proofs.YthcjohcakdnmmaaGreatDoor
open Go.Abs
set_option maxRecDepth 100000
attribute [local irreducible] L Code.wp bodyPost Exit.then Exit.inBlock
set_option linter.unusedVariables false
set_option linter.unusedSimpArgs false
noncomputable def isB (p:Prop):Bool:= @decide p (Classical.propDecidable p)
theorem isB_t{p:Prop}(h:p):isB p=true:=by unfold isB;exact @decide_eq_true p (Classical.propDecidable p) h
theorem isB_f{p:Prop}(h: ¬p):isB p=false:=by unfold isB;exact @decide_eq_false p (Classical.propDecidable p) h
theorem take_eq{α:Type}{l m:List α}{i:Nat}{x y:α}(h:l.take i=m.take i)(hx:l[i]?=some x)(hy:m[i]?=some y)(e:x=y):l.take (i+1)=m.take (i+1):=by
 rw[List.take_add_one,List.take_add_one,h,hx,hy,e]
set_option maxRecDepth 100000 in
set_option maxHeartbeats 8000000 in
theorem sameCat_any(c d:Cat)(h1:c.ts.length≤140737488355328)(h2:c.is.length≤140737488355328)(h3: ∀t∈c.ts,t.cols.length≤140737488355328):
 CallA Tryz.prog 11 [.agg (c.c.map .iv),.agg (d.c.map .iv)] [] [] [] (aB (isB (c=d))):=by
 obtain⟨ts,is⟩:=c
 obtain⟨us,ks⟩:=d
 dsimp only at h1 h2 h3
 refine CallA.intro _ Tryz.func11 rfl Tryz.ntmps11 rfl (fun w0 E0=> ?_)
 cases e1:(((ts.map Tab.c).length:Int) !=((us.map Tab.c).length:Int)) with
 |true=>
  rw[isB_f (fun h=>by cases h;simp at e1)]
  (repeat' (first|refine wk1 ?_|refine wk2 (fun hb hp=> ?_) (fun hb hp=> ?_)|fail))
  all_goals refine wkf ?_
  all_goals rfl
 |false=>
 cases e2:(((is.map Idx.c).length:Int) !=((ks.map Idx.c).length:Int)) with
 |true=>
  rw[isB_f (fun h=>by cases h;simp at e2)]
  (repeat' (first|refine wk1 ?_|refine wk2 (fun hb hp=> ?_) (fun hb hp=> ?_)|fail))
  all_goals refine wkf ?_
  all_goals rfl
 |false=>
 have l1:ts.length=us.length:=by simp at e1;omega
 have l2:is.length=ks.length:=by simp at e2;omega
 (repeat' (first|refine wk1 ?_|refine wk2 (fun hb hp=> ?_) (fun hb hp=> ?_)|fail))
 refine L.loopP (ι:=Nat) (fun i=>⟨[(28,aI (i:Int)),(27,aI ((ts.map Tab.c).length:Int)),(26,.iv (.sl (ts.map Tab.c))),(2,.ptr 2 0),(3,.ptr 3 0)],[(2,⟨25,.l [.iv (.sl (ts.map Tab.c)),.iv (.sl (is.map Idx.c))]⟩),(3,⟨25,.l [.iv (.sl (us.map Tab.c)),.iv (.sl (ks.map Idx.c))]⟩)],[]⟩) (fun i=>ts.length - i) (fun i=>ts.take i=us.take i) (i0:=0) ?_ rfl ?_
 · exact wkk
 intro i hI K hK
 cases hx:ts[i]? with
 |none=>
  have hlt:=ltF (l:=ts.map Tab.c) (getFN hx)
  rw[take_all hx,List.take_of_length_le (by have:=List.getElem?_eq_none_iff.1 hx;omega)] at hI
  subst hI
  (repeat' (first|refine wk1 ?_|refine wk2 (fun hb hp=> ?_) (fun hb hp=> ?_)|fail))
  refine L.loopP (ι:=Nat) (fun i=>⟨[(81,aI (i:Int)),(80,aI ((is.map Idx.c).length:Int)),(79,.iv (.sl (is.map Idx.c))),(2,.ptr 2 0),(3,.ptr 3 0)],[(2,⟨25,.l [.iv (.sl (ts.map Tab.c)),.iv (.sl (is.map Idx.c))]⟩),(3,⟨25,.l [.iv (.sl (ts.map Tab.c)),.iv (.sl (ks.map Idx.c))]⟩)],[]⟩) (fun i=>is.length - i) (fun i=>is.take i=ks.take i) (i0:=0) ?_ rfl ?_
  · exact wkk
  clear hx hlt hK
  intro i hI K hK
  cases hx:is[i]? with
  |none=>
   have hlt:=ltF (l:=is.map Idx.c) (getFN hx)
   rw[take_all hx,List.take_of_length_le (by have:=List.getElem?_eq_none_iff.1 hx;omega)] at hI
   rw[isB_t (by rw[hI])]
   (repeat' (first|refine wk1 ?_|refine wk2 (fun hb hp=> ?_) (fun hb hp=> ?_)|fail))
   all_goals refine wkf ?_
   all_goals rfl
  |some x=>
   have hlt:=ltT (l:=is.map Idx.c) (getF (f:=Idx.c) hx)
   have hlt':=ltN hx
   obtain⟨y,hy⟩: ∃y,ks[i]?=some y:=⟨_,List.getElem?_eq_getElem (by omega)⟩
   have g1:(is.map Idx.c)[((i:Nat):Int).toNat]?=some [S x.n,S x.tb,S x.co]:=by rw[Int.toNat_natCast,List.getElem?_map,hx];rfl
   have g2:(ks.map Idx.c)[((i:Nat):Int).toNat]?=some [S y.n,S y.tb,S y.co]:=by rw[Int.toNat_natCast,List.getElem?_map,hy];rfl
   have eq1:eqVs [.iv (S x.n),.iv (S x.tb),.iv (S x.co)] [.iv (S y.n),.iv (S y.tb),.iv (S y.co)] =some (x.n==y.n && (x.tb==y.tb && (x.co==y.co && true))):=rfl
   cases hq:(x.n==y.n && (x.tb==y.tb && (x.co==y.co && true))) with
   |true=>
    rw[hq] at eq1
    (repeat' (first|(refine LW.is ?_;first|(apply s_vr;exact rfl;apply v_neqAgg;exact rfl;exact rfl;exact rfl;exact eq1))|(refine DR.is ?_;first|(apply d_vr;exact rfl;apply v_neqAgg;exact rfl;exact rfl;exact rfl;exact eq1))|refine wk1 ?_|refine wk2 (fun hb hp=> ?_) (fun hb hp=> ?_)|fail))
    refine hK _ (i+1) (take_eq hI hx hy ?_) (by omega) ?_
    · obtain⟨a,b,e⟩:=x
      obtain⟨a',b',e'⟩:=y
      simp only[Bool.and_true,Bool.and_eq_true,beq_iff_eq] at hq
      rw[hq.1,hq.2.1,hq.2.2]
    · exact wkk
   |false=>
    rw[hq] at eq1
    rw[isB_f (fun h=>by
     cases h
     rw[hx] at hy;cases hy
     simp at hq)]
    (repeat' (first|(refine LW.is ?_;first|(apply s_vr;exact rfl;apply v_neqAgg;exact rfl;exact rfl;exact rfl;exact eq1))|(refine DR.is ?_;first|(apply d_vr;exact rfl;apply v_neqAgg;exact rfl;exact rfl;exact rfl;exact eq1))|refine wk1 ?_|refine wk2 (fun hb hp=> ?_) (fun hb hp=> ?_)|fail))
    all_goals refine wkf ?_
    all_goals rfl
 |some x=>
  have hlt:=ltT (l:=ts.map Tab.c) (getF (f:=Tab.c) hx)
  have hlt':=ltN hx
  obtain⟨y,hy⟩: ∃y,us[i]?=some y:=⟨_,List.getElem?_eq_getElem (by omega)⟩
  have hxl:=h3 x (List.mem_of_getElem? hx)
  have hne:x≠y→isB ((⟨ts,is⟩:Cat)=⟨us,ks⟩)=false:=fun hn=>isB_f (fun h=>by
   cases h
   rw[hx] at hy;cases hy
   exact hn rfl)
  obtain⟨xn,xc⟩:=x
  obtain⟨yn,yc⟩:=y
  have g1:(ts.map Tab.c)[((i:Nat):Int).toNat]?=some [S xn,.sl (xc.map Col.c)]:=by rw[Int.toNat_natCast,List.getElem?_map,hx];rfl
  have g2:(us.map Tab.c)[((i:Nat):Int).toNat]?=some [S yn,.sl (yc.map Col.c)]:=by rw[Int.toNat_natCast,List.getElem?_map,hy];rfl
  cases q1: !(xn==yn) with
  |true=>
   rw[hne (fun e=>by cases e;simp at q1)]
   (repeat' (first|refine wk1 ?_|refine wk2 (fun hb hp=> ?_) (fun hb hp=> ?_)|fail))
   all_goals refine wkf ?_
   all_goals rfl
  |false=>
  cases q2:(((xc.map Col.c).length:Int) !=((yc.map Col.c).length:Int)) with
  |true=>
   rw[hne (fun e=>by cases e;simp at q2)]
   (repeat' (first|refine wk1 ?_|refine wk2 (fun hb hp=> ?_) (fun hb hp=> ?_)|fail))
   all_goals refine wkf ?_
   all_goals rfl
  |false=>
  have l3:xc.length=yc.length:=by simp at q2;omega
  have en:xn=yn:=by simpa using q1
  dsimp only at hxl
  (repeat' (first|refine wk1 ?_|refine wk2 (fun hb hp=> ?_) (fun hb hp=> ?_)|fail))
  refine L.loopP (ι:=Nat) (fun j=>⟨[(58,aI (j:Int)),(57,aI ((xc.map Col.c).length:Int)),(56,.iv (.sl (xc.map Col.c))),(5,aI (i:Int)),(6,.ptr 6 0),(28,aI (i:Int)),(27,aI ((ts.map Tab.c).length:Int)),(26,.iv (.sl (ts.map Tab.c))),(2,.ptr 2 0),(3,.ptr 3 0)],[(2,⟨25,.l [.iv (.sl (ts.map Tab.c)),.iv (.sl (is.map Idx.c))]⟩),(3,⟨25,.l [.iv (.sl (us.map Tab.c)),.iv (.sl (ks.map Idx.c))]⟩),(6,⟨47,.l [aS xn,.iv (.sl (xc.map Col.c))]⟩)],[]⟩) (fun j=>xc.length - j) (fun j=>xc.take j=yc.take j) (i0:=0) ?_ rfl ?_
  · exact wkk
  intro j hJ K2 hK2
  cases hz:xc[j]? with
  |none=>
   have hlt2:=ltF (l:=xc.map Col.c) (getFN hz)
   rw[take_all hz,List.take_of_length_le (by have:=List.getElem?_eq_none_iff.1 hz;omega)] at hJ
   (repeat' (first|refine wk1 ?_|refine wk2 (fun hb hp=> ?_) (fun hb hp=> ?_)|fail))
   refine hK _ (i+1) (take_eq hI hx hy (by rw[en,hJ])) (by omega) ?_
   exact wkk
  |some z=>
   have hlt2:=ltT (l:=xc.map Col.c) (getF (f:=Col.c) hz)
   have hlt2':=ltN hz
   obtain⟨v,hv⟩: ∃v,yc[j]?=some v:=⟨_,List.getElem?_eq_getElem (by omega)⟩
   have g3:(xc.map Col.c)[((j:Nat):Int).toNat]?=some [S z.n,I z.t,.im (.bool z.m)]:=by rw[Int.toNat_natCast,List.getElem?_map,hz];rfl
   have g4:(yc.map Col.c)[((j:Nat):Int).toNat]?=some [S v.n,I v.t,.im (.bool v.m)]:=by rw[Int.toNat_natCast,List.getElem?_map,hv];rfl
   have eq1:eqVs [.iv (S z.n),.iv (I z.t),.iv (.im (.bool z.m))] [.iv (S v.n),.iv (I v.t),.iv (.im (.bool v.m))] =some (z.n==v.n && (z.t==v.t && (z.m==v.m && true))):=rfl
   cases hq:(z.n==v.n && (z.t==v.t && (z.m==v.m && true))) with
   |true=>
    rw[hq] at eq1
    (repeat' (first|(refine LW.is ?_;first|(apply s_vr;exact rfl;apply v_neqAgg;exact rfl;exact rfl;exact rfl;exact eq1))|(refine DR.is ?_;first|(apply d_vr;exact rfl;apply v_neqAgg;exact rfl;exact rfl;exact rfl;exact eq1))|refine wk1 ?_|refine wk2 (fun hb hp=> ?_) (fun hb hp=> ?_)|fail))
    refine hK2 _ (j+1) (take_eq hJ hz hv ?_) (by omega) ?_
    · obtain⟨a,b,e⟩:=z
      obtain⟨a',b',e'⟩:=v
      simp only[Bool.and_true,Bool.and_eq_true,beq_iff_eq] at hq
      rw[hq.1,hq.2.1,hq.2.2]
    · exact wkk
   |false=>
    rw[hq] at eq1
    rw[hne (fun e=>by
     cases e
     rw[hz] at hv;cases hv
     simp at hq)]
    (repeat' (first|(refine LW.is ?_;first|(apply s_vr;exact rfl;apply v_neqAgg;exact rfl;exact rfl;exact rfl;exact eq1))|(refine DR.is ?_;first|(apply d_vr;exact rfl;apply v_neqAgg;exact rfl;exact rfl;exact rfl;exact eq1))|refine wk1 ?_|refine wk2 (fun hb hp=> ?_) (fun hb hp=> ?_)|fail))
    all_goals refine wkf ?_
    all_goals rfl
end Go.Proofs.YthcjohcakdnmmaaGreatDoor
