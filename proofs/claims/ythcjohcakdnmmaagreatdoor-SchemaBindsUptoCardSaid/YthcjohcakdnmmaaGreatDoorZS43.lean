/- Several texts in one, each with its own sentence ahead of it. Conditions: each one says its own. -/
import Derived.Test.YthcjohcakdnmmaaGreatDoorZS36
set_option linter.all false
namespace Go.Proofs.YthcjohcakdnmmaaGreatDoor
open Go.Abs
set_option maxRecDepth 100000
attribute [local irreducible] L LF Code.wp bodyPost Exit.then Exit.inBlock
set_option linter.unusedVariables false
set_option linter.unusedSimpArgs false
theorem form_goodU{c:Cat}{s:Stm}(h:formM c s=true):goodCatM c=true:=by
 unfold formM at h
 cases hg:goodCatM c with
 |true=>rfl
 |false=>rw[hg] at h;simp at h
set_option maxHeartbeats 64000000 in
theorem bindK3_any{gs:Globs}(m:Int)(hgm:maxG m∈gs)(c:Cat)(s:Stm)(hB:BdOk c s)(hf:formM c s=true)(hk:s.kind=3):CallG gs Tryz.prog 7 [.agg (c.c.map .iv),.agg (s.cs.map .iv)] [] [] [] (.tup [.agg ((bindStM c s).1.cs.map .iv),.iv (I (bindStM c s).2)]):=by
 have hB':=hB
 obtain⟨hcat,hok,hcp,hvs⟩:=hB'
 have hgc:=form_goodU hf
 have hgf:=goodCat_find hgc
 have kcp:=copyStmt_any (gs:=gs) s hcp
 have kt:=tableOf_any c s.table hcat.t
 have kcol:=columns_any (gs:=gs) [(findT c s.table).1] (by simp) (by have:=hgf.2.2 s.table;simp[dcCols];omega)
 have hbm:bindStM c s=if(preM c s).2≠0 then(nilSt,(preM c s).2) else((preM c s).1,0):=by unfold bindStM;rw[hf];rfl
 have kn: ∀e:Int,CallG gs Tryz.prog 31 ([aI e] ++ []) [] [] [] (.tup [.agg (nilSt.cs.map .iv),.iv (I e)]):=fun e=>no_any e
 refine CallG.intro (code:=((Tryz.f7.body).getD .skip)) _ Tryz.func7 rfl Tryz.ntmps7 rfl (fun w0 E0 hG=> ?_)
 refine bindA m hgm c s hB hG ?_
 rw[hf]
 clear hB
 have kt3:=tableOf_any c s.name hcat.t
 have q3:(s.kind==3)=true:=by simp[hk]
 have q1:(s.kind==1)=false:=by simp[hk]
 have q2:(s.kind==2)=false:=by simp[hk]
 cases hi:(findT c s.name).2 with
 |true=>
  rw[hi] at kt3
  rw[show bindStM c s=(s,0) by rw[hbm];unfold preM;simp[hk,hi]]
  clear hbm
  (repeat' (first|refine wk1 ?_|refine wk2 (fun hb hp=> ?_) (fun hb hp=> ?_)|fail))
  all_goals refine wkf ?_
  all_goals rfl
 |false=>
  rw[hi] at kt3
  rw[show bindStM c s=(nilSt,3) by rw[hbm];unfold preM;simp[hk,hi]]
  clear hbm
  (repeat' (first|(apply s_callFnW [] (f:=31) (avs:= [aI 3]) (caps:= []) (bxi:= []);exact rfl;exact hG;exact rfl;exact kn 3;exact Subs.of_eq rfl;exact .nil;exact rfl;exact rfl;exact rfl;exact rfl)|refine wk1 ?_|refine wk2 (fun hb hp=> ?_) (fun hb hp=> ?_)|fail))
  all_goals refine wkf ?_
  all_goals rfl
set_option maxHeartbeats 64000000 in
theorem bindK1_any{gs:Globs}(m:Int)(hgm:maxG m∈gs)(c:Cat)(s:Stm)(hB:BdOk c s)(hf:formM c s=true)(hk:s.kind=1):CallG gs Tryz.prog 7 [.agg (c.c.map .iv),.agg (s.cs.map .iv)] [] [] [] (.tup [.agg ((bindStM c s).1.cs.map .iv),.iv (I (bindStM c s).2)]):=by
 have hB':=hB
 obtain⟨hcat,hok,hcp,hvs⟩:=hB'
 have hgc:=form_goodU hf
 have hgf:=goodCat_find hgc
 have kcp:=copyStmt_any (gs:=gs) s hcp
 have kt:=tableOf_any c s.table hcat.t
 have kcol:=columns_any (gs:=gs) [(findT c s.table).1] (by simp) (by have:=hgf.2.2 s.table;simp[dcCols];omega)
 have hbm:bindStM c s=if(preM c s).2≠0 then(nilSt,(preM c s).2) else((preM c s).1,0):=by unfold bindStM;rw[hf];rfl
 have kn: ∀e:Int,CallG gs Tryz.prog 31 ([aI e] ++ []) [] [] [] (.tup [.agg (nilSt.cs.map .iv),.iv (I e)]):=fun e=>no_any e
 refine CallG.intro (code:=((Tryz.f7.body).getD .skip)) _ Tryz.func7 rfl Tryz.ntmps7 rfl (fun w0 E0 hG=> ?_)
 refine bindA m hgm c s hB hG ?_
 rw[hf]
 clear hB
 have ki:=isTable_any m hgm ⟨s.name,s.cols⟩ ⟨hok.name,hok.cols,hok.cn⟩
 have kt1:=tableOf_any c s.name hcat.t
 have q1:(s.kind==1)=true:=by simp[hk]
 have hl:c.ts.length≤3:=hgf.1
 cases hg:goodTabM ⟨s.name,s.cols⟩ with
 |false=>
  rw[hg] at ki
  rw[show bindStM c s=(nilSt,1) by rw[hbm];unfold preM;simp[hk,createE,hg]]
  clear hbm
  (repeat' (first|(apply s_callFnW [] (f:=31) (avs:= [aI 1]) (caps:= []) (bxi:= []);exact rfl;exact hG;exact rfl;exact kn 1;exact Subs.of_eq rfl;exact .nil;exact rfl;exact rfl;exact rfl;exact rfl)|refine wk1 ?_|refine wk2 (fun hb hp=> ?_) (fun hb hp=> ?_)|fail))
  all_goals refine wkf ?_
  all_goals rfl
 |true=>
 rw[hg] at ki
 cases hi:(findT c s.name).2 with
 |true=>
  rw[hi] at kt1
  rw[show bindStM c s=(nilSt,4) by rw[hbm];unfold preM;simp[hk,createE,hg,hi]]
  clear hbm
  (repeat' (first|(apply s_callFnW [] (f:=31) (avs:= [aI 4]) (caps:= []) (bxi:= []);exact rfl;exact hG;exact rfl;exact kn 4;exact Subs.of_eq rfl;exact .nil;exact rfl;exact rfl;exact rfl;exact rfl)|refine wk1 ?_|refine wk2 (fun hb hp=> ?_) (fun hb hp=> ?_)|fail))
  all_goals refine wkf ?_
  all_goals rfl
 |false=>
  rw[hi] at kt1
  by_cases h3:c.ts.length=3
  · have e3:((((c.ts.map Tab.c).length:Nat):Int)==3)=true:=by simp[h3]
    rw[show bindStM c s=(nilSt,8) by rw[hbm];unfold preM;simp[hk,createE,hg,hi,h3]]
    clear hbm
    (repeat' (first|(apply s_callFnW [] (f:=31) (avs:= [aI 8]) (caps:= []) (bxi:= []);exact rfl;exact hG;exact rfl;exact kn 8;exact Subs.of_eq rfl;exact .nil;exact rfl;exact rfl;exact rfl;exact rfl)|refine wk1 ?_|refine wk2 (fun hb hp=> ?_) (fun hb hp=> ?_)|fail))
    all_goals refine wkf ?_
    all_goals rfl
  · have e3:((((c.ts.map Tab.c).length:Nat):Int)==3)=false:=by simp;omega
    have h4: ¬3≤c.ts.length:=by omega
    rw[show bindStM c s=(s,0) by rw[hbm];unfold preM;simp[hk,createE,hg,hi,h4]]
    clear hbm
    (repeat' (first|refine wk1 ?_|refine wk2 (fun hb hp=> ?_) (fun hb hp=> ?_)|fail))
    all_goals refine wkf ?_
    all_goals rfl
set_option maxHeartbeats 64000000 in
theorem bindK2_any{gs:Globs}(m:Int)(hgm:maxG m∈gs)(c:Cat)(s:Stm)(hB:BdOk c s)(hf:formM c s=true)(hk:s.kind=2):CallG gs Tryz.prog 7 [.agg (c.c.map .iv),.agg (s.cs.map .iv)] [] [] [] (.tup [.agg ((bindStM c s).1.cs.map .iv),.iv (I (bindStM c s).2)]):=by
 have hB':=hB
 obtain⟨hcat,hok,hcp,hvs⟩:=hB'
 have hgc:=form_goodU hf
 have hgf:=goodCat_find hgc
 have kcp:=copyStmt_any (gs:=gs) s hcp
 have kt:=tableOf_any c s.table hcat.t
 have kcol:=columns_any (gs:=gs) [(findT c s.table).1] (by simp) (by have:=hgf.2.2 s.table;simp[dcCols];omega)
 have hbm:bindStM c s=if(preM c s).2≠0 then(nilSt,(preM c s).2) else((preM c s).1,0):=by unfold bindStM;rw[hf];rfl
 have kn: ∀e:Int,CallG gs Tryz.prog 31 ([aI e] ++ []) [] [] [] (.tup [.agg (nilSt.cs.map .iv),.iv (I e)]):=fun e=>no_any e
 refine CallG.intro (code:=((Tryz.f7.body).getD .skip)) _ Tryz.func7 rfl Tryz.ntmps7 rfl (fun w0 E0 hG=> ?_)
 refine bindA m hgm c s hB hG ?_
 rw[hf]
 clear hB
 have kin:=isName_any m hgm s.name hok.name
 have kco:=colOf_any (findT c s.table).1 s.col (by have:=hgf.2.2 s.table;omega)
 have q1:(s.kind==1)=false:=by simp[hk]
 have q2:(s.kind==2)=true:=by simp[hk]
 have hl:c.is.length≤4:=hgf.2.1
 cases hg:namedM s.name with
 |false=>
  rw[hg] at kin
  rw[show bindStM c s=(nilSt,1) by rw[hbm];unfold preM;simp[hk,markE,hg]]
  clear hbm
  (repeat' (first|(apply s_callFnW [] (f:=31) (avs:= [aI 1]) (caps:= []) (bxi:= []);exact rfl;exact hG;exact rfl;exact kn 1;exact Subs.of_eq rfl;exact .nil;exact rfl;exact rfl;exact rfl;exact rfl)|refine wk1 ?_|refine wk2 (fun hb hp=> ?_) (fun hb hp=> ?_)|fail))
  all_goals refine wkf ?_
  all_goals rfl
 |true=>
 rw[hg] at kin
 cases hi:(findT c s.table).2 with
 |false=>
  rw[hi] at kt
  rw[show bindStM c s=(nilSt,3) by rw[hbm];unfold preM;simp[hk,markE,hg,hi]]
  clear hbm
  (repeat' (first|(apply s_callFnW [] (f:=31) (avs:= [aI 3]) (caps:= []) (bxi:= []);exact rfl;exact hG;exact rfl;exact kn 3;exact Subs.of_eq rfl;exact .nil;exact rfl;exact rfl;exact rfl;exact rfl)|refine wk1 ?_|refine wk2 (fun hb hp=> ?_) (fun hb hp=> ?_)|fail))
  all_goals refine wkf ?_
  all_goals rfl
 |true=>
 rw[hi] at kt
 by_cases hc:colM (findT c s.table).1 s.col<0
 · have e1:decide (colM (findT c s.table).1 s.col<0)=true:=decide_eq_true hc
   rw[show bindStM c s=(nilSt,3) by rw[hbm];unfold preM;simp[hk,markE,hg,hi,hc]]
   clear hbm
   (repeat' (first|(apply s_callFnW [] (f:=31) (avs:= [aI 3]) (caps:= []) (bxi:= []);exact rfl;exact hG;exact rfl;exact kn 3;exact Subs.of_eq rfl;exact .nil;exact rfl;exact rfl;exact rfl;exact rfl)|refine wk1 ?_|refine wk2 (fun hb hp=> ?_) (fun hb hp=> ?_)|fail))
   all_goals refine wkf ?_
   all_goals rfl
 have e1:decide (colM (findT c s.table).1 s.col<0)=false:=decide_eq_false hc
 (repeat' (first|refine wk1 ?_|refine wk2 (fun hb hp=> ?_) (fun hb hp=> ?_)|fail))
 refine L.loopP (ι:=Nat) (fun i=>⟨[(317,aI (i:Int)),(316,aI ((c.is.map Idx.c).length:Int)),(315,.iv (.sl (c.is.map Idx.c))),(2,.ptr 2 0),(3,.ptr 3 0),(4,.ptr 4 0),(5,aI 0),(6,.fn 31 [])],[(2,⟨25,.l (c.c.map .iv)⟩),(3,⟨36,.l (stmA s (.iv (.sl (s.rows.map exRow))) (.iv (.sl (s.sets.map Ast.c))) (.iv (.sl (s.out.map Ex.c))) (.iv (.sl (s.ord.map Ex.c))))⟩),(4,⟨36,.l stm0A⟩)],[]⟩) (fun i=>c.is.length - i) (fun i=> ∀y∈c.is.take i,(y.n==s.name)=false) (i0:=0) ?_ (by simp) ?_
 · (refine Wk.mk' (by intro id h;cases h) ?_ ?_ ?_<;>repeat' (first|exact WkF.nil|exact WkB.nil|exact WkT.nil|exact Subs.nil|(refine WkF.cons rfl (Sub.refl _) ?_)|(refine WkF.cons rfl (Sub.of_eq rfl) ?_)|(refine WkF.cons rfl (Sub.of_eq (congrArg aB (by assumption))) ?_)|(refine WkF.cons rfl (Sub.of_eq (by simp)) ?_)|(refine WkF.cons rfl (Sub.row _ _) ?_)|(refine WkB.cons rfl rfl (Subs.refl _) ?_)|(refine WkT.cons rfl ?_)))
 clear kcp kt kcol kin kco e1
 intro i hI K hK
 cases hx:c.is[i]? with
 |some y=>
  have hlt:=ltT (l:=c.is.map Idx.c) (getF (f:=Idx.c) hx)
  have hlt':=ltN hx
  have hil:i<c.is.length:=(List.getElem?_eq_some_iff.1 hx).1
  have g1:(c.is.map Idx.c)[((i:Nat):Int).toNat]?=some [S y.n,S y.tb,S y.co]:=by rw[Int.toNat_natCast,List.getElem?_map,hx];rfl
  cases hy:y.n==s.name with
  |true=>
   have hany:c.is.any (fun x=>x.n==s.name)=true:=List.any_eq_true.2 ⟨y,List.mem_of_getElem? hx,hy⟩
   clear hK hI
   rw[show bindStM c s=(nilSt,4) by rw[hbm];unfold preM;simp[hk,markE,hg,hi,hc,hany]]
   clear hbm hany
   (repeat' (first|(apply s_callFnW [] (f:=31) (avs:= [aI 4]) (caps:= []) (bxi:= []);exact rfl;exact hG;exact rfl;exact kn 4;exact Subs.of_eq rfl;exact .nil;exact rfl;exact rfl;exact rfl;exact rfl)|refine wk1 ?_|refine wk2 (fun hb hp=> ?_) (fun hb hp=> ?_)|fail))
   all_goals refine wkf ?_
   all_goals rfl
  |false=>
   have hI': ∀z∈c.is.take (i+1),(z.n==s.name)=false:=fun z hz=>by
    rw[takeA hx] at hz
    rcases List.mem_append.1 hz with h|h
    · exact hI z h
    · rw[List.mem_singleton.1 h];exact hy
   clear hI hbm
   (repeat' (first|refine wk1 ?_|refine wk2 (fun hb hp=> ?_) (fun hb hp=> ?_)|fail))
   refine hK _ (i+1) hI' (by omega) ?_
   exact wkk
 |none=>
  have hlt:=ltF (l:=c.is.map Idx.c) (getFN hx)
  rw[List.take_of_length_le (List.getElem?_eq_none_iff.1 hx)] at hI
  have hany:c.is.any (fun x=>x.n==s.name)=false:=List.any_eq_false.2 (fun z hz=>by rw[hI z hz];decide)
  clear hK hI
  by_cases h4:c.is.length=4
  · have e4:((((c.is.map Idx.c).length:Nat):Int)==4)=true:=by simp[h4]
    rw[show bindStM c s=(nilSt,8) by rw[hbm];unfold preM;simp[hk,markE,hg,hi,hc,hany,h4]]
    clear hbm hany
    (repeat' (first|(apply s_callFnW [] (f:=31) (avs:= [aI 8]) (caps:= []) (bxi:= []);exact rfl;exact hG;exact rfl;exact kn 8;exact Subs.of_eq rfl;exact .nil;exact rfl;exact rfl;exact rfl;exact rfl)|refine wk1 ?_|refine wk2 (fun hb hp=> ?_) (fun hb hp=> ?_)|fail))
    all_goals refine wkf ?_
    all_goals rfl
  · have e4:((((c.is.map Idx.c).length:Nat):Int)==4)=false:=by simp;omega
    have h5: ¬4≤c.is.length:=by omega
    rw[show bindStM c s=(s,0) by rw[hbm];unfold preM;simp[hk,markE,hg,hi,hc,hany,h5]]
    clear hbm hany
    (repeat' (first|refine wk1 ?_|refine wk2 (fun hb hp=> ?_) (fun hb hp=> ?_)|fail))
    all_goals refine wkf ?_
    all_goals rfl
end Go.Proofs.YthcjohcakdnmmaaGreatDoor
