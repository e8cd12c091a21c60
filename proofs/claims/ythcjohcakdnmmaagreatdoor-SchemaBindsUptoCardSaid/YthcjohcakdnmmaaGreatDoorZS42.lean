/- Several texts in one, each with its own sentence ahead of it. Conditions: each one says its own. -/
import Derived.Test.YthcjohcakdnmmaaGreatDoorZS41
set_option linter.all false
namespace Go.Proofs.YthcjohcakdnmmaaGreatDoor
open Go.Abs
set_option maxRecDepth 100000
attribute [local irreducible] L LF Code.wp bodyPost Exit.then Exit.inBlock
set_option linter.unusedVariables false
set_option linter.unusedSimpArgs false
theorem colM_lt{t:Tab}{name:Str}(h: ¬colM t name<0):(colM t name).toNat<t.cols.length:=by
 cases hj:t.cols.findIdx? (fun c=>c.n==name) with
 |none=>rw[colM_none hj] at h;omega
 |some j=>rw[colM_some hj,Int.toNat_natCast];exact(List.findIdx?_eq_some_iff_getElem.1 hj).1
theorem setsE_at{s:Stm}{t:Tab}{j:Nat}{x:Ast}(hI: ∀p∈s.sets.zipIdx.take j,(setM t s.sets p).2=0)(hx:s.sets[j]?=some x)(h:(setM t s.sets (x,j)).2≠0):setsE s t=(setM t s.sets (x,j)).2:=errT_at (g:=fun p=>(setM t s.sets p).2) hI (zip_at hx) h
structure AtJ (s:Stm) (t:Tab) (j:Nat) (x:Ast) (A:List Ast):Prop where
 n:A.length=s.sets.length
 g:A[j]?=some x
 any:(A.take j).any (fun y=>y.co==x.co)=(s.sets.take j).any (fun y=>y.co==x.co)
 nx: ∀e:Ex,(setM t s.sets (x,j)).1=⟨x.co,e⟩→A.set j ⟨x.co,e⟩=((s.sets.zipIdx.take (j+1)).map (fun p=>(setM t s.sets p).1)++s.sets.drop (j+1))
theorem atJ{s:Stm}{t:Tab}{j:Nat}{x:Ast}(hx:s.sets[j]?=some x):AtJ s t j x ((s.sets.zipIdx.take j).map (fun p=>(setM t s.sets p).1)++s.sets.drop j):=by
 have hil:j<s.sets.length:=(List.getElem?_eq_some_iff.1 hx).1
 have hti:((s.sets.zipIdx.take j).map (fun p=>(setM t s.sets p).1)).length=j:=by rw[List.length_map,List.length_take,List.length_zipIdx];omega
 have hdr:s.sets.drop j=x::s.sets.drop (j+1):=by rw[←(List.getElem?_eq_some_iff.1 hx).2];exact List.drop_eq_getElem_cons hil
 refine⟨by rw[List.length_append,hti,List.length_drop];omega,by rw[List.getElem?_append_right (by omega),hti,Nat.sub_self,hdr];rfl,?_,fun e he=> ?_⟩
 · rw[List.take_append_of_le_length (by omega),List.take_of_length_le (by omega),List.any_map]
   have e1:s.sets.take j=(s.sets.zipIdx.take j).map Prod.fst:=by
    refine List.ext_getElem? (fun i=> ?_)
    rw[List.getElem?_map,List.getElem?_take,List.getElem?_take]
    split
    · rw[List.getElem?_zipIdx];cases s.sets[i]?<;>rfl
    · rfl
   rw[e1,List.any_map]
   congr 1
   funext p
   exact congrArg (· ==x.co) (setM_co t s.sets p)
 · rw[List.set_append_right _ _ (by omega),hti,Nat.sub_self,hdr,List.set_cons_zero,takeC (zip_at hx),←he]
   simp only[List.map_append,List.append_assoc,List.map_cons,List.map_nil,List.cons_append,List.nil_append]
set_option maxHeartbeats 32000000 in
theorem setsL{gs:Globs}(c:Cat)(s:Stm)(t:Tab)(hu:Uniq t)(hco:ColsOk (dcCols [t]))(hcl:(dcCols [t]).length≤1000000)(htl:t.cols.length≤4)(hb: ∀x∈s.sets,x.e.BS)(hsl:s.sets.length*120≤140737488355328){w0:World}{E0:Env}(hG:Glob gs E0 w0){Q2:Exit→Act→World→Prop}
 (hE:setsE s t≠0→ ∀st',Wk ⟨512,w0,E0,[]⟩ st' (noSt c (setsE s t))→L ⟨512,w0,E0,[]⟩ st' (Q2 .ret))
 (hK0:setsE s t=0→ ∀st',Wk ⟨512,w0,E0,[]⟩ st' ⟨[(2,.ptr 2 0),(3,.ptr 3 0),(4,.ptr 4 0),(6,.fn 31 []),(17,.iv (.sl ((dcCols [t]).map colnC)))],[(2,⟨25,.l (c.c.map .iv)⟩),(3,⟨36,.l (stmA s (.iv (.sl (s.rows.map exRow))) (.bsh 804 0 s.sets.length 9) (.iv (.sl (s.out.map Ex.c))) (.iv (.sl (s.ord.map Ex.c))))⟩),(4,⟨36,.l stm0A⟩),(15,⟨47,.l [aS t.n,.iv (.sl (t.cols.map Col.c))]⟩),(804,⟨56,.r ((s.sets.zipIdx.map (fun p=>(setM t s.sets p).1)).map Ast.c).flatten 0⟩)],[]⟩→L ⟨512,w0,E0,[]⟩ st' (Q2 .normal)):
 L ⟨512,w0,E0,[]⟩ ⟨[(196,aI 0),(195,aI (s.sets.length:Int)),(194,.bsh 804 0 s.sets.length 9),(2,.ptr 2 0),(3,.ptr 3 0),(4,.ptr 4 0),(6,.fn 31 []),(15,.ptr 15 0),(17,.iv (.sl ((dcCols [t]).map colnC)))],[(2,⟨25,.l (c.c.map .iv)⟩),(3,⟨36,.l (stmA s (.iv (.sl (s.rows.map exRow))) (.bsh 804 0 s.sets.length 9) (.iv (.sl (s.out.map Ex.c))) (.iv (.sl (s.ord.map Ex.c))))⟩),(4,⟨36,.l stm0A⟩),(15,⟨47,.l [aS t.n,.iv (.sl (t.cols.map Col.c))]⟩),(804,⟨56,.r (s.sets.map Ast.c).flatten 0⟩)],[]⟩ ((Code.loop (nav [1,1,1,1,1,1,1,1,1,1,1,1,0,1,0,1,1,1,1,1,1,1,1,1,1,1,0,0] ((Tryz.f7.body).getD .skip))).wp Tryz.prog (Exit.inBlock 11 Q2)):=by
 have kn: ∀e:Int,CallG gs Tryz.prog 31 ([aI e] ++ []) [] [] [] (.tup [.agg (nilSt.cs.map .iv),.iv (I e)]):=fun e=>no_any e
 refine L.loopP (ι:=Nat) (fun j=>⟨[(196,aI (j:Int)),(195,aI (s.sets.length:Int)),(194,.bsh 804 0 s.sets.length 9),(2,.ptr 2 0),(3,.ptr 3 0),(4,.ptr 4 0),(6,.fn 31 []),(15,.ptr 15 0),(17,.iv (.sl ((dcCols [t]).map colnC)))],[(2,⟨25,.l (c.c.map .iv)⟩),(3,⟨36,.l (stmA s (.iv (.sl (s.rows.map exRow))) (.bsh 804 0 s.sets.length 9) (.iv (.sl (s.out.map Ex.c))) (.iv (.sl (s.ord.map Ex.c))))⟩),(4,⟨36,.l stm0A⟩),(15,⟨47,.l [aS t.n,.iv (.sl (t.cols.map Col.c))]⟩),(804,⟨56,.r (((s.sets.zipIdx.take j).map (fun p=>(setM t s.sets p).1)++s.sets.drop j).map Ast.c).flatten 0⟩)],[]⟩) (fun j=>s.sets.length - j) (fun j=> ∀p∈s.sets.zipIdx.take j,(setM t s.sets p).2=0) (i0:=0) ?_ (by simp) ?_
 · (refine Wk.mk' (by intro id h;cases h) ?_ ?_ ?_<;>repeat' (first|exact WkF.nil|exact WkB.nil|exact WkT.nil|exact Subs.nil|(refine WkF.cons rfl (Sub.refl _) ?_)|(refine WkF.cons rfl (Sub.of_eq rfl) ?_)|(refine WkF.cons rfl (Sub.row _ _) ?_)|(refine WkF.cons rfl (Sub.of_eq (rfl)) ?_)|(refine WkB.cons rfl rfl (Subs.refl _) ?_)|(refine WkB.cons rfl rfl (subs20 rfl) ?_)|(refine WkB.cons rfl rfl (Subs.of_eq rfl) ?_)|(refine WkT.cons rfl ?_)))
 intro j hJ K2 hK
 cases hx:s.sets[j]? with
 |none=>
  have hlt:decide ((j:Int)<(s.sets.length:Int))=false:=decide_eq_false (by have:=List.getElem?_eq_none_iff.1 hx;omega)
  have e2:=List.drop_eq_nil_of_le (List.getElem?_eq_none_iff.1 hx)
  rw[take_all (zip_none hx)] at hJ⊢
  rw[e2,List.append_nil]
  have hK3:=hK0 (errT_no hJ)
  clear hK hJ hE hK0 e2
  (repeat' (first|refine wk1 ?_|refine wk2 (fun hb hp=> ?_) (fun hb hp=> ?_)|fail))
  refine hK3 _ ?_
  (refine Wk.mk' (by intro id h;cases h) ?_ ?_ ?_<;>repeat' (first|exact WkF.nil|exact WkB.nil|exact WkT.nil|exact Subs.nil|(refine WkF.cons rfl (Sub.refl _) ?_)|(refine WkF.cons rfl (Sub.of_eq rfl) ?_)|(refine WkF.cons rfl (Sub.row _ _) ?_)|(refine WkF.cons rfl (Sub.of_eq (rfl)) ?_)|(refine WkB.cons rfl rfl (Subs.refl _) ?_)|(refine WkB.cons rfl rfl (subs20 rfl) ?_)|(refine WkB.cons rfl rfl (Subs.of_eq rfl) ?_)|(refine WkT.cons rfl ?_)))
 |some x=>
  clear hK0
  have hil:j<s.sets.length:=(List.getElem?_eq_some_iff.1 hx).1
  have hlt:decide ((j:Int)<(s.sets.length:Int))=true:=decide_eq_true (by omega)
  have hlt':(j:Int)<(s.sets.length:Int):=by omega
  have hle':(j:Int)≤((s.sets.length:Nat):Int):=by omega
  have hix:(j:Int)+1≤9223372036854775807:=by omega
  have hxb:=hb x (List.mem_of_getElem? hx)
  have kf:=colOf_any t x.co (by omega)
  have hset:setM t s.sets (x,j)=if colM t x.co<0 then(x,3) else if(s.sets.take j).any (fun y=>y.co==x.co) then(x,4) else(⟨x.co,(mustM [t] x.e (colTy t (colM t x.co))).1⟩,(mustM [t] x.e (colTy t (colM t x.co))).2):=rfl
  have hEx:=fun h=>setsE_at (t:=t) hJ hx h
  have hJ':=takeT_snoc (g:=fun p=>(setM t s.sets p).2) hJ (zip_at hx)
  obtain⟨hAn,gA,hany,hnx⟩:=atJ (t:=t) hx
  rw[←hany] at hset
  clear hany hJ
  have ge:(((s.sets.zipIdx.take j).map (fun p=>(setM t s.sets p).1)++s.sets.drop j).map Ast.c)[j]?=some [S x.co,I x.e.op,I x.e.v.k,I x.e.v.n,S x.e.v.s,S x.e.s,S x.e.name,I x.e.n,.sl (x.e.l.map Ex.c)]:=by rw[List.getElem?_map,gA];exact congrArg some (asc9 x)
  generalize ((s.sets.zipIdx.take j).map (fun p=>(setM t s.sets p).1)++s.sets.drop j)=A at*
  have k9: ∀e∈A.map Ast.c,e.length=9:=map_len astl _
  have ho1:(0+((j:Int)).toNat)*9=j*9:=by simp
  have hp0:(0:Int)≤(j:Int):=by omega
  by_cases hc0:colM t x.co<0
  · have q:decide (colM t x.co<0)=true:=decide_eq_true hc0
    rw[if_pos hc0] at hset
    have hee:=hEx (by rw[hset];exact(by decide:(3:Int)≠0))
    rw[hee,hset] at hE
    have hE2:=hE (show(3:Int)≠0 by decide)
    clear hE hK hEx hJ' hee hset hnx hb hxb hc0
    generalize colM t x.co=cm at*
    (repeat' (first|(apply s_callFnW [] (f:=31) (avs:= [aI 3]) (caps:= []) (bxi:= []);exact rfl;exact hG;exact rfl;exact kn 3;exact Subs.of_eq rfl;exact .nil;exact rfl;exact rfl;exact rfl;exact rfl)|(refine LW.is ?_;first|(apply s_vr;exact rfl;apply v_indexBsh;exact rfl;exact rfl;exact hp0;exact hlt';exact ho1)|(apply s_vr;exact rfl;apply v_loadAR (es:=A.map Ast.c) (k:=9) (i:=j);exact rfl;exact rfl;exact k9;exact rfl;exact ge;exact rfl))|(refine DR.is ?_;first|(apply d_vr;exact rfl;apply v_indexBsh;exact rfl;exact rfl;exact hp0;exact hlt';exact ho1)|(apply d_vr;exact rfl;apply v_loadAR (es:=A.map Ast.c) (k:=9) (i:=j);exact rfl;exact rfl;exact k9;exact rfl;exact ge;exact rfl))|refine wk1 ?_|refine wk2 (fun hb hp=> ?_) (fun hb hp=> ?_)|fail))
    refine hE2 _ ?_
    (refine Wk.mk' (by intro id h;cases h) ?_ ?_ ?_<;>repeat' (first|exact WkF.nil|exact WkB.nil|exact WkT.nil|exact Subs.nil|(refine WkF.cons rfl (Sub.refl _) ?_)|(refine WkF.cons rfl (Sub.of_eq rfl) ?_)|(refine WkF.cons rfl (Sub.row _ _) ?_)|(refine WkF.cons rfl (Sub.of_eq (rfl)) ?_)|(refine WkB.cons rfl rfl (Subs.refl _) ?_)|(refine WkB.cons rfl rfl (subs20 rfl) ?_)|(refine WkB.cons rfl rfl (Subs.of_eq rfl) ?_)|(refine WkT.cons rfl ?_)))
  rw[if_neg hc0] at hset
  have q:decide (colM t x.co<0)=false:=decide_eq_false hc0
  have hcm:=colM_lt hc0
  have hc1:(0:Int)≤colM t x.co:=by omega
  have g3:(t.cols.map Col.c)[(colM t x.co).toNat]?=some [S (t.cols.getD (colM t x.co).toNat ⟨[],0,false⟩).n,I (t.cols.getD (colM t x.co).toNat ⟨[],0,false⟩).t,.im (.bool (t.cols.getD (colM t x.co).toNat ⟨[],0,false⟩).m)]:=by rw[List.getElem?_map,getD_some ⟨[],0,false⟩ hcm];rfl
  have kt:=typed_any (gs:=gs) (dcCols [t]) hcl hco x.e hxb (colTy t (colM t x.co))
  obtain⟨h1,h2⟩:=typed_same (ts:= [t]) (fun t' ht=>by rw[List.mem_singleton.1 ht];exact hu) x.e hxb.ref (colTy t (colM t x.co))
  rw[colTy] at kt h1 h2 hset
  clear hcm hc0 hb hxb
  generalize t.cols.getD (colM t x.co).toNat ⟨[],0,false⟩=cc at*
  generalize colM t x.co=cm at*
  (repeat' (first|(refine LW.is ?_;first|(apply s_vr;exact rfl;apply v_indexBsh;exact rfl;exact rfl;exact hp0;exact hlt';exact ho1)|(apply s_vr;exact rfl;apply v_loadAR (es:=A.map Ast.c) (k:=9) (i:=j);exact rfl;exact rfl;exact k9;exact rfl;exact ge;exact rfl)|(apply s_vr;exact rfl;apply v_slBshH;exact rfl;exact rfl;exact hp0;exact hle';exact Int.toNat_natCast j))|(refine DR.is ?_;first|(apply d_vr;exact rfl;apply v_indexBsh;exact rfl;exact rfl;exact hp0;exact hlt';exact ho1)|(apply d_vr;exact rfl;apply v_loadAR (es:=A.map Ast.c) (k:=9) (i:=j);exact rfl;exact rfl;exact k9;exact rfl;exact ge;exact rfl)|(apply d_vr;exact rfl;apply v_slBshH;exact rfl;exact rfl;exact hp0;exact hle';exact Int.toNat_natCast j))|refine wk1 ?_|refine wk2 (fun hb hp=> ?_) (fun hb hp=> ?_)|fail))
  refine L.wk ?_ (dupL c s t ((dcCols [t]).map colnC) A s.sets.length hAn x j hil hsl cm hG (fun hd st' hw'=> ?_) (fun hd st' hw'=> ?_))
  · (refine Wk.mk' (by intro id h;cases h) ?_ ?_ ?_<;>repeat' (first|exact WkF.nil|exact WkB.nil|exact WkT.nil|exact Subs.nil|(refine WkF.cons rfl (Sub.refl _) ?_)|(refine WkF.cons rfl (Sub.of_eq rfl) ?_)|(refine WkF.cons rfl (Sub.row _ _) ?_)|(refine WkF.cons rfl (Sub.of_eq (rfl)) ?_)|(refine WkB.cons rfl rfl (Subs.refl _) ?_)|(refine WkB.cons rfl rfl (subs20 rfl) ?_)|(refine WkB.cons rfl rfl (Subs.of_eq rfl) ?_)|(refine WkT.cons rfl ?_)))
  · rw[hd,if_pos rfl] at hset
    have hee:=hEx (by rw[hset];exact(by decide:(4:Int)≠0))
    rw[hee,hset] at hE
    have hE2:=hE (show(4:Int)≠0 by decide)
    refine L.wk hw' ?_
    repeat (first|refine L.inR ?_|refine L.thenR ?_)
    refine hE2 _ ?_
    unfold noSt
    (refine Wk.mk' (by intro id h;cases h) ?_ ?_ ?_<;>repeat' (first|exact WkF.nil|exact WkB.nil|exact WkT.nil|exact Subs.nil|(refine WkF.cons rfl (Sub.refl _) ?_)|(refine WkF.cons rfl (Sub.of_eq rfl) ?_)|(refine WkF.cons rfl (Sub.row _ _) ?_)|(refine WkF.cons rfl (Sub.of_eq (rfl)) ?_)|(refine WkB.cons rfl rfl (Subs.refl _) ?_)|(refine WkB.cons rfl rfl (subs20 rfl) ?_)|(refine WkB.cons rfl rfl (Subs.of_eq rfl) ?_)|(refine WkT.cons rfl ?_)))
  refine L.wk hw' ?_
  rw[hd,if_neg (by decide)] at hset
  clear hd hw' kf
  have hxc:x.e.cs= [I x.e.op,I x.e.v.k,I x.e.v.n,S x.e.v.s,S x.e.s,S x.e.name,I x.e.n,.sl (x.e.l.map Ex.c)]:=by cases x.e;rfl
  rw[hxc] at kt
  by_cases hf:(mustM [t] x.e cc.t).2=0
  · rw[h2 hf] at kt
    have hJ2:=hJ' (by rw[hset];exact hf)
    have hn:=hnx _ (by rw[hset])
    rw[hf] at kt
    clear hE hEx hJ' hset hnx h1 h2 hf
    generalize (mustM [t] x.e cc.t).1=e at*
    have hec:e.cs= [I e.op,I e.v.k,I e.v.n,S e.v.s,S e.s,S e.name,I e.n,.sl (e.l.map Ex.c)]:=by cases e;rfl
    have hac:(⟨x.co,e⟩:Ast).c= [S x.co,I e.op,I e.v.k,I e.v.n,S e.v.s,S e.s,S e.name,I e.n,.sl (e.l.map Ex.c)]:=by unfold Ast.c;cases e;rfl
    have hst:(A.map Ast.c).set j ([S x.co,I x.e.op,I x.e.v.k,I x.e.v.n,S x.e.v.s,S x.e.s,S x.e.name,I x.e.n,.sl (x.e.l.map Ex.c)].take 1++([I e.op,I e.v.k,I e.v.n,S e.v.s,S e.s,S e.name,I e.n,.sl (e.l.map Ex.c)] ++ [S x.co,I x.e.op,I x.e.v.k,I x.e.v.n,S x.e.v.s,S x.e.s,S x.e.name,I x.e.n,.sl (x.e.l.map Ex.c)].drop (1+8)))=((A.set j ⟨x.co,e⟩).map Ast.c):=by rw[List.map_set,hac];rfl
    rw[hec] at kt
    rw[hn] at hst
    (repeat' (first|(apply s_storeRF (es:=A.map Ast.c) (k:=9) (i:=j) (f:=1) (e0:= [S x.co,I x.e.op,I x.e.v.k,I x.e.v.n,S x.e.v.s,S x.e.s,S x.e.name,I x.e.n,.sl (x.e.l.map Ex.c)]) (e:= [I e.op,I e.v.k,I e.v.n,S e.v.s,S e.s,S e.name,I e.n,.sl (e.l.map Ex.c)]) (er:=((s.sets.zipIdx.take (j+1)).map (fun p=>(setM t s.sets p).1)++s.sets.drop (j+1)).map Ast.c);exact rfl;exact rfl;exact rfl;exact rfl;exact rfl;exact rfl;exact k9;exact rfl;exact ge;exact(by decide);exact hst)|(refine LW.is ?_;first|(apply s_vr;exact rfl;apply v_indexBsh;exact rfl;exact rfl;exact hp0;exact hlt';exact ho1)|(apply s_vr;exact rfl;apply v_indexA;exact rfl;exact rfl;exact hc1;exact g3;exact rfl))|(refine DR.is ?_;first|(apply d_vr;exact rfl;apply v_indexBsh;exact rfl;exact rfl;exact hp0;exact hlt';exact ho1)|(apply d_vr;exact rfl;apply v_indexA;exact rfl;exact rfl;exact hc1;exact g3;exact rfl))|refine wk1 ?_|refine wk2 (fun hb hp=> ?_) (fun hb hp=> ?_)|fail))
    refine hK _ (j+1) hJ2 (by omega) ?_
    (refine Wk.mk' (by intro id h;cases h) ?_ ?_ ?_<;>repeat' (first|exact WkF.nil|exact WkB.nil|exact WkT.nil|exact Subs.nil|(refine WkF.cons rfl (Sub.refl _) ?_)|(refine WkF.cons rfl (Sub.of_eq rfl) ?_)|(refine WkF.cons rfl (Sub.row _ _) ?_)|(refine WkF.cons rfl (Sub.of_eq (rfl)) ?_)|(refine WkB.cons rfl rfl (Subs.refl _) ?_)|(refine WkB.cons rfl rfl (subs20 rfl) ?_)|(refine WkB.cons rfl rfl (Subs.of_eq rfl) ?_)|(refine WkT.cons rfl ?_)))
  · have hee:=hEx (by rw[hset];exact hf)
    rw[hee,hset] at hE
    have hE2:=hE hf
    dsimp only at hE2
    rw[←h1] at hf hE2
    clear hE hK hEx hJ' hset hnx h1 h2 hee
    generalize dcTyped (dcCols [t]) x.e cc.t=r at*
    obtain⟨e,f⟩:=r
    dsimp only at hf kt hE2
    have qf:(f !=0)=true:=by simpa using hf
    have hec:e.cs= [I e.op,I e.v.k,I e.v.n,S e.v.s,S e.s,S e.name,I e.n,.sl (e.l.map Ex.c)]:=by cases e;rfl
    rw[hec] at kt
    (repeat' (first|(apply s_callFnW [] (f:=31) (avs:= [aI f]) (caps:= []) (bxi:= []);exact rfl;exact hG;exact rfl;exact kn f;exact Subs.of_eq rfl;exact .nil;exact rfl;exact rfl;exact rfl;exact rfl)|(refine LW.is ?_;first|(apply s_vr;exact rfl;apply v_indexA;exact rfl;exact rfl;exact hc1;exact g3;exact rfl))|(refine DR.is ?_;first|(apply d_vr;exact rfl;apply v_indexA;exact rfl;exact rfl;exact hc1;exact g3;exact rfl))|refine wk1 ?_|refine wk2 (fun hb hp=> ?_) (fun hb hp=> ?_)|fail))
    refine hE2 _ ?_
    (refine Wk.mk' (by intro id h;cases h) ?_ ?_ ?_<;>repeat' (first|exact WkF.nil|exact WkB.nil|exact WkT.nil|exact Subs.nil|(refine WkF.cons rfl (Sub.refl _) ?_)|(refine WkF.cons rfl (Sub.of_eq rfl) ?_)|(refine WkF.cons rfl (Sub.row _ _) ?_)|(refine WkF.cons rfl (Sub.of_eq (rfl)) ?_)|(refine WkB.cons rfl rfl (Subs.refl _) ?_)|(refine WkB.cons rfl rfl (subs20 rfl) ?_)|(refine WkB.cons rfl rfl (Subs.of_eq rfl) ?_)|(refine WkT.cons rfl ?_)))
end Go.Proofs.YthcjohcakdnmmaaGreatDoor
namespace Go.Proofs.YthcjohcakdnmmaaGreatDoor
open Go.Abs
set_option maxRecDepth 100000
attribute [local irreducible] L LF Code.wp bodyPost Exit.then Exit.inBlock
set_option linter.unusedVariables false
set_option linter.unusedSimpArgs false
theorem rowsE_at{s:Stm}{t:Tab}{i:Nat}{x:List Ex}(hI: ∀r∈s.rows.take i,(rowM t r).2=0)(hx:s.rows[i]?=some x)(h:(rowM t x).2≠0):rowsE s t=(rowM t x).2:=errT_at (g:=fun r=>(rowM t r).2) hI hx h
set_option maxHeartbeats 32000000 in
theorem rowsL{gs:Globs}(c:Cat)(s:Stm)(t:Tab)(vs:List IV)(cols:List (List IV))(vS:IV)(F:List Rw)(hvl:vs.length=s.rows.length)
 (hlies: ∀(i:Nat) (x:List Ex) (v:IV),s.rows[i]?=some x→vs[i]?=some v→(x= [] ∧v= .sl [])∨ ∃(r:Rw) (F1 F2:List Rw),F=F1++r::F2∧v= .im r.u∧r.t=34∧r.n=x.length∧r.k=8∧r.xs=(x.map Ex.c).flatten∧x≠ [])
 (hr: ∀r∈s.rows,∀x∈r,x.BS) (htl:t.cols.length≤4) (ht1:1≤t.cols.length) (hrl:s.rows.length*24≤140737488355328) {w0:World} {E0:Env} (hG0:Glob gs E0 w0) {K:Act→World→Prop} {Q2:Exit→Act→World→Prop}
 (hE:rowsE s t≠0→ ∀st',Wk ⟨512,w0,E0,[]⟩ st' (noSt c (rowsE s t))→L ⟨512,w0,E0,[]⟩ st' (Q2 .ret))
 (hK0:rowsE s t=0→ ∀st',Wk ⟨512,w0,E0,[]⟩ st' ⟨[(2,.ptr 2 0),(3,.ptr 3 0),(4,.ptr 4 0),(6,.fn 31 []),(15,.ptr 15 0),(17,.iv (.sl cols))],[(2,⟨25,.l (c.c.map .iv)⟩),(3,⟨36,.l (stmA s (.iv (.sl (vs.map oneC))) (.iv vS) (.iv (.sl (s.out.map Ex.c))) (.iv (.sl (s.ord.map Ex.c))))⟩),(4,⟨36,.l stm0A⟩),(15,⟨47,.l [aS t.n,.iv (.sl (t.cols.map Col.c))]⟩)],[]⟩→LF ⟨512,w0,E0,[]⟩ F st' K):
 LF ⟨512,w0,E0,[]⟩ F ⟨[(148,aI 0),(147,aI ((vs.map oneC).length:Int)),(146,.iv (.sl (vs.map oneC))),(2,.ptr 2 0),(3,.ptr 3 0),(4,.ptr 4 0),(6,.fn 31 []),(15,.ptr 15 0),(17,.iv (.sl cols))],[(2,⟨25,.l (c.c.map .iv)⟩),(3,⟨36,.l (stmA s (.iv (.sl (vs.map oneC))) (.iv vS) (.iv (.sl (s.out.map Ex.c))) (.iv (.sl (s.ord.map Ex.c))))⟩),(4,⟨36,.l stm0A⟩),(15,⟨47,.l [aS t.n,.iv (.sl (t.cols.map Col.c))]⟩)],[]⟩ ((Code.loop (nav [1,1,1,1,1,1,1,1,1,1,1,1,0,1,0,1,1,1,1,1,1,1,1,1,0,1,0,0] ((Tryz.f7.body).getD .skip))).wp Tryz.prog (Exit.inBlock 7 (Exit.then K Q2))):=by
 have kn: ∀e:Int,CallG gs Tryz.prog 31 ([aI e] ++ []) [] [] [] (.tup [.agg (nilSt.cs.map .iv),.iv (I e)]):=fun e=>no_any e
 have hvm:(vs.map oneC).length=s.rows.length:=by rw[List.length_map,hvl]
 refine LF.loop (ι:=Nat) (fun i=>⟨[(148,aI (i:Int)),(147,aI ((vs.map oneC).length:Int)),(146,.iv (.sl (vs.map oneC))),(2,.ptr 2 0),(3,.ptr 3 0),(4,.ptr 4 0),(6,.fn 31 []),(15,.ptr 15 0),(17,.iv (.sl cols))],[(2,⟨25,.l (c.c.map .iv)⟩),(3,⟨36,.l (stmA s (.iv (.sl (vs.map oneC))) (.iv vS) (.iv (.sl (s.out.map Ex.c))) (.iv (.sl (s.ord.map Ex.c))))⟩),(4,⟨36,.l stm0A⟩),(15,⟨47,.l [aS t.n,.iv (.sl (t.cols.map Col.c))]⟩)],[]⟩) (fun _=>F) (fun i=>s.rows.length - i) (fun i=> ∀r∈s.rows.take i,(rowM t r).2=0) (i0:=0) ?_ rfl (by simp) ?_
 · (refine Wk.mk' (by intro id h;cases h) ?_ ?_ ?_<;>repeat' (first|exact WkF.nil|exact WkB.nil|exact WkT.nil|exact Subs.nil|(refine WkF.cons rfl (Sub.refl _) ?_)|(refine WkF.cons rfl (Sub.of_eq rfl) ?_)|(refine WkF.cons rfl nilI_out ?_)|(refine WkF.cons rfl (Sub.row _ _) ?_)|(refine WkB.cons rfl rfl (Subs.refl _) ?_)|(refine WkB.cons rfl rfl (subs20 rfl) ?_)|(refine WkB.cons rfl rfl (Subs.of_eq rfl) ?_)|(refine WkB.cons rfl rfl ?_ ?_)|(refine Subs.cons (Sub.refl _) ?_)|(refine Subs.cons (Sub.of_eq rfl) ?_)|(refine Subs.cons nilI_out ?_)|(refine Subs.cons (nilI_out.trans (Sub.nils)) ?_)|(refine Subs.cons Sub.nils ?_)|(refine WkT.cons rfl ?_)))
 intro i hI K2 hK
 try dsimp only at hK⊢
 cases hx:s.rows[i]? with
 |none=>
  have hlt:decide ((i:Int)<((vs.map oneC).length:Int))=false:=decide_eq_false (by have:=List.getElem?_eq_none_iff.1 hx;omega)
  rw[List.take_of_length_le (List.getElem?_eq_none_iff.1 hx)] at hI
  have hK3:=hK0 (errT_no hI)
  clear hK hI hE hK0 hlies
  refine LF.rebaseG hG0 rfl rfl (fun c1 hins1 hk1 hF1 ho1 hG=> ?_)
  obtain⟨nt1,w1,E1,ins1⟩:=c1
  obtain rfl:=hk1.nt
  obtain rfl:=hins1
  (repeat' (first|refine wk1 ?_|refine wk2 (fun hb hp=> ?_) (fun hb hp=> ?_)|fail))
  refine LF.back hk1 hF1 ho1 ?_
  refine hK3 _ ?_
  (refine Wk.mk' (by intro id h;cases h) ?_ ?_ ?_<;>repeat' (first|exact WkF.nil|exact WkB.nil|exact WkT.nil|exact Subs.nil|(refine WkF.cons rfl (Sub.refl _) ?_)|(refine WkF.cons rfl (Sub.of_eq rfl) ?_)|(refine WkF.cons rfl nilI_out ?_)|(refine WkF.cons rfl (Sub.row _ _) ?_)|(refine WkB.cons rfl rfl (Subs.refl _) ?_)|(refine WkB.cons rfl rfl (subs20 rfl) ?_)|(refine WkB.cons rfl rfl (Subs.of_eq rfl) ?_)|(refine WkB.cons rfl rfl ?_ ?_)|(refine Subs.cons (Sub.refl _) ?_)|(refine Subs.cons (Sub.of_eq rfl) ?_)|(refine Subs.cons nilI_out ?_)|(refine Subs.cons (nilI_out.trans (Sub.nils)) ?_)|(refine Subs.cons Sub.nils ?_)|(refine WkT.cons rfl ?_)))
 |some x=>
  clear hK0
  have hil:i<s.rows.length:=(List.getElem?_eq_some_iff.1 hx).1
  obtain⟨v,hv⟩: ∃v,vs[i]?=some v:=⟨_,List.getElem?_eq_getElem (by omega)⟩
  have hlt:decide ((i:Int)<((vs.map oneC).length:Int))=true:=decide_eq_true (by omega)
  have hlt':(i:Int)<((vs.map oneC).length:Int):=by omega
  have hix:(i:Int)+1≤9223372036854775807:=by omega
  have g1:(vs.map oneC)[((i:Nat):Int).toNat]?=some [v]:=by rw[Int.toNat_natCast,List.getElem?_map,hv];rfl
  have hxb:=hr x (List.mem_of_getElem? hx)
  have hl:=hlies i x v hx hv
  have hEx:=fun h=>rowsE_at (t:=t) hI hx h
  clear hlies hr
  have lc:((t.cols.map Col.c).length:Int)=(t.cols.length:Int):=by simp
  by_cases hlen:x.length=t.cols.length
  case neg=>
   have h5:(rowM t x).2=5:=by unfold rowM;rw[if_pos hlen]
   have hee:=hEx (by rw[h5];decide)
   rw[hee,h5] at hE
   have hE2:=hE (by decide)
   clear hE hK hEx hI h5 hee
   rcases hl with⟨rfl,rfl⟩|⟨⟨t0,b,n,cap,k,xs⟩,F1,F2,hFe,rfl,h1,h2,h3,h4,hne⟩
   · have q:(((([]:List (List IV)).length:Nat):Int) !=((t.cols.map Col.c).length:Int))=true:=by
      rw[lc]
      simp only[List.length_nil] at hlen⊢
      simp;omega
     refine LF.rebaseG hG0 rfl rfl (fun c1 hins1 hk1 hF1 ho1 hG=> ?_)
     obtain⟨nt1,w1,E1,ins1⟩:=c1
     obtain rfl:=hk1.nt
     obtain rfl:=hins1
     (repeat' (first|(apply s_callFnW [] (f:=31) (avs:= [aI 5]) (caps:= []) (bxi:= []);exact rfl;exact hG;exact rfl;exact kn 5;exact Subs.of_eq rfl;exact .nil;exact rfl;exact rfl;exact rfl;exact rfl)|(refine LW.is ?_;first|(apply s_vr;exact rfl;apply v_lenIm;exact rfl))|(refine DR.is ?_;first|(apply d_vr;exact rfl;apply v_lenIm;exact rfl))|refine wk1 ?_|refine wk2 (fun hb hp=> ?_) (fun hb hp=> ?_)|fail))
     refine LF.back hk1 hF1 ho1 ?_
     refine LF.drop ?_
     refine hE2 _ ?_
     (refine Wk.mk' (by intro id h;cases h) ?_ ?_ ?_<;>repeat' (first|exact WkF.nil|exact WkB.nil|exact WkT.nil|exact Subs.nil|(refine WkF.cons rfl (Sub.refl _) ?_)|(refine WkF.cons rfl (Sub.of_eq rfl) ?_)|(refine WkF.cons rfl nilI_out ?_)|(refine WkF.cons rfl (Sub.row _ _) ?_)|(refine WkB.cons rfl rfl (Subs.refl _) ?_)|(refine WkB.cons rfl rfl (subs20 rfl) ?_)|(refine WkB.cons rfl rfl (Subs.of_eq rfl) ?_)|(refine WkB.cons rfl rfl ?_ ?_)|(refine Subs.cons (Sub.refl _) ?_)|(refine Subs.cons (Sub.of_eq rfl) ?_)|(refine Subs.cons nilI_out ?_)|(refine Subs.cons (nilI_out.trans (Sub.nils)) ?_)|(refine Subs.cons Sub.nils ?_)|(refine WkT.cons rfl ?_)))
   · dsimp only at h1 h2 h3 h4
     subst h1 h2 h3 h4
     have q:(((x.length:Nat):Int) !=((t.cols.map Col.c).length:Int))=true:=by
      rw[lc]
      simp;omega
     refine LF.rebaseG hG0 rfl rfl (fun c1 hins1 hk1 hF1 ho1 hG=> ?_)
     obtain⟨nt1,w1,E1,ins1⟩:=c1
     obtain rfl:=hk1.nt
     obtain rfl:=hins1
     (repeat' (first|(apply s_callFnW [] (f:=31) (avs:= [aI 5]) (caps:= []) (bxi:= []);exact rfl;exact hG;exact rfl;exact kn 5;exact Subs.of_eq rfl;exact .nil;exact rfl;exact rfl;exact rfl;exact rfl)|(refine LW.is ?_;first|(apply s_vr;exact rfl;apply v_lenIm;exact rfl))|(refine DR.is ?_;first|(apply d_vr;exact rfl;apply v_lenIm;exact rfl))|refine wk1 ?_|refine wk2 (fun hb hp=> ?_) (fun hb hp=> ?_)|fail))
     refine LF.back hk1 hF1 ho1 ?_
     refine LF.drop ?_
     refine hE2 _ ?_
     (refine Wk.mk' (by intro id h;cases h) ?_ ?_ ?_<;>repeat' (first|exact WkF.nil|exact WkB.nil|exact WkT.nil|exact Subs.nil|(refine WkF.cons rfl (Sub.refl _) ?_)|(refine WkF.cons rfl (Sub.of_eq rfl) ?_)|(refine WkF.cons rfl nilI_out ?_)|(refine WkF.cons rfl (Sub.row _ _) ?_)|(refine WkB.cons rfl rfl (Subs.refl _) ?_)|(refine WkB.cons rfl rfl (subs20 rfl) ?_)|(refine WkB.cons rfl rfl (Subs.of_eq rfl) ?_)|(refine WkB.cons rfl rfl ?_ ?_)|(refine Subs.cons (Sub.refl _) ?_)|(refine Subs.cons (Sub.of_eq rfl) ?_)|(refine Subs.cons nilI_out ?_)|(refine Subs.cons (nilI_out.trans (Sub.nils)) ?_)|(refine Subs.cons Sub.nils ?_)|(refine WkT.cons rfl ?_)))
  have hxp:0<x.length:=by omega
  rcases hl with⟨rfl,_⟩|⟨⟨t0,b,n,cap,k,xs⟩,F1,F2,hFe,rfl,h1,h2,h3,h4,hne⟩
  · exact absurd hxp (by decide)
  dsimp only at h1 h2 h3 h4
  subst h1 h2 h3 h4
  have q:(((x.length:Nat):Int) !=((t.cols.map Col.c).length:Int))=false:=by
   rw[lc]
   simp;omega
  refine LF.rebaseG hG0 rfl rfl (fun c1 hins1 hk1 hF1 ho1 hG=> ?_)
  obtain⟨nt1,w1,E1,ins1⟩:=c1
  obtain rfl:=hk1.nt
  obtain rfl:=hins1
  (repeat' (first|(refine LW.is ?_;first|(apply s_vr;exact rfl;apply v_lenIm;exact rfl))|(refine DR.is ?_;first|(apply d_vr;exact rfl;apply v_lenIm;exact rfl))|refine wk1 ?_|refine wk2 (fun hb hp=> ?_) (fun hb hp=> ?_)|fail))
  refine LF.back hk1 hF1 ho1 ?_
  refine LF.wk (st':=⟨[(164,aI 0),(163,aI (x.length:Int)),(162,.iv (.im (Rw.u ⟨34,b,x.length,cap,8,(x.map Ex.c).flatten⟩))),(42,.iv (.im (Rw.u ⟨34,b,x.length,cap,8,(x.map Ex.c).flatten⟩))),(148,aI (i:Int)),(147,aI ((vs.map oneC).length:Int)),(146,.iv (.sl (vs.map oneC))),(2,.ptr 2 0),(3,.ptr 3 0),(4,.ptr 4 0),(6,.fn 31 []),(15,.ptr 15 0),(17,.iv (.sl cols))],[(2,⟨25,.l (c.c.map .iv)⟩),(3,⟨36,.l (stmA s (.iv (.sl (vs.map oneC))) (.iv vS) (.iv (.sl (s.out.map Ex.c))) (.iv (.sl (s.ord.map Ex.c))))⟩),(4,⟨36,.l stm0A⟩),(15,⟨47,.l [aS t.n,.iv (.sl (t.cols.map Col.c))]⟩)],[]⟩) ?_ ?_
  · (refine Wk.mk' (by intro id h;cases h) ?_ ?_ ?_<;>repeat' (first|exact WkF.nil|exact WkB.nil|exact WkT.nil|exact Subs.nil|(refine WkF.cons rfl (Sub.refl _) ?_)|(refine WkF.cons rfl (Sub.of_eq rfl) ?_)|(refine WkF.cons rfl nilI_out ?_)|(refine WkF.cons rfl (Sub.row _ _) ?_)|(refine WkB.cons rfl rfl (Subs.refl _) ?_)|(refine WkB.cons rfl rfl (subs20 rfl) ?_)|(refine WkB.cons rfl rfl (Subs.of_eq rfl) ?_)|(refine WkB.cons rfl rfl ?_ ?_)|(refine Subs.cons (Sub.refl _) ?_)|(refine Subs.cons (Sub.of_eq rfl) ?_)|(refine Subs.cons nilI_out ?_)|(refine Subs.cons (nilI_out.trans (Sub.nils)) ?_)|(refine Subs.cons Sub.nils ?_)|(refine WkT.cons rfl ?_)))
  refine LF.openX hG0 [162,42] 803 hFe (by intro s' hs';simp only[List.mem_cons,List.not_mem_nil,or_false] at hs';rcases hs' with rfl|rfl<;>rfl) rfl (Nat.succ_pos 7) hxp rfl rfl (fun c2 hins2 hk2 hF2 ho2 ht2 hor2 hG=> ?_)
  obtain⟨nt2,w2,E2,ins2⟩:=c2
  obtain rfl:=hk2.nt
  obtain rfl:=hins2
  clear hF1 hk1 ho1
  refine L.wk ?_ (rowL c s t (vs.map oneC) cols vS (i:Int) ((vs.map oneC).length:Int) x hxb hlen htl hG (fun he st' hw'=> ?_) (fun he st' hw'=> ?_))
  · (refine Wk.mk' (keysA rfl) ?_ ?_ ?_<;>repeat' (first|exact WkF.nil|exact WkB.nil|exact WkT.nil|exact Subs.nil|(refine WkF.cons rfl (Sub.refl _) ?_)|(refine WkF.cons rfl (Sub.of_eq rfl) ?_)|(refine WkF.cons rfl nilI_out ?_)|(refine WkF.cons rfl (Sub.row _ _) ?_)|(refine WkB.cons rfl rfl (Subs.refl _) ?_)|(refine WkB.cons rfl rfl (subs20 rfl) ?_)|(refine WkB.cons rfl rfl (Subs.of_eq rfl) ?_)|(refine WkB.cons rfl rfl ?_ ?_)|(refine Subs.cons (Sub.refl _) ?_)|(refine Subs.cons (Sub.of_eq rfl) ?_)|(refine Subs.cons nilI_out ?_)|(refine Subs.cons (nilI_out.trans (Sub.nils)) ?_)|(refine Subs.cons Sub.nils ?_)|(refine WkT.cons rfl ?_)))
  · have hee:=hEx he
    rw[hee] at hE
    have hE2:=hE he
    clear hE hK hEx hI hee
    refine L.wk hw' ?_
    repeat (first|refine L.inR ?_|refine L.thenR ?_)
    unfold noSY
    refine LF.backX 803 hk2 hF2 ho2 ht2 hor2 rfl (Nat.succ_pos 7) hxp ?_
    refine LF.drop ?_
    refine hE2 _ ?_
    (refine Wk.mk' (by intro id h;cases h) ?_ ?_ ?_<;>repeat' (first|exact WkF.nil|exact WkB.nil|exact WkT.nil|exact Subs.nil|(refine WkF.cons rfl (Sub.refl _) ?_)|(refine WkF.cons rfl (Sub.of_eq rfl) ?_)|(refine WkF.cons rfl nilI_out ?_)|(refine WkF.cons rfl (Sub.row _ _) ?_)|(refine WkB.cons rfl rfl (Subs.refl _) ?_)|(refine WkB.cons rfl rfl (subs20 rfl) ?_)|(refine WkB.cons rfl rfl (Subs.of_eq rfl) ?_)|(refine WkB.cons rfl rfl ?_ ?_)|(refine Subs.cons (Sub.refl _) ?_)|(refine Subs.cons (Sub.of_eq rfl) ?_)|(refine Subs.cons nilI_out ?_)|(refine Subs.cons (nilI_out.trans (Sub.nils)) ?_)|(refine Subs.cons Sub.nils ?_)|(refine WkT.cons rfl ?_)))
  · have hI':=takeT_snoc (g:=fun r=>(rowM t r).2) hI hx he
    clear hE hEx hI
    refine L.wk hw' ?_
    refine L.inN (L.thenN ?_)
    (repeat' (first|refine wk1 ?_|refine wk2 (fun hb hp=> ?_) (fun hb hp=> ?_)|fail))
    refine LF.backX 803 hk2 hF2 ho2 ht2 hor2 rfl (Nat.succ_pos 7) hxp ?_
    rw[←hFe]
    refine hK _ (i+1) hI' (by omega) ?_
    (refine Wk.mk' (by intro id h;cases h) ?_ ?_ ?_<;>repeat' (first|exact WkF.nil|exact WkB.nil|exact WkT.nil|exact Subs.nil|(refine WkF.cons rfl (Sub.refl _) ?_)|(refine WkF.cons rfl (Sub.of_eq rfl) ?_)|(refine WkF.cons rfl nilI_out ?_)|(refine WkF.cons rfl (Sub.row _ _) ?_)|(refine WkB.cons rfl rfl (Subs.refl _) ?_)|(refine WkB.cons rfl rfl (subs20 rfl) ?_)|(refine WkB.cons rfl rfl (Subs.of_eq rfl) ?_)|(refine WkB.cons rfl rfl ?_ ?_)|(refine Subs.cons (Sub.refl _) ?_)|(refine Subs.cons (Sub.of_eq rfl) ?_)|(refine Subs.cons nilI_out ?_)|(refine Subs.cons (nilI_out.trans (Sub.nils)) ?_)|(refine Subs.cons Sub.nils ?_)|(refine WkT.cons rfl ?_)))
end Go.Proofs.YthcjohcakdnmmaaGreatDoor
