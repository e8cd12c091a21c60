/- Several texts in one, each with its own sentence ahead of it. Conditions: each one says its own. -/
import Derived.Test.YthcjohcakdnmmaaGreatDoorZS26
import Derived.Test.YthcjohcakdnmmaaGreatDoorZS27
import Derived.Test.YthcjohcakdnmmaaGreatDoorZS28
set_option linter.all false
namespace Go.Proofs.YthcjohcakdnmmaaGreatDoor
open Go.Abs
set_option maxRecDepth 100000
attribute [local irreducible] L Code.wp bodyPost Exit.then Exit.inBlock
set_option linter.unusedVariables false
set_option linter.unusedSimpArgs false
def colnC(x:Str×Col):List IV:=S x.1::x.2.c
theorem dcCols_app(a b:List Tab):dcCols (a++b)=dcCols a++dcCols b:=by unfold dcCols;rw[List.flatMap_append]
theorem dcCols_take{ts:List Tab}{i:Nat}{t:Tab}(h:ts[i]?=some t):dcCols (ts.take (i+1))=dcCols (ts.take i)++t.cols.map fun c=>(t.n,c):=by
 rw[takeA h,dcCols_app]
 unfold dcCols
 rw[List.flatMap_cons,List.flatMap_nil,List.append_nil]
theorem dcCols_le(ts:List Tab)(i:Nat):(dcCols (ts.take i)).length≤(dcCols ts).length:=by
 have h:=congrArg (fun x=>(dcCols x).length) (List.take_append_drop i ts)
 simp only[dcCols_app,List.length_append] at h
 omega
set_option maxHeartbeats 8000000 in
theorem columns_any{gs:Globs}(ts:List Tab)(hts:ts.length≤1000000)(hn:(dcCols ts).length≤1000000):CallG gs Tryz.prog 33 [.iv (.sl (ts.map Tab.c))] [] [] [] (.iv (.sl ((dcCols ts).map colnC))):=by
 refine CallG.intro _ Tryz.func33 rfl Tryz.ntmps33 rfl (fun w0 E0 hG=> ?_)
 (repeat' (first|refine wk1 ?_|refine wk2 (fun hb hp=> ?_) (fun hb hp=> ?_)|fail))
 refine L.adopt 3 (s:=3) (t:=73) (k:=4) rfl rfl rfl ?_
 refine L.loopP (ι:=Nat) (fun i=>⟨[(10,aI (i:Int)),(9,aI ((ts.map Tab.c).length:Int)),(8,.iv (.sl (ts.map Tab.c))),(3,.row 3 ((dcCols (ts.take i)).map colnC))],[],[(3,⟨73,4⟩)]⟩) (fun i=>ts.length - i) (fun _=>True) (i0:=0) ?_ trivial ?_
 · exact wkk
 intro i _ K hK
 cases hx:ts[i]? with
 |none=>
  have hlt:=ltF (l:=ts.map Tab.c) (getFN hx)
  rw[List.take_of_length_le (List.getElem?_eq_none_iff.1 hx)]
  clear hK
  (repeat' (first|refine wk1 ?_|refine wk2 (fun hb hp=> ?_) (fun hb hp=> ?_)|fail))
  all_goals refine wkf ?_
  all_goals rfl
 |some t=>
  have hlt:=ltT (l:=ts.map Tab.c) (getF (f:=Tab.c) hx)
  have hlt':=ltN hx
  have hst:=dcCols_take hx
  have hle:=dcCols_le ts (i+1)
  have g1:(ts.map Tab.c)[((i:Nat):Int).toNat]?=some [S t.n,.sl (t.cols.map Col.c)]:=by rw[Int.toNat_natCast,List.getElem?_map,hx];rfl
  rw[hst,List.length_append,List.length_map] at hle
  (repeat' (first|refine wk1 ?_|refine wk2 (fun hb hp=> ?_) (fun hb hp=> ?_)|fail))
  refine L.loopP (ι:=Nat) (fun j=>⟨[(17,aI (j:Int)),(16,aI ((t.cols.map Col.c).length:Int)),(15,.iv (.sl (t.cols.map Col.c))),(3,.row 3 ((dcCols (ts.take i)++(t.cols.take j).map fun c=>(t.n,c)).map colnC)),(5,.ptr 5 0),(10,aI (i:Int)),(9,aI ((ts.map Tab.c).length:Int)),(8,.iv (.sl (ts.map Tab.c)))],[(5,⟨47,.l [aS t.n,.iv (.sl (t.cols.map Col.c))]⟩)],[(3,⟨73,4⟩)]⟩) (fun j=>t.cols.length - j) (fun _=>True) (i0:=0) ?_ trivial ?_
  · (refine Wk.mk' (by intro id h;cases h) ?_ ?_ ?_<;>repeat' (first|exact WkF.nil|exact WkB.nil|exact WkT.nil|(refine WkF.cons rfl (Sub.refl _) ?_)|(refine WkF.cons rfl (Sub.of_eq (by simp)) ?_)|(refine WkB.cons rfl rfl (Subs.refl _) ?_)|(refine WkT.cons rfl ?_)))
  intro j _ K2 hK2
  cases hy:t.cols[j]? with
  |none=>
   have hlt2:=ltF (l:=t.cols.map Col.c) (getFN hy)
   rw[List.take_of_length_le (List.getElem?_eq_none_iff.1 hy),←hst]
   clear hK2
   (repeat' (first|refine wk1 ?_|refine wk2 (fun hb hp=> ?_) (fun hb hp=> ?_)|fail))
   refine hK _ (i+1) trivial (by omega) ?_
   exact wkk
  |some c=>
   have hlt2:=ltT (l:=t.cols.map Col.c) (getF (f:=Col.c) hy)
   have hlt2':=ltN hy
   have hjl:j<t.cols.length:=(List.getElem?_eq_some_iff.1 hy).1
   have g2:(t.cols.map Col.c)[((j:Nat):Int).toNat]?=some [S c.n,I c.t,.im (.bool c.m)]:=by rw[Int.toNat_natCast,List.getElem?_map,hy];rfl
   have n1:(dcCols (ts.take i)++(t.cols.take (j+1)).map fun c=>(t.n,c)).map colnC=(dcCols (ts.take i)++(t.cols.take j).map fun c=>(t.n,c)).map colnC++ [[S t.n,S c.n,I c.t,.im (.bool c.m)]]:=by
    rw[takeA hy];simp only[List.map_append,List.append_assoc,List.map_cons,List.map_nil];rfl
   have l1:((dcCols (ts.take i)++(t.cols.take j).map fun c=>(t.n,c)).map colnC).length≤1000000:=by
    rw[List.length_map,List.length_append,List.length_map,List.length_take];omega
   have k1: ∀e∈(dcCols (ts.take i)++(t.cols.take j).map fun c=>(t.n,c)).map colnC,e.length=4:=fun e he=>by obtain⟨y,_,rfl⟩:=List.mem_map.1 he;rfl
   generalize (dcCols (ts.take i)++(t.cols.take j).map fun c=>(t.n,c)).map colnC=es at*
   clear hK
   (repeat' (first|(refine LW.is ?_;first|(apply s_append;exact rfl;exact rfl;exact rfl;exact rfl;exact k1;exact len_cons rfl len_nil;(simp only[maxLen,List.length_cons,List.length_nil];omega);(simp only[List.length_cons,List.length_nil];omega);exact rfl;exact rfl))|(refine DR.is ?_;first|(apply d_append;exact rfl;exact rfl;exact rfl;exact rfl;exact k1;exact len_cons rfl len_nil;(simp only[maxLen,List.length_cons,List.length_nil];omega);(simp only[List.length_cons,List.length_nil];omega);exact rfl;exact rfl))|refine wk1 ?_|refine wk2 (fun hb hp=> ?_) (fun hb hp=> ?_)|fail))
   refine L.onlyS [17,16,15,3,5,10,9,8] [5] rfl ?_
   refine L.retok 3 27 3 rfl rfl rfl rfl ?_
   refine hK2 _ (j+1) trivial (by omega) ?_
   (refine Wk.mk' (by intro id h;cases h) ?_ ?_ ?_<;>repeat' (first|exact WkF.nil|exact WkB.nil|exact WkT.nil|(refine WkF.cons rfl (Sub.refl _) ?_)|(refine WkF.cons rfl (Sub.of_eq (congrArg (AV.row 3) n1.symm)) ?_)|(refine WkB.cons rfl rfl (Subs.refl _) ?_)|(refine WkT.cons rfl ?_)))
end Go.Proofs.YthcjohcakdnmmaaGreatDoor
namespace Go.Proofs.YthcjohcakdnmmaaGreatDoor
open Go.Abs
set_option maxRecDepth 100000
attribute [local irreducible] L Code.wp bodyPost Exit.then Exit.inBlock
set_option linter.unusedVariables false
set_option linter.unusedSimpArgs false
instance zero4:ZeroTy Tryz.prog 108 [.bool false,.bool false,.bool false,.bool false]:=⟨by kernel_rfl⟩
instance var4:VarTy Tryz.prog 108 true 4:=⟨by kernel_rfl⟩
def onlyB(k:Int)(b1 b2 b3:Bool):Bool:= !((b1 && (1 !=k))||((b2 && (2 !=k))||(b3 && (3 !=k))))
def seenB(b0 b1 b2 b3:Bool):Box:=⟨108,.l [aB b0,aB b1,aB b2,aB b3]⟩
set_option maxHeartbeats 16000000 in
theorem only_any{gs:Globs}(k:Int)(hk:k=1∨k=2∨k=3)(b0 b1 b2 b3:Bool):CallG gs Tryz.prog 68 ([aI k] ++ [.ptr 12 0]) [(12,seenB b0 b1 b2 b3)] [(12,seenB b0 b1 b2 b3)] [] (aB (onlyB k b1 b2 b3)):=by
 refine CallG.intro _ Tryz.func68 rfl Tryz.ntmps68 rfl (fun w0 E0 hG=> ?_)
 unfold seenB
 rcases hk with rfl|rfl|rfl<;>cases b1<;>cases b2<;>cases b3<;>(
  (repeat' (first|refine wk1 ?_|refine wk2 (fun hb hp=> ?_) (fun hb hp=> ?_)|fail))
  refine L.unroll 4 ?_
  all_goals(try (refine L.unrS ?_;(repeat' (first|(refine LW.is ?_;first|(apply s_vr;exact rfl;apply v_indexArrP;exact rfl;exact rfl;decide;decide;exact rfl))|(refine DR.is ?_;first|(apply d_vr;exact rfl;apply v_indexArrP;exact rfl;exact rfl;decide;decide;exact rfl))|refine wk1 ?_|refine wk2 (fun hb hp=> ?_) (fun hb hp=> ?_)|fail))))
  all_goals(try (refine L.unrS ?_;(repeat' (first|(refine LW.is ?_;first|(apply s_vr;exact rfl;apply v_indexArrP;exact rfl;exact rfl;decide;decide;exact rfl))|(refine DR.is ?_;first|(apply d_vr;exact rfl;apply v_indexArrP;exact rfl;exact rfl;decide;decide;exact rfl))|refine wk1 ?_|refine wk2 (fun hb hp=> ?_) (fun hb hp=> ?_)|fail))))
  all_goals(try (refine L.unrS ?_;(repeat' (first|(refine LW.is ?_;first|(apply s_vr;exact rfl;apply v_indexArrP;exact rfl;exact rfl;decide;decide;exact rfl))|(refine DR.is ?_;first|(apply d_vr;exact rfl;apply v_indexArrP;exact rfl;exact rfl;decide;decide;exact rfl))|refine wk1 ?_|refine wk2 (fun hb hp=> ?_) (fun hb hp=> ?_)|fail))))
  all_goals(try (refine L.unrS ?_;(repeat' (first|(refine LW.is ?_;first|(apply s_vr;exact rfl;apply v_indexArrP;exact rfl;exact rfl;decide;decide;exact rfl))|(refine DR.is ?_;first|(apply d_vr;exact rfl;apply v_indexArrP;exact rfl;exact rfl;decide;decide;exact rfl))|refine wk1 ?_|refine wk2 (fun hb hp=> ?_) (fun hb hp=> ?_)|fail))))
  all_goals(apply L.ends;exact rfl;exact rfl;exact Sub.of_eq rfl;exact Wk.mk' (by intro id h;simp[keys] at h;subst h;rfl) .nil (.cons rfl rfl (Subs.refl _) .nil) .nil))
inductive Ex.KS:Ex→Prop
 |mk {op:Int} {v:Val} {s name:List UInt8} {n:Int} {l:List Ex} (hv:op=1→0≤v.k∧v.k≤3) (h: ∀x∈l,x.KS):Ex.KS (.mk op v s name n l)
def hasT(k:Int)(tys:List Int):Bool:=tys.any (fun t=>t==k)
theorem only_all{k:Int}(hk:k=1∨k=2∨k=3){tys:List Int}(h: ∀t∈tys,0≤t∧t≤3):onlyB k (hasT 1 tys) (hasT 2 tys) (hasT 3 tys)=allB k tys:=by
 unfold onlyB allB hasT
 congr 1
 induction tys with
 |nil=>rfl
 |cons t tys ih=>
  have ih:=ih (fun x hx=>h x (by simp[hx]))
  have ht:=h t (by simp)
  simp only[List.any_cons]
  rw[←ih]
  have:t=0∨t=1∨t=2∨t=3:=by omega
  generalize (tys.any fun t=>t==1)=a1
  generalize (tys.any fun t=>t==2)=a2
  generalize (tys.any fun t=>t==3)=a3
  rcases this with rfl|rfl|rfl|rfl<;>rcases hk with rfl|rfl|rfl<;>cases a1<;>cases a2<;>cases a3<;>rfl
def ColsOk(cs:List (Str×Col)):Prop:= ∀x∈cs,0≤x.2.t∧x.2.t≤3
theorem colZ_ok{cs:List (Str×Col)}(h:ColsOk cs)(n:Nat):0≤(cs.getD n colZ).2.t∧(cs.getD n colZ).2.t≤3:=by
 rw[List.getD_eq_getElem?_getD]
 cases hx:cs[n]? with
 |none=>exact⟨by decide,by decide⟩
 |some x=>exact h x (List.mem_of_getElem? hx)
theorem dcOne_ty{cs:List (Str×Col)}(hc:ColsOk cs){op:Int}{v:Val}{s name:Str}{n f:Int}{es:List Ex}{tys:List Int}(hv:op=1→0≤v.k∧v.k≤3):0≤(dcOne cs op v s name n f es tys).2.1∧(dcOne cs op v s name n f es tys).2.1≤3:=by
 unfold dcOne
 by_cases h2:op=2
 · rw[if_pos h2]
   split
   · exact⟨by dsimp only;decide,by dsimp only;decide⟩
   · unfold dcFind
     split
     · exact colZ_ok hc _
     · exact⟨by dsimp only;decide,by dsimp only;decide⟩
 · rw[if_neg h2]
   unfold bindOne badB
   split
   · exact⟨by dsimp only;decide,by dsimp only;decide⟩
   split
   · rename_i h1;exact hv h1
   repeat' (first|exact⟨by dsimp only;decide,by dsimp only;decide⟩|split)
theorem dcBind_ty{cs:List (Str×Col)}(hc:ColsOk cs): ∀e:Ex,e.KS→0≤(dcBind cs e).2.1∧(dcBind cs e).2.1≤3
 | .mk op v s name n l,h=>by rw[dcBind_eq];exact dcOne_ty hc (by cases h with|mk hv _=>exact hv)
theorem find_step(s name:Str)(cs:List (Str×Col))(i:Nat)(x:Str×Col)(h:cs[i]?=some x):dcFindL s name (cs.take (i+1)) 0 0 0=if dcHit s name x then(i,(dcFindL s name (cs.take i) 0 0 0).2+1) else dcFindL s name (cs.take i) 0 0 0:=by
 have hl:(cs.take i).length=i:=by rw[List.length_take];have:=(List.getElem?_eq_some_iff.1 h).1;omega
 rw[takeA h,dcFindL_app,hl,Nat.zero_add,dcFindL,dcFindL,dcFindL]
theorem find_le(s name:Str): ∀(l:List (Str×Col)) (i n f:Nat),(dcFindL s name l i n f).2≤f+l.length∧((dcFindL s name l i n f).1=n∨(dcFindL s name l i n f).1<i+l.length)
 | [],i,n,f=>⟨Nat.le_refl _,.inl rfl⟩
 |x::l,i,n,f=>by
  rw[dcFindL]
  split
  · have:=find_le s name l (i+1) i (f+1)
    simp only[List.length_cons]
    exact⟨by omega,by omega⟩
  · have:=find_le s name l (i+1) n f
    simp only[List.length_cons]
    exact⟨by omega,by omega⟩
end Go.Proofs.YthcjohcakdnmmaaGreatDoor
namespace Go.Proofs.YthcjohcakdnmmaaGreatDoor
open Go.Abs
set_option maxRecDepth 100000
attribute [local irreducible] L Code.wp bodyPost Exit.then Exit.inBlock
set_option linter.unusedVariables false
set_option linter.unusedSimpArgs false
theorem one_hit(s name:Str)(cs:List (Str×Col))(h:(dcFindL s name cs 0 0 0).2=1):(dcFindL s name cs 0 0 0).1<cs.length:=by
 have:=find_le s name cs 0 0 0
 omega
set_option maxHeartbeats 16000000 in
theorem bindR_any{gs:Globs}(cs:List (Str×Col))(hcl:cs.length≤1000000)(v:Val)(s name:Str)(n:Int):CallG gs Tryz.prog 35 [.iv (.sl (cs.map colnC)),.agg ((Ex.mk 2 v s name n []).cs.map .iv)] [] [] [] (.tup [.agg ((dcBind cs (.mk 2 v s name n [])).1.cs.map .iv),.iv (I (dcBind cs (.mk 2 v s name n [])).2.1),.iv (I (dcBind cs (.mk 2 v s name n [])).2.2)]):=by
 have hc:(Ex.mk 2 v s name n []).cs= [I 2,I v.k,I v.n,S v.s,S s,S name,I n,.sl []]:=rfl
 rw[hc,dcBind_eq]
 unfold dcOne
 rw[if_pos rfl]
 unfold dcFind
 refine CallG.intro _ Tryz.func35 rfl Tryz.ntmps35 rfl (fun w0 E0 hG=> ?_)
 (repeat' (first|refine wk1 ?_|refine wk2 (fun hb hp=> ?_) (fun hb hp=> ?_)|fail))
 refine L.loopP (ι:=Nat) (fun i=>⟨[(24,aI (i:Int)),(23,aI ((cs.map colnC).length:Int)),(22,.iv (.sl (cs.map colnC))),(0,.iv (.sl (cs.map colnC))),(3,.ptr 3 0),(4,.ptr 4 0),(5,aI 0),(6,aI 0),(7,aI ((dcFindL s name (cs.take i) 0 0 0).1:Int)),(8,aI ((dcFindL s name (cs.take i) 0 0 0).2:Int))],
  [(3,⟨34,.l [aI 2,aI v.k,aI v.n,aS v.s,aS s,aS name,aI n,.iv (.sl [])]⟩),(4,⟨34,.l [aI 0,aI 0,aI 0,aS [],aS [],aS [],aI 0,.nils]⟩)],[]⟩) (fun i=>cs.length - i) (fun _=>True) (i0:=0) ?_ trivial ?_
 · exact wkk
 intro i _ K hK
 cases hx:cs[i]? with
 |none=>
  have hlt:=ltF (l:=cs.map colnC) (getFN hx)
  rw[List.take_of_length_le (List.getElem?_eq_none_iff.1 hx)]
  clear hK
  have h1:=one_hit s name cs
  generalize dcFindL s name cs 0 0 0=r at*
  obtain⟨m,f⟩:=r
  dsimp only at h1⊢
  by_cases hf:f=1
  · have hm:=h1 hf
    subst hf
    rw[if_pos rfl,if_neg (by simp)]
    have g1:(cs.map colnC)[((m:Nat):Int).toNat]?=some [S (cs.getD m colZ).1,S (cs.getD m colZ).2.n,I (cs.getD m colZ).2.t,.im (.bool (cs.getD m colZ).2.m)]:=by
     rw[Int.toNat_natCast,List.getElem?_map,List.getD_eq_getElem?_getD,List.getElem?_eq_getElem hm];rfl
    have hml:(m:Int)<((cs.map colnC).length:Int):=by rw[List.length_map];omega
    dsimp only
    generalize cs.getD m colZ=q at*
    (repeat' (first|refine wk1 ?_|refine wk2 (fun hb hp=> ?_) (fun hb hp=> ?_)|fail))
    all_goals refine wkf ?_
    all_goals rfl
  · rw[if_neg hf,if_pos (by simp)]
    have q:(!(((f:Nat):Int)==1))=true:=by simp;omega
    have q2:((((f:Nat):Int) !=1))=true:=by simp;omega
    (repeat' (first|refine wk1 ?_|refine wk2 (fun hb hp=> ?_) (fun hb hp=> ?_)|fail))
    all_goals refine wkf ?_
    all_goals rfl
 |some x=>
  have hlt:=ltT (l:=cs.map colnC) (getF (f:=colnC) hx)
  have hlt':=ltN hx
  have g1:(cs.map colnC)[((i:Nat):Int).toNat]?=some [S x.1,S x.2.n,I x.2.t,.im (.bool x.2.m)]:=by rw[Int.toNat_natCast,List.getElem?_map,hx];rfl
  have hst:=find_step s name cs i x hx
  have hfl:=(find_le s name (cs.take i) 0 0 0).1
  have htl:(cs.take i).length≤1000000:=by rw[List.length_take];omega
  rw[show dcHit s name x=(x.2.n==name && ((s== [])||(s==x.1))) from rfl] at hst
  cases hn:x.2.n==name with
  |false=>
   rw[hn,Bool.false_and,if_neg Bool.false_ne_true] at hst
   (repeat' (first|refine wk1 ?_|refine wk2 (fun hb hp=> ?_) (fun hb hp=> ?_)|fail))
   refine hK _ (i+1) trivial (by omega) ?_
   rw[hst]
   exact wkk
  |true=>
   rw[hn,Bool.true_and] at hst
   cases hs:s== [] with
   |true=>
    rw[hs,Bool.true_or,if_pos rfl] at hst
    generalize dcFindL s name (cs.take i) 0 0 0=r at*
    obtain⟨m,f⟩:=r
    dsimp only at hfl hst⊢
    (repeat' (first|refine wk1 ?_|refine wk2 (fun hb hp=> ?_) (fun hb hp=> ?_)|fail))
    refine hK _ (i+1) trivial (by omega) ?_
    rw[hst]
    exact wkk
   |false=>
    rw[hs,Bool.false_or] at hst
    cases ht:s==x.1 with
    |true=>
     rw[ht,if_pos rfl] at hst
     generalize dcFindL s name (cs.take i) 0 0 0=r at*
     obtain⟨m,f⟩:=r
     dsimp only at hfl hst⊢
     (repeat' (first|refine wk1 ?_|refine wk2 (fun hb hp=> ?_) (fun hb hp=> ?_)|fail))
     refine hK _ (i+1) trivial (by omega) ?_
     rw[hst]
     exact wkk
    |false=>
     rw[ht,if_neg Bool.false_ne_true] at hst
     (repeat' (first|refine wk1 ?_|refine wk2 (fun hb hp=> ?_) (fun hb hp=> ?_)|fail))
     refine hK _ (i+1) trivial (by omega) ?_
     rw[hst]
     exact wkk
def seenC(tys:List Int):List AV:= [aB (hasT 0 tys),aB (hasT 1 tys),aB (hasT 2 tys),aB (hasT 3 tys)]
theorem hasT_app(k:Int)(tys:List Int)(t:Int):hasT k (tys++ [t])=(hasT k tys||(t==k)):=by simp[hasT]
set_option maxHeartbeats 32000000 in
theorem bindX_any{gs:Globs}(cs:List (Str×Col))(hcl:cs.length≤1000000)(hco:ColsOk cs)(op:Int)(h10:1≤op∧op≤10)(hop:op≠2)(v:Val)(s name:Str)(n:Int)(l:List Ex)(hl:l.length*104≤140737488355328)(hks: ∀x∈l,x.KS)
 (ih: ∀x∈l,CallG gs Tryz.prog 35 [.iv (.sl (cs.map colnC)),.agg (x.cs.map .iv)] [] [] [] (.tup [.agg ((dcBind cs x).1.cs.map .iv),.iv (I (dcBind cs x).2.1),.iv (I (dcBind cs x).2.2)])):
 CallG gs Tryz.prog 35 [.iv (.sl (cs.map colnC)),.agg ((Ex.mk op v s name n l).cs.map .iv)] [] [] [] (.tup [.agg ((dcBind cs (.mk op v s name n l)).1.cs.map .iv),.iv (I (dcBind cs (.mk op v s name n l)).2.1),.iv (I (dcBind cs (.mk op v s name n l)).2.2)]):=by
 have hc:(Ex.mk op v s name n l).cs= [I op,I v.k,I v.n,S v.s,S s,S name,I n,.sl (l.map Ex.c)]:=rfl
 rw[hc,dcBind_eq]
 unfold dcOne
 rw[if_neg hop]
 refine CallG.intro _ Tryz.func35 rfl Tryz.ntmps35 rfl (fun w0 E0 hG=> ?_)
 have r2:(op==2)=false:=by simp[hop]
 (repeat' (first|(refine LW.is ?_;first|(apply s_vr;exact rfl;apply v_buildArr;exact rfl;(apply n_some;exact rfl;exact nlq)))|(refine DR.is ?_;first|(apply d_vr;exact rfl;apply v_buildArr;exact rfl;(apply n_some;exact rfl;exact nlq)))|refine wk1 ?_|refine wk2 (fun hb hp=> ?_) (fun hb hp=> ?_)|fail))
 refine L.adopt 11 (s:=11) (t:=34) (k:=8) rfl rfl rfl ?_
 refine L.loopP (ι:=Nat) (fun i=>⟨[(67,aI (i:Int)),(66,aI ((l.map Ex.c).length:Int)),(65,.iv (.sl (l.map Ex.c))),(11,.row 11 (((l.take i).map fun x=>(dcBind cs x).1).map Ex.c)),(0,.iv (.sl (cs.map colnC))),(3,.ptr 3 0),(4,.ptr 4 0),(12,.ptr 12 0),(5,aI 0),(6,aI 0)],
  [(3,⟨34,.l [aI op,aI v.k,aI v.n,aS v.s,aS s,aS name,aI n,.iv (.sl (l.map Ex.c))]⟩),(4,⟨34,.l [aI 0,aI 0,aI 0,aS [],aS [],aS [],aI 0,.nils]⟩),(12,⟨108,.l (seenC ((l.take i).map fun x=>(dcBind cs x).2.1))⟩)],[(11,⟨34,8⟩)]⟩)
  (fun i=>l.length - i) (fun i=> ∀y∈l.take i,(dcBind cs y).2.2=0) (i0:=0) ?_ (by simp) ?_
 · (refine Wk.mk' (by intro id h;cases h) ?_ ?_ ?_<;>repeat' (first|exact WkF.nil|exact WkB.nil|exact WkT.nil|(refine WkF.cons rfl (Sub.refl _) ?_)|(refine WkF.cons rfl (Sub.of_eq rfl) ?_)|(refine WkB.cons rfl rfl (Subs.refl _) ?_)|(refine WkB.cons rfl rfl (Subs.of_eq rfl) ?_)|(refine WkT.cons rfl ?_)))
 intro i hI K hK
 cases hx:l[i]? with
 |some x=>
  have hlt:=ltT (l:=l.map Ex.c) (getF (f:=Ex.c) hx)
  have hlt':=ltN hx
  have hxm:=List.mem_of_getElem? hx
  have ihx:=ih x hxm
  have g1:(l.map Ex.c)[((i:Nat):Int).toNat]?=some [I x.op,I x.v.k,I x.v.n,S x.v.s,S x.s,S x.name,I x.n,.sl (x.l.map Ex.c)]:=by rw[Int.toNat_natCast,List.getElem?_map,hx];exact congrArg some (Ex.c_cs x)
  have hxc:x.cs= [I x.op,I x.v.k,I x.v.n,S x.v.s,S x.s,S x.name,I x.n,.sl (x.l.map Ex.c)]:=by cases x;rfl
  rw[hxc] at ihx
  have hil:i<l.length:=(List.getElem?_eq_some_iff.1 hx).1
  by_cases hf:(dcBind cs x).2.2=0
  · have hI':=take_snocE (g:=fun x=>(dcBind cs x).2.2) hI hx hf
    have hty:=dcBind_ty hco x (hks x hxm)
    have n1:((l.take (i+1)).map fun x=>(dcBind cs x).1).map Ex.c=((l.take i).map fun x=>(dcBind cs x).1).map Ex.c++ [(dcBind cs x).1.cs]:=by rw[takeC hx,List.map_append,List.map_append];exact congrArg _ (by simp[Ex.c_cs])
    have n2:((l.take (i+1)).map fun x=>(dcBind cs x).2.1)=((l.take i).map fun x=>(dcBind cs x).2.1)++ [(dcBind cs x).2.1]:=by rw[takeC hx];simp
    have l1:(((l.take i).map fun x=>(dcBind cs x).1).map Ex.c).length=i:=by simp;omega
    have k1: ∀e∈((l.take i).map fun x=>(dcBind cs x).1).map Ex.c,e.length=8:=fun e he=>by obtain⟨y,_,rfl⟩:=List.mem_map.1 he;exact exl8 y
    generalize ((l.take i).map fun x=>(dcBind cs x).1).map Ex.c=es at*
    generalize ((l.take i).map fun x=>(dcBind cs x).2.1)=tys at*
    generalize dcBind cs x=r at*
    obtain⟨e,ty,f⟩:=r
    dsimp only at hf ihx n1 n2 hty
    subst hf
    clear hI ih hks
    have h4:ty=0∨ty=1∨ty=2∨ty=3:=by omega
    have hec:e.cs= [I e.op,I e.v.k,I e.v.n,S e.v.s,S e.s,S e.name,I e.n,.sl (e.l.map Ex.c)]:=by cases e;rfl
    rw[hec] at ihx n1
    unfold seenC
    clear hty
    rcases h4 with rfl|rfl|rfl|rfl<;>(
     have m0:=hasT_app 0 tys
     have m1:=hasT_app 1 tys
     have m2:=hasT_app 2 tys
     have m3:=hasT_app 3 tys
     (repeat' (first|(refine LW.is ?_;first|(apply s_append;exact rfl;exact rfl;exact rfl;exact rfl;exact k1;exact len_cons rfl len_nil;(simp only[maxLen,List.length_cons,List.length_nil];omega);(simp only[List.length_cons,List.length_nil];omega);exact rfl;exact rfl)|(apply s_vr;exact rfl;apply v_indexArrP;exact rfl;exact rfl;decide;decide;exact rfl))|(refine DR.is ?_;first|(apply d_append;exact rfl;exact rfl;exact rfl;exact rfl;exact k1;exact len_cons rfl len_nil;(simp only[maxLen,List.length_cons,List.length_nil];omega);(simp only[List.length_cons,List.length_nil];omega);exact rfl;exact rfl)|(apply d_vr;exact rfl;apply v_indexArrP;exact rfl;exact rfl;decide;decide;exact rfl))|refine wk1 ?_|refine wk2 (fun hb hp=> ?_) (fun hb hp=> ?_)|fail))
     refine L.onlyS [67,66,65,11,0,3,4,12,5,6] [3,4,12] rfl ?_
     refine L.retok 11 85 11 rfl rfl rfl rfl ?_
     refine hK _ (i+1) hI' (by omega) ?_
     (refine Wk.mk' (by intro id h;cases h) ?_ ?_ ?_<;>repeat' (first|exact WkF.nil|exact WkB.nil|exact WkT.nil|exact Subs.nil|(refine WkF.cons rfl (Sub.refl _) ?_)|(refine WkF.cons rfl (Sub.of_eq (congrArg (AV.row 11) n1.symm)) ?_)|(refine WkB.cons rfl rfl (Subs.refl _) ?_)|(refine WkB.cons rfl rfl ?_ ?_)|(rw[n2];unfold seenC;rw[m0,m1,m2,m3];refine Subs.cons (Sub.of_eq (congrArg aB (by simp))) ?_)|(refine Subs.cons (Sub.of_eq (congrArg aB (by simp))) ?_)|(refine WkT.cons rfl ?_))))
  · have he:errM (l.map fun x=>(dcBind cs x).2.2)=(dcBind cs x).2.2:=err_at (g:=fun x=>(dcBind cs x).2.2) hI hx hf
    rw[he]
    clear hI hK ih he hks
    generalize dcBind cs x=r at*
    obtain⟨e,ty,f⟩:=r
    dsimp only at hf ihx⊢
    have hb:bindOne [] op v s name n f (l.map fun x=>(dcBind cs x).1) (l.map fun x=>(dcBind cs x).2.1)=(nilE,0,f):=by rw[bindOne,if_pos hf]
    rw[hb]
    have q:(f !=0)=true:=by simpa using hf
    unfold seenC
    (repeat' (first|refine wk1 ?_|refine wk2 (fun hb hp=> ?_) (fun hb hp=> ?_)|fail))
    all_goals refine wkf ?_
    all_goals rfl
 |none=>
  have hlt:=ltF (l:=l.map Ex.c) (getFN hx)
  have hN:l.take i=l:=List.take_of_length_le (List.getElem?_eq_none_iff.1 hx)
  rw[hN] at hI⊢
  rw[err_no (g:=fun x=>(dcBind cs x).2.2) hI]
  have htys: ∀t∈(l.map fun x=>(dcBind cs x).2.1),0≤t∧t≤3:=fun t ht=>by
   obtain⟨y,hy,rfl⟩:=List.mem_map.1 ht
   exact dcBind_ty hco y (hks y hy)
  generalize (l.map fun x=>(dcBind cs x).1)=es at*
  generalize (l.map fun x=>(dcBind cs x).2.1)=tys at*
  clear hI ih hK hx hN hks
  have kb: ∀(k:Int) (b:Bool),(k=1∨k=2∨k=3)→allB k tys=b→CallG gs Tryz.prog 68 ([aI k] ++ [.ptr 12 0]) [(12,seenB (hasT 0 tys) (hasT 1 tys) (hasT 2 tys) (hasT 3 tys))] [(12,seenB (hasT 0 tys) (hasT 1 tys) (hasT 2 tys) (hasT 3 tys))] [] (aB b):=fun k b hk hb=>by
   rw[←hb,←only_all hk htys]
   exact only_any k hk _ _ _ _
  unfold seenC
  generalize hasT 0 tys=a0 at*
  generalize hasT 1 tys=a1 at*
  generalize hasT 2 tys=a2 at*
  generalize hasT 3 tys=a3 at*
  clear htys
  by_cases h1:op=1
  · subst h1
    rw[show bindOne [] 1 v s name n 0 es tys=(.mk 1 v s name n es,v.k,0) by simp[bindOne]]
    (repeat' (first|(apply s_vr;exact rfl;apply v_makeFunc;exact rfl)|refine wk1 ?_|refine wk2 (fun hb hp=> ?_) (fun hb hp=> ?_)|fail))
    all_goals refine wkf ?_
    all_goals rfl
  have q1:(op==1)=false:=by simp[h1]
  by_cases h34:op=3∨op=4
  · cases ha:allB 1 tys with
    |true=>
     rw[show bindOne [] op v s name n 0 es tys=(.mk op v s name n es,1,0) by rcases h34 with rfl|rfl<;>simp[bindOne,ha]]
     have kc:=kb 1 true (by decide) ha
     clear kb ha
     rcases h34 with rfl|rfl
     all_goals(repeat' (first|(apply s_vr;exact rfl;apply v_makeFunc;exact rfl)|(apply s_callFnW [] (f:=68) (avs:= [aI 1]) (caps:= [.ptr 12 0]) (bxi:= [(12,seenB a0 a1 a2 a3)]);exact rfl;exact hG;exact rfl;exact kc;exact Subs.of_eq rfl;exact .cons rfl rfl (Subs.of_eq rfl) .nil;exact rfl;exact rfl;exact rfl;exact rfl)|refine wk1 ?_|refine wk2 (fun hb hp=> ?_) (fun hb hp=> ?_)|fail))
     all_goals refine wkf ?_
     all_goals rfl
    |false=>
     rw[show bindOne [] op v s name n 0 es tys=badB by rcases h34 with rfl|rfl<;>simp[bindOne,ha]]
     have kc:=kb 1 false (by decide) ha
     clear kb ha
     rcases h34 with rfl|rfl
     all_goals(repeat' (first|(apply s_vr;exact rfl;apply v_makeFunc;exact rfl)|(apply s_callFnW [] (f:=68) (avs:= [aI 1]) (caps:= [.ptr 12 0]) (bxi:= [(12,seenB a0 a1 a2 a3)]);exact rfl;exact hG;exact rfl;exact kc;exact Subs.of_eq rfl;exact .cons rfl rfl (Subs.of_eq rfl) .nil;exact rfl;exact rfl;exact rfl;exact rfl)|refine wk1 ?_|refine wk2 (fun hb hp=> ?_) (fun hb hp=> ?_)|fail))
     all_goals refine wkf ?_
     all_goals rfl
  by_cases h56:op=5∨op=6
  · cases ha:allB 1 tys with
    |true=>
     rw[show bindOne [] op v s name n 0 es tys=(.mk op v s name n es,3,0) by rcases h56 with rfl|rfl<;>simp[bindOne,ha]]
     have kc:=kb 1 true (by decide) ha
     clear kb ha
     rcases h56 with rfl|rfl
     all_goals(repeat' (first|(apply s_vr;exact rfl;apply v_makeFunc;exact rfl)|(apply s_callFnW [] (f:=68) (avs:= [aI 1]) (caps:= [.ptr 12 0]) (bxi:= [(12,seenB a0 a1 a2 a3)]);exact rfl;exact hG;exact rfl;exact kc;exact Subs.of_eq rfl;exact .cons rfl rfl (Subs.of_eq rfl) .nil;exact rfl;exact rfl;exact rfl;exact rfl)|refine wk1 ?_|refine wk2 (fun hb hp=> ?_) (fun hb hp=> ?_)|fail))
     all_goals refine wkf ?_
     all_goals rfl
    |false=>
     have kc:=kb 1 false (by decide) ha
     cases hb:allB 2 tys with
     |true=>
      rw[show bindOne [] op v s name n 0 es tys=(.mk op v s name n es,3,0) by rcases h56 with rfl|rfl<;>simp[bindOne,ha,hb]]
      have kd:=kb 2 true (by decide) hb
      clear kb ha hb
      rcases h56 with rfl|rfl
      all_goals(repeat' (first|(apply s_vr;exact rfl;apply v_makeFunc;exact rfl)|(apply s_callFnW [] (f:=68) (avs:= [aI 1]) (caps:= [.ptr 12 0]) (bxi:= [(12,seenB a0 a1 a2 a3)]);exact rfl;exact hG;exact rfl;exact kc;exact Subs.of_eq rfl;exact .cons rfl rfl (Subs.of_eq rfl) .nil;exact rfl;exact rfl;exact rfl;exact rfl)|(apply s_callFnW [] (f:=68) (avs:= [aI 2]) (caps:= [.ptr 12 0]) (bxi:= [(12,seenB a0 a1 a2 a3)]);exact rfl;exact hG;exact rfl;exact kd;exact Subs.of_eq rfl;exact .cons rfl rfl (Subs.of_eq rfl) .nil;exact rfl;exact rfl;exact rfl;exact rfl)|refine wk1 ?_|refine wk2 (fun hb hp=> ?_) (fun hb hp=> ?_)|fail))
      all_goals refine wkf ?_
      all_goals rfl
     |false=>
      rw[show bindOne [] op v s name n 0 es tys=badB by rcases h56 with rfl|rfl<;>simp[bindOne,ha,hb]]
      have kd:=kb 2 false (by decide) hb
      clear kb ha hb
      rcases h56 with rfl|rfl
      all_goals(repeat' (first|(apply s_vr;exact rfl;apply v_makeFunc;exact rfl)|(apply s_callFnW [] (f:=68) (avs:= [aI 1]) (caps:= [.ptr 12 0]) (bxi:= [(12,seenB a0 a1 a2 a3)]);exact rfl;exact hG;exact rfl;exact kc;exact Subs.of_eq rfl;exact .cons rfl rfl (Subs.of_eq rfl) .nil;exact rfl;exact rfl;exact rfl;exact rfl)|(apply s_callFnW [] (f:=68) (avs:= [aI 2]) (caps:= [.ptr 12 0]) (bxi:= [(12,seenB a0 a1 a2 a3)]);exact rfl;exact hG;exact rfl;exact kd;exact Subs.of_eq rfl;exact .cons rfl rfl (Subs.of_eq rfl) .nil;exact rfl;exact rfl;exact rfl;exact rfl)|refine wk1 ?_|refine wk2 (fun hb hp=> ?_) (fun hb hp=> ?_)|fail))
      all_goals refine wkf ?_
      all_goals rfl
  by_cases h789:op=7∨op=8∨op=9
  · cases ha:allB 3 tys with
    |true=>
     rw[show bindOne [] op v s name n 0 es tys=(.mk op v s name n es,3,0) by rcases h789 with rfl|rfl|rfl<;>simp[bindOne,ha]]
     have kc:=kb 3 true (by decide) ha
     clear kb ha
     rcases h789 with rfl|rfl|rfl
     all_goals(repeat' (first|(apply s_vr;exact rfl;apply v_makeFunc;exact rfl)|(apply s_callFnW [] (f:=68) (avs:= [aI 3]) (caps:= [.ptr 12 0]) (bxi:= [(12,seenB a0 a1 a2 a3)]);exact rfl;exact hG;exact rfl;exact kc;exact Subs.of_eq rfl;exact .cons rfl rfl (Subs.of_eq rfl) .nil;exact rfl;exact rfl;exact rfl;exact rfl)|refine wk1 ?_|refine wk2 (fun hb hp=> ?_) (fun hb hp=> ?_)|fail))
     all_goals refine wkf ?_
     all_goals rfl
    |false=>
     rw[show bindOne [] op v s name n 0 es tys=badB by rcases h789 with rfl|rfl|rfl<;>simp[bindOne,ha]]
     have kc:=kb 3 false (by decide) ha
     clear kb ha
     rcases h789 with rfl|rfl|rfl
     all_goals(repeat' (first|(apply s_vr;exact rfl;apply v_makeFunc;exact rfl)|(apply s_callFnW [] (f:=68) (avs:= [aI 3]) (caps:= [.ptr 12 0]) (bxi:= [(12,seenB a0 a1 a2 a3)]);exact rfl;exact hG;exact rfl;exact kc;exact Subs.of_eq rfl;exact .cons rfl rfl (Subs.of_eq rfl) .nil;exact rfl;exact rfl;exact rfl;exact rfl)|refine wk1 ?_|refine wk2 (fun hb hp=> ?_) (fun hb hp=> ?_)|fail))
     all_goals refine wkf ?_
     all_goals rfl
  have h0:op=10:=by omega
  subst h0
  rw[show bindOne [] 10 v s name n 0 es tys=(.mk 10 v s name n es,3,0) by simp[bindOne]]
  clear kb
  (repeat' (first|(apply s_vr;exact rfl;apply v_makeFunc;exact rfl)|refine wk1 ?_|refine wk2 (fun hb hp=> ?_) (fun hb hp=> ?_)|fail))
  all_goals refine wkf ?_
  all_goals rfl
inductive Ex.BS:Ex→Prop
 |mk {op:Int} {v:Val} {s name:List UInt8} {n:Int} {l:List Ex} (h10:1≤op∧op≤10) (h2:op=2→l= []) (hv:op=1→0≤v.k∧v.k≤3) (hl:l.length*104≤140737488355328) (h: ∀x∈l,x.BS):Ex.BS (.mk op v s name n l)
theorem Ex.BS.ks: ∀{e:Ex},e.BS→e.KS
 | .mk op v s name n l,h=>by
   cases h with
   |mk h10 h2 hv hl h=>exact .mk hv (fun x hx=>Ex.BS.ks (h x hx))
 termination_by e=>SizeOf.sizeOf e
 decreasing_by
  have:=List.sizeOf_lt_of_mem hx
  simp;omega
theorem Ex.BS.ref: ∀{e:Ex},e.BS→RefE e
 | .mk op v s name n l,h=>by
   cases h with
   |mk h10 h2 hv hl h=>exact .mk h2 (fun x hx=>Ex.BS.ref (h x hx))
 termination_by e=>SizeOf.sizeOf e
 decreasing_by
  have:=List.sizeOf_lt_of_mem hx
  simp;omega
theorem bindD_any{gs:Globs}(cs:List (Str×Col))(hcl:cs.length≤1000000)(hco:ColsOk cs): ∀e:Ex,e.BS→CallG gs Tryz.prog 35 [.iv (.sl (cs.map colnC)),.agg (e.cs.map .iv)] [] [] [] (.tup [.agg ((dcBind cs e).1.cs.map .iv),.iv (I (dcBind cs e).2.1),.iv (I (dcBind cs e).2.2)])
 | .mk op v s name n l,h=>by
   obtain⟨h10,h2,hl,hh⟩:(1≤op∧op≤10)∧(op=2→l= [])∧l.length*104≤140737488355328∧ ∀x∈l,x.BS:=by cases h with|mk h10 h2 hv hl h=>exact⟨h10,h2,hl,h⟩
   by_cases ho:op=2
   · rw[h2 ho,ho]
     exact bindR_any cs hcl v s name n
   · exact bindX_any cs hcl hco op h10 ho v s name n l hl (fun x hx=>(hh x hx).ks) (fun x hx=>bindD_any cs hcl hco x (hh x hx))
 termination_by e=>SizeOf.sizeOf e
 decreasing_by
  have:=List.sizeOf_lt_of_mem hx
  simp;omega
def dcTyped(cs:List (Str×Col))(e:Ex)(k:Int):Ex×Int:=if(dcBind cs e).2.2=0∧(dcBind cs e).2.1≠0∧(dcBind cs e).2.1≠k then(nilE,5) else((dcBind cs e).1,(dcBind cs e).2.2)
set_option maxHeartbeats 8000000 in
theorem typed_any{gs:Globs}(cs:List (Str×Col))(hcl:cs.length≤1000000)(hco:ColsOk cs)(e:Ex)(he:e.BS)(k:Int):CallG gs Tryz.prog 36 [.iv (.sl (cs.map colnC)),.agg (e.cs.map .iv),aI k] [] [] [] (.tup [.agg ((dcTyped cs e k).1.cs.map .iv),.iv (I (dcTyped cs e k).2)]):=by
 have kb:=bindD_any (gs:=gs) cs hcl hco e he
 unfold dcTyped
 generalize dcBind cs e=r at*
 obtain⟨b,t,f⟩:=r
 dsimp only at kb⊢
 obtain⟨op,v,s,name,n,l⟩:=e
 have hc:(Ex.mk op v s name n l).cs= [I op,I v.k,I v.n,S v.s,S s,S name,I n,.sl (l.map Ex.c)]:=rfl
 have hb:b.cs= [I b.op,I b.v.k,I b.v.n,S b.v.s,S b.s,S b.name,I b.n,.sl (b.l.map Ex.c)]:=by cases b;rfl
 rw[hc] at kb⊢
 clear he
 refine CallG.intro _ Tryz.func36 rfl Tryz.ntmps36 rfl (fun w0 E0 hG=> ?_)
 by_cases hf:f=0
 · have q:(f==0)=true:=by simp[hf]
   by_cases ht:t=0
   · have q1:(t !=0)=false:=by simp[ht]
     rw[if_neg (fun h=>h.2.1 ht),hb]
     rw[hb] at kb
     (repeat' (first|refine wk1 ?_|refine wk2 (fun hb hp=> ?_) (fun hb hp=> ?_)|fail))
     all_goals refine wkf ?_
     all_goals rfl
   · have q1:(t !=0)=true:=by simp[ht]
     by_cases hk:t=k
     · have q2:(t !=k)=false:=by simp[hk]
       rw[if_neg (fun h=>h.2.2 hk),hb]
       rw[hb] at kb
       (repeat' (first|refine wk1 ?_|refine wk2 (fun hb hp=> ?_) (fun hb hp=> ?_)|fail))
       all_goals refine wkf ?_
       all_goals rfl
     · have q2:(t !=k)=true:=by simp[hk]
       rw[if_pos ⟨hf,ht,hk⟩]
       rw[hb] at kb
       (repeat' (first|refine wk1 ?_|refine wk2 (fun hb hp=> ?_) (fun hb hp=> ?_)|fail))
       all_goals refine wkf ?_
       all_goals rfl
 · have q:(f==0)=false:=by simp[hf]
   rw[if_neg (fun h=>hf h.1),hb]
   rw[hb] at kb
   (repeat' (first|refine wk1 ?_|refine wk2 (fun hb hp=> ?_) (fun hb hp=> ?_)|fail))
   all_goals refine wkf ?_
   all_goals rfl
end Go.Proofs.YthcjohcakdnmmaaGreatDoor
