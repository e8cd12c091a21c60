/- Several texts in one, each with its own sentence ahead of it. Conditions: each one says its own. -/
import Derived.Test.YthcjohcakdnmmaaGreatDoorZS36
set_option linter.all false
namespace Go.Proofs.YthcjohcakdnmmaaGreatDoor
open Go.Abs
set_option maxRecDepth 100000
attribute [local irreducible] L LF Code.wp bodyPost Exit.then Exit.inBlock
set_option linter.unusedVariables false
set_option linter.unusedSimpArgs false
def bindE(ts:List Tab)(O:List Ex):Int:=errM (O.map fun x=>(bindM ts x).2.2)
def noSX(c:Cat)(e:Int)(N:Nat)(l:List Ex):St:=⟨[(4,.ptr 4 0),(5,aI e)],[(2,⟨25,.l (c.c.map .iv)⟩),(3,⟨36,.l (List.replicate 20 AV.any)⟩),(4,⟨36,.l (nilSt.cs.map .iv)⟩),(N,⟨34,.r (l.map Ex.c).flatten 0⟩)],[]⟩
set_option maxHeartbeats 16000000 in
theorem outL{gs:Globs}(c:Cat)(s:Stm)(vd:IV)(O:List Ex)(hO: ∀x∈O,x.BS)(hOl:O.length*104≤140737488355328)(ts:List Tab)(hcl:(dcCols ts).length≤1000000)(hco:ColsOk (dcCols ts))(hu: ∀t∈ts,Uniq t){w0:World}{E0:Env}(hG:Glob gs E0 w0){K:Act→World→Prop}{Q2:Exit→Act→World→Prop}
 (hE:bindE ts O≠0→ ∀st' (l:List Ex),l.length=O.length→Wk ⟨512,w0,E0,[2,3,4,801]⟩ st' (noSX c (bindE ts O) 801 l)→L ⟨512,w0,E0,[2,3,4,801]⟩ st' (Q2 .ret))
 (hK0:bindE ts O=0→ ∀st',Wk ⟨512,w0,E0,[2,3,4,801]⟩ st' ⟨[(2,.ptr 2 0),(3,.ptr 3 0),(4,.ptr 4 0),(6,.fn 31 []),(17,.iv (.sl ((dcCols ts).map colnC)))],[(2,⟨25,.l (c.c.map .iv)⟩),(3,⟨36,.l (stmA s (.iv (.sl (s.rows.map exRow))) (.iv (.sl (s.sets.map Ast.c))) (.bsh 801 0 O.length 8) (.iv vd))⟩),(4,⟨36,.l stm0A⟩),(801,⟨34,.r ((O.map (fun x=>(bindM ts x).1)).map Ex.c).flatten 0⟩)],[]⟩→L ⟨512,w0,E0,[2,3,4,801]⟩ st' K):
 L ⟨512,w0,E0,[2,3,4,801]⟩ ⟨[(438,aI 0),(437,aI (O.length:Int)),(436,.bsh 801 0 O.length 8),(2,.ptr 2 0),(3,.ptr 3 0),(4,.ptr 4 0),(6,.fn 31 []),(17,.iv (.sl ((dcCols ts).map colnC)))],[(2,⟨25,.l (c.c.map .iv)⟩),(3,⟨36,.l (stmA s (.iv (.sl (s.rows.map exRow))) (.iv (.sl (s.sets.map Ast.c))) (.bsh 801 0 O.length 8) (.iv vd))⟩),(4,⟨36,.l stm0A⟩),(801,⟨34,.r (O.map Ex.c).flatten 0⟩)],[]⟩ ((Code.loop (nav [1,1,1,1,1,1,1,1,1,1,1,1,0,1,0,1,1,1,1,1,1,1,0,1,1,1,1,1,0,1,0,0] ((Tryz.f7.body).getD .skip))).wp Tryz.prog (Exit.inBlock 21 (Exit.then K Q2))):=by
 have kn: ∀e:Int,CallG gs Tryz.prog 31 ([aI e] ++ []) [] [] [] (.tup [.agg (nilSt.cs.map .iv),.iv (I e)]):=fun e=>no_any e
 refine L.loopP (ι:=Nat) (fun i=>⟨[(438,aI (i:Int)),(437,aI (O.length:Int)),(436,.bsh 801 0 O.length 8),(2,.ptr 2 0),(3,.ptr 3 0),(4,.ptr 4 0),(6,.fn 31 []),(17,.iv (.sl ((dcCols ts).map colnC)))],[(2,⟨25,.l (c.c.map .iv)⟩),(3,⟨36,.l (stmA s (.iv (.sl (s.rows.map exRow))) (.iv (.sl (s.sets.map Ast.c))) (.bsh 801 0 O.length 8) (.iv vd))⟩),(4,⟨36,.l stm0A⟩),(801,⟨34,.r (((O.take i).map (fun x=>(bindM ts x).1)++O.drop i).map Ex.c).flatten 0⟩)],[]⟩) (fun i=>O.length - i) (fun i=> ∀x∈O.take i,(bindM ts x).2.2=0) (i0:=0) ?_ (by simp) ?_
 · (refine Wk.mk' (keysA rfl) ?_ ?_ ?_<;>repeat' (first|exact WkF.nil|exact WkB.nil|exact WkT.nil|exact Subs.nil|(refine WkF.cons rfl (Sub.refl _) ?_)|(refine WkF.cons rfl (Sub.of_eq rfl) ?_)|(refine WkF.cons rfl (Sub.row _ _) ?_)|(refine WkF.cons rfl (Sub.of_eq (rfl)) ?_)|(refine WkB.cons rfl rfl (Subs.refl _) ?_)|(refine WkB.cons rfl rfl (subs20 rfl) ?_)|(refine WkB.cons rfl rfl (Subs.of_eq rfl) ?_)|(refine WkT.cons rfl ?_)))
 intro i hI K2 hK
 cases hx:O[i]? with
 |none=>
  have hlt:decide ((i:Int)<(O.length:Int))=false:=decide_eq_false (by have:=List.getElem?_eq_none_iff.1 hx;omega)
  have e1:=List.take_of_length_le (List.getElem?_eq_none_iff.1 hx)
  have e2:=List.drop_eq_nil_of_le (List.getElem?_eq_none_iff.1 hx)
  rw[e1] at hI
  rw[e1,e2,List.append_nil]
  have h0:bindE ts O=0:=errT_no hI
  have hK3:=hK0 h0
  clear hK hI hE hK0 e1 e2
  (repeat' (first|refine wk1 ?_|refine wk2 (fun hb hp=> ?_) (fun hb hp=> ?_)|fail))
  refine hK3 _ ?_
  (refine Wk.mk' (keysA rfl) ?_ ?_ ?_<;>repeat' (first|exact WkF.nil|exact WkB.nil|exact WkT.nil|exact Subs.nil|(refine WkF.cons rfl (Sub.refl _) ?_)|(refine WkF.cons rfl (Sub.of_eq rfl) ?_)|(refine WkF.cons rfl (Sub.row _ _) ?_)|(refine WkF.cons rfl (Sub.of_eq (rfl)) ?_)|(refine WkB.cons rfl rfl (Subs.refl _) ?_)|(refine WkB.cons rfl rfl (subs20 rfl) ?_)|(refine WkB.cons rfl rfl (Subs.of_eq rfl) ?_)|(refine WkT.cons rfl ?_)))
 |some x=>
  clear hK0
  have hil:i<O.length:=(List.getElem?_eq_some_iff.1 hx).1
  have hlt:decide ((i:Int)<(O.length:Int))=true:=decide_eq_true (by omega)
  have hlt':(i:Int)<(O.length:Int):=by omega
  have hix:(i:Int)+1≤9223372036854775807:=by omega
  have hxb:=hO x (List.mem_of_getElem? hx)
  have kb:=bindD_any (gs:=gs) (dcCols ts) hcl hco x hxb
  obtain⟨h1,h2⟩:=bind_same hu x hxb.ref
  have hxc:x.cs= [I x.op,I x.v.k,I x.v.n,S x.v.s,S x.s,S x.name,I x.n,.sl (x.l.map Ex.c)]:=by cases x;rfl
  rw[hxc] at kb
  have hti:((O.take i).map (fun x=>(bindM ts x).1)).length=i:=by rw[List.length_map,List.length_take];omega
  have hdr:O.drop i=x::O.drop (i+1):=by rw[←(List.getElem?_eq_some_iff.1 hx).2];exact List.drop_eq_getElem_cons hil
  have ge:(((O.take i).map (fun x=>(bindM ts x).1)++O.drop i).map Ex.c)[i]?=some [I x.op,I x.v.k,I x.v.n,S x.v.s,S x.s,S x.name,I x.n,.sl (x.l.map Ex.c)]:=by
   rw[List.getElem?_map,List.getElem?_append_right (by omega),hti,Nat.sub_self,hdr]
   exact congrArg some ((Ex.c_cs x).trans hxc)
  have k8: ∀e∈(((O.take i).map (fun x=>(bindM ts x).1)++O.drop i).map Ex.c),e.length=8:=map_len exl8 _
  have hel:(((O.take i).map (fun x=>(bindM ts x).1)++O.drop i).map Ex.c).length=O.length:=by rw[List.length_map,List.length_append,hti,List.length_drop];omega
  have hle: ∃l:List Ex,l.length=O.length∧(((O.take i).map (fun x=>(bindM ts x).1)++O.drop i).map Ex.c)=l.map Ex.c:=⟨_,by rw[List.length_append,hti,List.length_drop];omega,rfl⟩
  have hst:(((O.take i).map (fun x=>(bindM ts x).1)++O.drop i).map Ex.c).set i ((bindM ts x).1.cs)=(((O.take (i+1)).map (fun x=>(bindM ts x).1)++O.drop (i+1)).map Ex.c):=by
   rw[←Ex.c_cs,←List.map_set,List.set_append_right _ _ (by omega),hti,Nat.sub_self,hdr,List.set_cons_zero,takeA hx]
   simp only[List.map_append,List.append_assoc,List.map_cons,List.map_nil,List.cons_append,List.nil_append]
  have ho1:(0+((i:Int)).toNat)*8=i*8:=by simp
  have hp0:(0:Int)≤(i:Int):=by omega
  by_cases hf:(bindM ts x).2.2=0
  · have hI':=take_snocE (g:=fun x=>(bindM ts x).2.2) hI hx hf
    rw[h2 hf] at kb
    clear hE hI h1 h2 hle hti hdr hO hco hu
    have hec:(bindM ts x).1.cs= [I (bindM ts x).1.op,I (bindM ts x).1.v.k,I (bindM ts x).1.v.n,S (bindM ts x).1.v.s,S (bindM ts x).1.s,S (bindM ts x).1.name,I (bindM ts x).1.n,.sl ((bindM ts x).1.l.map Ex.c)]:=by cases(bindM ts x).1;rfl
    rw[hec] at kb hst
    generalize bindM ts x=r at*
    obtain⟨e,ty,f⟩:=r
    dsimp only at hf kb hst
    subst hf
    generalize (((O.take i).map (fun x=>(bindM ts x).1)++O.drop i).map Ex.c)=es at*
    have hil2:i<es.length:=by omega
    (repeat' (first|(refine LW.is ?_;first|(apply s_vr;exact rfl;apply v_indexBsh;exact rfl;exact rfl;exact hp0;exact hlt';exact ho1)|(apply s_vr;exact rfl;apply v_loadAR (es:=es) (k:=8) (i:=i);exact rfl;exact rfl;exact k8;exact rfl;exact ge;exact rfl)|(apply s_storeR (es:=es) (i:=i) (e:= [I e.op,I e.v.k,I e.v.n,S e.v.s,S e.s,S e.name,I e.n,.sl (e.l.map Ex.c)]);exact rfl;exact rfl;exact rfl;exact rfl;exact rfl;exact rfl;exact k8;exact rfl;exact hil2;exact rfl))|(refine DR.is ?_;first|(apply d_vr;exact rfl;apply v_indexBsh;exact rfl;exact rfl;exact hp0;exact hlt';exact ho1)|(apply d_vr;exact rfl;apply v_loadAR (es:=es) (k:=8) (i:=i);exact rfl;exact rfl;exact k8;exact rfl;exact ge;exact rfl)|(apply d_storeR (es:=es) (i:=i) (e:= [I e.op,I e.v.k,I e.v.n,S e.v.s,S e.s,S e.name,I e.n,.sl (e.l.map Ex.c)]);exact rfl;exact rfl;exact rfl;exact rfl;exact rfl;exact rfl;exact k8;exact rfl;exact hil2;exact rfl))|refine wk1 ?_|refine wk2 (fun hb hp=> ?_) (fun hb hp=> ?_)|fail))
    refine hK _ (i+1) hI' (by omega) ?_
    rw[←hst]
    (refine Wk.mk' (keysA rfl) ?_ ?_ ?_<;>repeat' (first|exact WkF.nil|exact WkB.nil|exact WkT.nil|exact Subs.nil|(refine WkF.cons rfl (Sub.refl _) ?_)|(refine WkF.cons rfl (Sub.of_eq rfl) ?_)|(refine WkF.cons rfl (Sub.row _ _) ?_)|(refine WkF.cons rfl (Sub.of_eq (rfl)) ?_)|(refine WkB.cons rfl rfl (Subs.refl _) ?_)|(refine WkB.cons rfl rfl (subs20 rfl) ?_)|(refine WkB.cons rfl rfl (Subs.of_eq rfl) ?_)|(refine WkT.cons rfl ?_)))
  · have hee:bindE ts O=(bindM ts x).2.2:=err_at hI hx hf
    rw[hee] at hE
    have hE2:=hE hf
    rw[←h1] at hf hE2
    clear hE hK hI h1 h2 hst hti hdr hO hco hu hee
    obtain⟨l,hl1,hl2⟩:=hle
    rw[hl2] at ge k8⊢
    generalize dcBind (dcCols ts) x=r at*
    obtain⟨e,ty,f⟩:=r
    dsimp only at hf kb hE2
    have q:(f !=0)=true:=by simpa using hf
    have hec:e.cs= [I e.op,I e.v.k,I e.v.n,S e.v.s,S e.s,S e.name,I e.n,.sl (e.l.map Ex.c)]:=by cases e;rfl
    rw[hec] at kb
    (repeat' (first|(apply s_callFnW [] (f:=31) (avs:= [aI f]) (caps:= []) (bxi:= []);exact rfl;exact hG;exact rfl;exact kn f;exact Subs.of_eq rfl;exact .nil;exact rfl;exact rfl;exact rfl;exact rfl)|(refine LW.is ?_;first|(apply s_vr;exact rfl;apply v_indexBsh;exact rfl;exact rfl;exact hp0;exact hlt';exact ho1)|(apply s_vr;exact rfl;apply v_loadAR (es:=l.map Ex.c) (k:=8) (i:=i);exact rfl;exact rfl;exact k8;exact rfl;exact ge;exact rfl))|(refine DR.is ?_;first|(apply d_vr;exact rfl;apply v_indexBsh;exact rfl;exact rfl;exact hp0;exact hlt';exact ho1)|(apply d_vr;exact rfl;apply v_loadAR (es:=l.map Ex.c) (k:=8) (i:=i);exact rfl;exact rfl;exact k8;exact rfl;exact ge;exact rfl))|refine wk1 ?_|refine wk2 (fun hb hp=> ?_) (fun hb hp=> ?_)|fail))
    refine hE2 _ l hl1 ?_
    (refine Wk.mk' (keysA rfl) ?_ ?_ ?_<;>repeat' (first|exact WkF.nil|exact WkB.nil|exact WkT.nil|exact Subs.nil|(refine WkF.cons rfl (Sub.refl _) ?_)|(refine WkF.cons rfl (Sub.of_eq rfl) ?_)|(refine WkF.cons rfl (Sub.row _ _) ?_)|(refine WkF.cons rfl (Sub.of_eq (rfl)) ?_)|(refine WkB.cons rfl rfl (Subs.refl _) ?_)|(refine WkB.cons rfl rfl (subs20 rfl) ?_)|(refine WkB.cons rfl rfl (Subs.of_eq rfl) ?_)|(refine WkT.cons rfl ?_)))
end Go.Proofs.YthcjohcakdnmmaaGreatDoor
namespace Go.Proofs.YthcjohcakdnmmaaGreatDoor
open Go.Abs
set_option maxRecDepth 100000
attribute [local irreducible] L LF Code.wp bodyPost Exit.then Exit.inBlock
set_option linter.unusedVariables false
set_option linter.unusedSimpArgs false
def refX(x:Str×Col):Ex:= .mk 2 nilV x.1 x.2.n 0 []
theorem refX_c(x:Str×Col):(refX x).c= [I 2,I 0,I 0,S [],S x.1,S x.2.n,I 0,.sl []]:=Ex.c_eq ..
def refSt(c:Cat)(s:Stm)(vd:IV)(cs:List (Str×Col))(F:List Ex)(i:Nat):St:=⟨[(419,aI (i:Int)),(418,aI ((cs.map colnC).length:Int)),(417,.iv (.sl (cs.map colnC))),(2,.ptr 2 0),(3,.ptr 3 0),(4,.ptr 4 0),(6,.fn 31 []),(17,.iv (.sl (cs.map colnC)))],[(2,⟨25,.l (c.c.map .iv)⟩),(3,⟨36,.l (stmA s (.iv (.sl (s.rows.map exRow))) (.iv (.sl (s.sets.map Ast.c))) (oAv 801 8 F) (.iv vd))⟩),(4,⟨36,.l stm0A⟩)] ++oBx 801 34 Ex.c F,[]⟩
set_option maxHeartbeats 16000000 in
theorem refL{gs:Globs}(c:Cat)(s:Stm)(vd:IV)(cs:List (Str×Col))(hcl:cs.length≤1000000)(hne:cs≠ []){w0:World}{E0:Env}(hG:Glob gs E0 w0){K:Act→World→Prop}{Q2:Exit→Act→World→Prop}
 (hK0: ∀st',Wk ⟨512,w0,E0,[2,3,4]⟩ st' ⟨[(2,.ptr 2 0),(3,.ptr 3 0),(4,.ptr 4 0),(6,.fn 31 []),(17,.iv (.sl (cs.map colnC)))],[(2,⟨25,.l (c.c.map .iv)⟩),(3,⟨36,.l (stmA s (.iv (.sl (s.rows.map exRow))) (.iv (.sl (s.sets.map Ast.c))) (.bsh 801 0 cs.length 8) (.iv vd))⟩),(4,⟨36,.l stm0A⟩),(801,⟨34,.r ((cs.map refX).map Ex.c).flatten 0⟩)],[]⟩→L ⟨512,w0,E0,[2,3,4]⟩ st' K):
 L ⟨512,w0,E0,[2,3,4]⟩ ⟨[(419,aI 0),(418,aI ((cs.map colnC).length:Int)),(417,.iv (.sl (cs.map colnC))),(2,.ptr 2 0),(3,.ptr 3 0),(4,.ptr 4 0),(6,.fn 31 []),(17,.iv (.sl (cs.map colnC)))],[(2,⟨25,.l (c.c.map .iv)⟩),(3,⟨36,.l (stmA s (.iv (.sl (s.rows.map exRow))) (.iv (.sl (s.sets.map Ast.c))) .nils (.iv vd))⟩),(4,⟨36,.l stm0A⟩)],[]⟩ ((Code.loop (nav [1,1,1,1,1,1,1,1,1,1,1,1,0,1,0,1,1,1,1,1,1,1,0,1,1,1,1,0,1,0,1,0,0] ((Tryz.f7.body).getD .skip))).wp Tryz.prog (Exit.inBlock 19 (Exit.then K Q2))):=by
 refine L.loopP (ι:=Nat×List Ex) (fun i=>refSt c s vd cs i.2 i.1) (fun i=>cs.length - i.1) (fun i=>(cs.take i.1).map refX=i.2) (i0:=(0,[])) ?_ rfl ?_
 · unfold refSt
   (refine Wk.mk' (keysA rfl) ?_ ?_ ?_<;>repeat' (first|exact WkF.nil|exact WkB.nil|exact WkT.nil|exact Subs.nil|(refine WkF.cons rfl (Sub.refl _) ?_)|(refine WkF.cons rfl (Sub.of_eq rfl) ?_)|(refine WkF.cons rfl (Sub.row _ _) ?_)|(refine WkF.cons rfl (Sub.of_eq (rfl)) ?_)|(refine WkB.cons rfl rfl (Subs.refl _) ?_)|(refine WkB.cons rfl rfl (subs20 rfl) ?_)|(refine WkB.cons rfl rfl (Subs.of_eq rfl) ?_)|(refine WkT.cons rfl ?_)))
 rintro ⟨i,F⟩ hI K2 hK
 dsimp only at hI hK
 unfold refSt at hK⊢
 cases hx:cs[i]? with
 |none=>
  have hlt:=ltF (l:=cs.map colnC) (getFN hx)
  rw[List.take_of_length_le (List.getElem?_eq_none_iff.1 hx)] at hI
  clear hK
  cases F with
  |nil=>exact absurd (List.map_eq_nil_iff.1 hI) hne
  |cons y t=>
   rw[hI] at hK0
   have hFl:(y::t).length=cs.length:=by rw[←hI,List.length_map]
   rw[←hFl] at hK0
   clear hFl hI
   dsimp only[oAv,oBx,List.cons_append,List.nil_append]
   (repeat' (first|refine wk1 ?_|refine wk2 (fun hb hp=> ?_) (fun hb hp=> ?_)|fail))
   refine hK0 _ ?_
   (refine Wk.mk' (keysA rfl) ?_ ?_ ?_<;>repeat' (first|exact WkF.nil|exact WkB.nil|exact WkT.nil|exact Subs.nil|(refine WkF.cons rfl (Sub.refl _) ?_)|(refine WkF.cons rfl (Sub.of_eq rfl) ?_)|(refine WkF.cons rfl (Sub.row _ _) ?_)|(refine WkF.cons rfl (Sub.of_eq (rfl)) ?_)|(refine WkB.cons rfl rfl (Subs.refl _) ?_)|(refine WkB.cons rfl rfl (subs20 rfl) ?_)|(refine WkB.cons rfl rfl (Subs.of_eq rfl) ?_)|(refine WkT.cons rfl ?_)))
 |some x=>
  clear hK0
  have hlt:=ltT (l:=cs.map colnC) (getF (f:=colnC) hx)
  have hlt':=ltN hx
  have g1:(cs.map colnC)[((i:Nat):Int).toNat]?=some [S x.1,S x.2.n,I x.2.t,.im (.bool x.2.m)]:=by rw[Int.toNat_natCast,List.getElem?_map,hx];rfl
  have hst:(cs.take (i+1)).map refX=F++ [refX x]:=by rw[takeA hx,List.map_append,hI];rfl
  have hil:i<cs.length:=(List.getElem?_eq_some_iff.1 hx).1
  have hFl:F.length=i:=by rw[←hI,List.length_map,List.length_take];omega
  have hxc:=refX_c x
  cases F with
  |nil=>
   dsimp only[oAv,oBx,List.cons_append,List.nil_append]
   clear hI
   (repeat' (first|(refine LW.is ?_;first|(apply s_nilR 801 (news:= [[I 2,I 0,I 0,S [],S x.1,S x.2.n,I 0,.sl []]]);exact rfl;exact rfl;exact rfl;exact oneOf rfl;exact List.cons_ne_nil _ _;exact(by simp[maxLen]);exact(by simp);exact rfl))|(refine DR.is ?_;first|(apply d_nilR 801 (news:= [[I 2,I 0,I 0,S [],S x.1,S x.2.n,I 0,.sl []]]);exact rfl;exact rfl;exact rfl;exact oneOf rfl;exact List.cons_ne_nil _ _;exact(by simp[maxLen]);exact(by simp);exact rfl))|refine wk1 ?_|refine wk2 (fun hb hp=> ?_) (fun hb hp=> ?_)|fail))
   rw[show [[I 2,I 0,I 0,S [],S x.1,S x.2.n,I 0,.sl []]] = [refX x].map Ex.c by rw[List.map_cons,hxc];rfl]
   refine hK _ (i+1,[refX x]) hst (by dsimp only;omega) ?_
   (refine Wk.mk' (keysA rfl) ?_ ?_ ?_<;>repeat' (first|exact WkF.nil|exact WkB.nil|exact WkT.nil|exact Subs.nil|(refine WkF.cons rfl (Sub.refl _) ?_)|(refine WkF.cons rfl (Sub.of_eq rfl) ?_)|(refine WkF.cons rfl (Sub.row _ _) ?_)|(refine WkF.cons rfl (Sub.of_eq (rfl)) ?_)|(refine WkB.cons rfl rfl (Subs.refl _) ?_)|(refine WkB.cons rfl rfl (subs20 rfl) ?_)|(refine WkB.cons rfl rfl (Subs.of_eq rfl) ?_)|(refine WkT.cons rfl ?_)))
  |cons y t=>
   have hyt:(y::t).length=i:=hFl
   dsimp only[oAv,oBx,List.cons_append,List.nil_append]
   clear hI
   (repeat' (first|(refine LW.is ?_;first|(apply s_appendH 805 (es:=(y::t).map Ex.c) (n:=t.length+1) (news:= [[I 2,I 0,I 0,S [],S x.1,S x.2.n,I 0,.sl []]]) (er:=(y::t++ [refX x]).map Ex.c) (nr:=(y::t++ [refX x]).length);exact rfl;exact rfl;exact rfl;exact rfl;exact .inl (flatK_ne exl8 (by decide) y t);exact map_len exl8 _;exact oneOf rfl;exact(by simp);exact List.cons_ne_nil _ _;exact(by simp only[maxLen,List.length_cons,List.length_nil] at hyt⊢;omega);exact(by simp only[List.length_cons,List.length_nil] at hyt⊢;omega);exact rfl;exact(by rw[←hxc];exact take_more (y::t) _ rfl);exact(by simp)))|(refine DR.is ?_;first|(apply d_appendH 805 (es:=(y::t).map Ex.c) (n:=t.length+1) (news:= [[I 2,I 0,I 0,S [],S x.1,S x.2.n,I 0,.sl []]]) (er:=(y::t++ [refX x]).map Ex.c) (nr:=(y::t++ [refX x]).length);exact rfl;exact rfl;exact rfl;exact rfl;exact .inl (flatK_ne exl8 (by decide) y t);exact map_len exl8 _;exact oneOf rfl;exact(by simp);exact List.cons_ne_nil _ _;exact(by simp only[maxLen,List.length_cons,List.length_nil] at hyt⊢;omega);exact(by simp only[List.length_cons,List.length_nil] at hyt⊢;omega);exact rfl;exact(by rw[←hxc];exact take_more (y::t) _ rfl);exact(by simp)))|refine wk1 ?_|refine wk2 (fun hb hp=> ?_) (fun hb hp=> ?_)|fail))
   refine L.onlyS [419,418,417,2,3,4,6,17] [2,3,4,805] rfl ?_
   refine L.swap [(801,805)] rfl rfl rfl rfl ?_
   refine hK _ (i+1,y::t++ [refX x]) hst (by dsimp only;omega) ?_
   (refine Wk.mk' (keysA rfl) ?_ ?_ ?_<;>repeat' (first|exact WkF.nil|exact WkB.nil|exact WkT.nil|exact Subs.nil|(refine WkF.cons rfl (Sub.refl _) ?_)|(refine WkF.cons rfl (Sub.of_eq rfl) ?_)|(refine WkF.cons rfl (Sub.row _ _) ?_)|(refine WkF.cons rfl (Sub.of_eq (rfl)) ?_)|(refine WkB.cons rfl rfl (Subs.refl _) ?_)|(refine WkB.cons rfl rfl (subs20 rfl) ?_)|(refine WkB.cons rfl rfl (Subs.of_eq rfl) ?_)|(refine WkT.cons rfl ?_)))
end Go.Proofs.YthcjohcakdnmmaaGreatDoor
