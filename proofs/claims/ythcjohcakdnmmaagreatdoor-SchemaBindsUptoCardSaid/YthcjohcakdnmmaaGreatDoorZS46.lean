/- Several texts in one, each with its own sentence ahead of it. Conditions: each one says its own. -/
import Derived.Test.YthcjohcakdnmmaaGreatDoorZS25
import Derived.Test.YthcjohcakdnmmaaGreatDoorZS34
import Derived.Test.YthcjohcakdnmmaaGreatDoorZS37
import Derived.Test.YthcjohcakdnmmaaGreatDoorZS38
import Derived.Test.YthcjohcakdnmmaaGreatDoorZS39
import Derived.Test.YthcjohcakdnmmaaGreatDoorZS42
import Derived.Test.YthcjohcakdnmmaaGreatDoorZS43
import Derived.Test.YthcjohcakdnmmaaGreatDoorZS44
import Derived.Test.YthcjohcakdnmmaaGreatDoorZS45
set_option linter.all false
namespace Go.Proofs.YthcjohcakdnmmaaGreatDoor
open Go.Abs
set_option maxRecDepth 100000
attribute [local irreducible] L LF Code.wp bodyPost Exit.then Exit.inBlock
set_option linter.unusedVariables false
set_option linter.unusedSimpArgs false
theorem lies_all{F:List Rw}{vs:List IV}{rs:List (List Ex)}(h:Lies F vs rs): ∀r∈F,∃es:List (List IV),es.flatten=r.xs∧(∀e∈es,e.length=r.k)∧es.length=r.n:=by
 induction h with
 |nil=>intro r hr;cases hr
 |none h ih=>exact ih
 | @some F vs rs x r h ht hn hk hxs hne ih=>
   intro r' hr'
   rcases List.mem_cons.1 hr' with rfl|hr'
   · exact⟨x.map Ex.c,hxs.symm,by rw[hk];exact map_len exl8 _,by rw[hn,List.length_map]⟩
   · exact ih r' hr'
theorem LF.pubI{c:Ctx}{F:List Rw}{st:St}{X:Act→World→Prop}(K j:Nat){ty:TypeId}{cs:List AV}{us:List IV}{rs:List (List Ex)}(hl:Lies F us rs)(hK:st.bx.lookup K=some ⟨ty,.l cs⟩)(hj:cs[j]?=some (.iv (.sl (us.map oneC))))(htk:st.tk= [])
 (h:L c ⟨st.fr,(K,⟨ty,.l (cs.set j (.iv (.sl (rs.map exRow))))⟩)::st.bx,st.tk⟩ X):LF c F st X:=by
 refine LF.pubB K j hK hj htk (lies_all hl) (by rw[List.length_map,List.length_map,hl.len]) (fun i e e' he he'=> ?_) h
 rw[List.getElem?_map] at he he'
 cases hv:us[i]? with
 |none=>rw[hv] at he;cases he
 |some v=>
  rw[hv] at he
  cases hx:rs[i]? with
  |none=>rw[hx] at he';cases he'
  |some x=>
   rw[hx] at he'
   cases he;cases he'
   refine⟨rfl,fun p y y' hy hy'=> ?_⟩
   cases p with
   |succ p=>simp[oneC] at hy
   |zero=>
    simp only[oneC,exRow,List.getElem?_cons_zero,Option.some.injEq] at hy hy'
    subst hy;subst hy'
    rcases lies_at hl hx hv with⟨rfl,rfl⟩|⟨r,F1,F2,rfl,rfl,h1,h2,h3,h4,h5⟩
    · exact .inl rfl
    · exact .inr ⟨r,by simp,rfl,x.map Ex.c,rfl,h4.symm,by rw[h3];exact map_len exl8 _,by rw[h2,List.length_map]⟩
theorem setsL0(c:Cat)(s:Stm)(t:Tab)(cols:List (List IV)){w0:World}{E0:Env}{Q2:Exit→Act→World→Prop}
 (hK0: ∀st',Wk ⟨512,w0,E0,[]⟩ st' ⟨[(2,.ptr 2 0),(3,.ptr 3 0),(4,.ptr 4 0),(6,.fn 31 []),(17,.iv (.sl cols))],[(2,⟨25,.l (c.c.map .iv)⟩),(3,⟨36,.l (stmA s (.iv (.sl (s.rows.map exRow))) .nils (.iv (.sl (s.out.map Ex.c))) (.iv (.sl (s.ord.map Ex.c))))⟩),(4,⟨36,.l stm0A⟩)],[]⟩→L ⟨512,w0,E0,[]⟩ st' (Q2 .normal)):
 L ⟨512,w0,E0,[]⟩ ⟨[(196,aI 0),(195,aI 0),(194,.nils),(2,.ptr 2 0),(3,.ptr 3 0),(4,.ptr 4 0),(6,.fn 31 []),(17,.iv (.sl cols))],[(2,⟨25,.l (c.c.map .iv)⟩),(3,⟨36,.l (stmA s (.iv (.sl (s.rows.map exRow))) .nils (.iv (.sl (s.out.map Ex.c))) (.iv (.sl (s.ord.map Ex.c))))⟩),(4,⟨36,.l stm0A⟩)],[]⟩ ((Code.loop (nav [1,1,1,1,1,1,1,1,1,1,1,1,0,1,0,1,1,1,1,1,1,1,1,1,1,1,0,0] ((Tryz.f7.body).getD .skip))).wp Tryz.prog (Exit.inBlock 11 Q2)):=by
 refine L.loopP (ι:=Unit) (fun _=>⟨[(196,aI 0),(195,aI 0),(194,.nils),(2,.ptr 2 0),(3,.ptr 3 0),(4,.ptr 4 0),(6,.fn 31 []),(17,.iv (.sl cols))],[(2,⟨25,.l (c.c.map .iv)⟩),(3,⟨36,.l (stmA s (.iv (.sl (s.rows.map exRow))) .nils (.iv (.sl (s.out.map Ex.c))) (.iv (.sl (s.ord.map Ex.c))))⟩),(4,⟨36,.l stm0A⟩)],[]⟩) (fun _=>0) (fun _=>True) (i0:=()) ?_ trivial ?_
 · (refine Wk.mk' (by intro id h;cases h) ?_ ?_ ?_<;>repeat' (first|exact WkF.nil|exact WkB.nil|exact WkT.nil|exact Subs.nil|(refine WkF.cons rfl (Sub.refl _) ?_)|(refine WkF.cons rfl (Sub.of_eq rfl) ?_)|(refine WkF.cons rfl (Sub.row _ _) ?_)|(refine WkF.cons rfl (Sub.of_eq (rfl)) ?_)|(refine WkB.cons rfl rfl (Subs.refl _) ?_)|(refine WkB.cons rfl rfl (subs20 rfl) ?_)|(refine WkB.cons rfl rfl (Subs.of_eq rfl) ?_)|(refine WkT.cons rfl ?_)))
 intro _ _ K2 hK
 clear hK
 (repeat' (first|refine wk1 ?_|refine wk2 (fun hb hp=> ?_) (fun hb hp=> ?_)|fail))
 refine hK0 _ ?_
 (refine Wk.mk' (by intro id h;cases h) ?_ ?_ ?_<;>repeat' (first|exact WkF.nil|exact WkB.nil|exact WkT.nil|exact Subs.nil|(refine WkF.cons rfl (Sub.refl _) ?_)|(refine WkF.cons rfl (Sub.of_eq rfl) ?_)|(refine WkF.cons rfl (Sub.row _ _) ?_)|(refine WkF.cons rfl (Sub.of_eq (rfl)) ?_)|(refine WkB.cons rfl rfl (Subs.refl _) ?_)|(refine WkB.cons rfl rfl (subs20 rfl) ?_)|(refine WkB.cons rfl rfl (Subs.of_eq rfl) ?_)|(refine WkT.cons rfl ?_)))
set_option maxHeartbeats 32000000 in
theorem k4d{gs:Globs}(c:Cat)(s:Stm)(t:Tab)(us:List IV)(vS:IV)(GS Fi:List Rw)(hl:Lies Fi us s.rows)(hS:OwnL 56 9 vS GS (s.sets.map Ast.c))(hu:Uniq t)(hco:ColsOk (dcCols [t]))(hcl:(dcCols [t]).length≤1000000)(htl:t.cols.length≤4)(hb: ∀x∈s.sets,x.e.BS)(hsl:s.sets.length*120≤140737488355328)(hw:s.wh.op=0∨s.wh.BS){w0:World}{E0:Env}(hG:Glob gs E0 w0)(R:Stm×Int)
 (hR1:setsE s t≠0→R=(nilSt,setsE s t)) (hR2:setsE s t=0→R=tailM [t] {s with sets:=s.sets.zipIdx.map (fun p=>(setM t s.sets p).1)}):
 LF ⟨512,w0,E0,[]⟩ (GS++Fi) ⟨[(2,.ptr 2 0),(3,.ptr 3 0),(4,.ptr 4 0),(6,.fn 31 []),(15,.ptr 15 0),(17,.iv (.sl ((dcCols [t]).map colnC)))],[(2,⟨25,.l (c.c.map .iv)⟩),(3,⟨36,.l (stmA s (.iv (.sl (us.map oneC))) (.iv vS) (.iv (.sl (s.out.map Ex.c))) (.iv (.sl (s.ord.map Ex.c))))⟩),(4,⟨36,.l stm0A⟩),(15,⟨47,.l [aS t.n,.iv (.sl (t.cols.map Col.c))]⟩)],[]⟩ (Code.wp Tryz.prog (nav [1,1,1,1,1,1,1,1,1,1,1,1,0,1,0,1,1,1,1,1,1,1,1,1,1] ((Tryz.f7.body).getD .skip)) (Exit.inBlock 6 (Exit.then (Code.wp Tryz.prog (dropSeq 13 ((Tryz.f7.body).getD .skip)) (bodyPost Tryz.prog Tryz.f7 (Post ⟨512,w0,E0,[]⟩ [] [] (.tup [.agg (R.1.cs.map .iv),.iv (I R.2)])))) (bodyPost Tryz.prog Tryz.f7 (Post ⟨512,w0,E0,[]⟩ [] [] (.tup [.agg (R.1.cs.map .iv),.iv (I R.2)])))))):=by
 have hut: ∀t'∈ [t],Uniq t':=fun t' ht=>by rw[List.mem_singleton.1 ht];exact hu
 rcases hS with⟨h0,rfl,rfl⟩|⟨r,rfl,rfl,h1,h2,h3,h4,h5⟩
 · have ho:s.sets= []:=List.map_eq_nil_iff.1 h0
   have hR:=hR2 (by unfold setsE;rw[ho];rfl)
   clear hR1 hR2
   rw[List.nil_append]
   refine LF.pubI 3 5 (us:=us) (rs:=s.rows) hl rfl rfl rfl ?_
   refine L.wk (st':=⟨[(2,.ptr 2 0),(3,.ptr 3 0),(4,.ptr 4 0),(6,.fn 31 []),(17,.iv (.sl ((dcCols [t]).map colnC)))],[(2,⟨25,.l (c.c.map .iv)⟩),(3,⟨36,.l (stmA s (.iv (.sl (s.rows.map exRow))) .nils (.iv (.sl (s.out.map Ex.c))) (.iv (.sl (s.ord.map Ex.c))))⟩),(4,⟨36,.l stm0A⟩)],[]⟩) ?_ ?_
   · (refine Wk.mk' (by intro id h;cases h) ?_ ?_ ?_<;>repeat' (first|exact WkF.nil|exact WkB.nil|exact WkT.nil|exact Subs.nil|(refine WkF.cons rfl (Sub.refl _) ?_)|(refine WkF.cons rfl (Sub.of_eq rfl) ?_)|(refine WkF.cons rfl nilI_out ?_)|(refine WkF.cons rfl (Sub.row _ _) ?_)|(refine WkB.cons rfl rfl (Subs.refl _) ?_)|(refine WkB.cons rfl rfl (subs20 rfl) ?_)|(refine WkB.cons rfl rfl (Subs.of_eq rfl) ?_)|(refine WkB.cons rfl rfl ?_ ?_)|(refine Subs.cons (Sub.refl _) ?_)|(refine Subs.cons (Sub.of_eq rfl) ?_)|(refine Subs.cons nilI_out ?_)|(refine Subs.cons (nilI_out.trans (Sub.nils)) ?_)|(refine Subs.cons Sub.nils ?_)|(refine WkT.cons rfl ?_)))
   (repeat' (first|refine wk1 ?_|refine wk2 (fun hb hp=> ?_) (fun hb hp=> ?_)|fail))
   refine L.wk ?_ (setsL0 c s t ((dcCols [t]).map colnC) (fun st' hw'=> ?_))
   · (refine Wk.mk' (by intro id h;cases h) ?_ ?_ ?_<;>repeat' (first|exact WkF.nil|exact WkB.nil|exact WkT.nil|exact Subs.nil|(refine WkF.cons rfl (Sub.refl _) ?_)|(refine WkF.cons rfl (Sub.of_eq rfl) ?_)|(refine WkF.cons rfl nilI_out ?_)|(refine WkF.cons rfl (Sub.row _ _) ?_)|(refine WkB.cons rfl rfl (Subs.refl _) ?_)|(refine WkB.cons rfl rfl (subs20 rfl) ?_)|(refine WkB.cons rfl rfl (Subs.of_eq rfl) ?_)|(refine WkB.cons rfl rfl ?_ ?_)|(refine Subs.cons (Sub.refl _) ?_)|(refine Subs.cons (Sub.of_eq rfl) ?_)|(refine Subs.cons nilI_out ?_)|(refine Subs.cons (nilI_out.trans (Sub.nils)) ?_)|(refine Subs.cons Sub.nils ?_)|(refine WkT.cons rfl ?_)))
   refine L.wk hw' ?_
   refine L.inN (L.thenN ?_)
   have ht:=tailW c {s with sets:=s.sets.zipIdx.map (fun p=>(setM t s.sets p).1)} [t] hcl hco hut hw hG
   rw[←hR] at ht
   refine L.wk ?_ ht
   rw[ho]
   (refine Wk.mk' (by intro id h;cases h) ?_ ?_ ?_<;>repeat' (first|exact WkF.nil|exact WkB.nil|exact WkT.nil|exact Subs.nil|(refine WkF.cons rfl (Sub.refl _) ?_)|(refine WkF.cons rfl (Sub.of_eq rfl) ?_)|(refine WkF.cons rfl nilI_out ?_)|(refine WkF.cons rfl (Sub.row _ _) ?_)|(refine WkB.cons rfl rfl (Subs.refl _) ?_)|(refine WkB.cons rfl rfl (subs20 rfl) ?_)|(refine WkB.cons rfl rfl (Subs.of_eq rfl) ?_)|(refine WkB.cons rfl rfl ?_ ?_)|(refine Subs.cons (Sub.refl _) ?_)|(refine Subs.cons (Sub.of_eq rfl) ?_)|(refine Subs.cons nilI_out ?_)|(refine Subs.cons (nilI_out.trans (Sub.nils)) ?_)|(refine Subs.cons Sub.nils ?_)|(refine WkT.cons rfl ?_)))
 · obtain⟨t0,b,n,cap,k,xs⟩:=r
   dsimp only at h1 h2 h3 h4
   subst h1 h2 h3 h4
   have hSp:0<(s.sets.map Ast.c).length:=List.length_pos_iff.2 h5
   refine LF.openB 3 6 804 (F1:= []) (F2:=Fi) rfl rfl rfl rfl (Nat.succ_pos 8) hSp rfl ?_
   rw[List.nil_append]
   refine LF.pubI 3 5 (us:=us) (rs:=s.rows) hl rfl rfl rfl ?_
   dsimp only
   have hdl:(s.sets.map Ast.c).length=s.sets.length:=List.length_map _
   rw[hdl]
   refine L.wk (st':=⟨[(2,.ptr 2 0),(3,.ptr 3 0),(4,.ptr 4 0),(6,.fn 31 []),(15,.ptr 15 0),(17,.iv (.sl ((dcCols [t]).map colnC)))],[(2,⟨25,.l (c.c.map .iv)⟩),(3,⟨36,.l (stmA s (.iv (.sl (s.rows.map exRow))) (.bsh 804 0 s.sets.length 9) (.iv (.sl (s.out.map Ex.c))) (.iv (.sl (s.ord.map Ex.c))))⟩),(4,⟨36,.l stm0A⟩),(15,⟨47,.l [aS t.n,.iv (.sl (t.cols.map Col.c))]⟩),(804,⟨56,.r (s.sets.map Ast.c).flatten 0⟩)],[]⟩) ?_ ?_
   · (refine Wk.mk' (by intro id h;cases h) ?_ ?_ ?_<;>repeat' (first|exact WkF.nil|exact WkB.nil|exact WkT.nil|exact Subs.nil|(refine WkF.cons rfl (Sub.refl _) ?_)|(refine WkF.cons rfl (Sub.of_eq rfl) ?_)|(refine WkF.cons rfl nilI_out ?_)|(refine WkF.cons rfl (Sub.row _ _) ?_)|(refine WkB.cons rfl rfl (Subs.refl _) ?_)|(refine WkB.cons rfl rfl (subs20 rfl) ?_)|(refine WkB.cons rfl rfl (Subs.of_eq rfl) ?_)|(refine WkB.cons rfl rfl ?_ ?_)|(refine Subs.cons (Sub.refl _) ?_)|(refine Subs.cons (Sub.of_eq rfl) ?_)|(refine Subs.cons nilI_out ?_)|(refine Subs.cons (nilI_out.trans (Sub.nils)) ?_)|(refine Subs.cons Sub.nils ?_)|(refine WkT.cons rfl ?_)))
   (repeat' (first|refine wk1 ?_|refine wk2 (fun hb hp=> ?_) (fun hb hp=> ?_)|fail))
   refine L.wk ?_ (setsL c s t hu hco hcl htl hb hsl hG (fun he st' hw'=> ?_) (fun he st' hw'=> ?_))
   · (refine Wk.mk' (by intro id h;cases h) ?_ ?_ ?_<;>repeat' (first|exact WkF.nil|exact WkB.nil|exact WkT.nil|exact Subs.nil|(refine WkF.cons rfl (Sub.refl _) ?_)|(refine WkF.cons rfl (Sub.of_eq rfl) ?_)|(refine WkF.cons rfl nilI_out ?_)|(refine WkF.cons rfl (Sub.row _ _) ?_)|(refine WkB.cons rfl rfl (Subs.refl _) ?_)|(refine WkB.cons rfl rfl (subs20 rfl) ?_)|(refine WkB.cons rfl rfl (Subs.of_eq rfl) ?_)|(refine WkB.cons rfl rfl ?_ ?_)|(refine Subs.cons (Sub.refl _) ?_)|(refine Subs.cons (Sub.of_eq rfl) ?_)|(refine Subs.cons nilI_out ?_)|(refine Subs.cons (nilI_out.trans (Sub.nils)) ?_)|(refine Subs.cons Sub.nils ?_)|(refine WkT.cons rfl ?_)))
   · have hR:=hR1 he
     rw[hR]
     refine L.wk hw' ?_
     clear hR hR1 hR2 hw'
     repeat (first|refine L.inR ?_|refine L.thenR ?_)
     unfold noSt
     refine wkf ?_
     all_goals rfl
   · have hR:=hR2 he
     clear hR1 hR2
     refine L.wk hw' ?_
     refine L.inN (L.thenN ?_)
     refine LF.start ?_
     rw[hdl] at hSp
     refine LF.pubO 3 6 804 (t:=56) (es:=(s.sets.zipIdx.map (fun p=>(setM t s.sets p).1)).map Ast.c) (k:=9) (n:=s.sets.length) (m:=0) rfl rfl rfl rfl (by decide) (map_len astl _) (by decide) (by rw[List.length_map,List.length_map,List.length_zipIdx]) hSp rfl ?_
     refine LF.drop ?_
     have ht:=tailW c {s with sets:=s.sets.zipIdx.map (fun p=>(setM t s.sets p).1)} [t] hcl hco hut hw hG
     rw[←hR] at ht
     refine L.wk ?_ ht
     (refine Wk.mk' (by intro id h;cases h) ?_ ?_ ?_<;>repeat' (first|exact WkF.nil|exact WkB.nil|exact WkT.nil|exact Subs.nil|(refine WkF.cons rfl (Sub.refl _) ?_)|(refine WkF.cons rfl (Sub.of_eq rfl) ?_)|(refine WkF.cons rfl nilI_out ?_)|(refine WkF.cons rfl (Sub.row _ _) ?_)|(refine WkB.cons rfl rfl (Subs.refl _) ?_)|(refine WkB.cons rfl rfl (subs20 rfl) ?_)|(refine WkB.cons rfl rfl (Subs.of_eq rfl) ?_)|(refine WkB.cons rfl rfl ?_ ?_)|(refine Subs.cons (Sub.refl _) ?_)|(refine Subs.cons (Sub.of_eq rfl) ?_)|(refine Subs.cons nilI_out ?_)|(refine Subs.cons (nilI_out.trans (Sub.nils)) ?_)|(refine Subs.cons Sub.nils ?_)|(refine WkT.cons rfl ?_)))
end Go.Proofs.YthcjohcakdnmmaaGreatDoor
namespace Go.Proofs.YthcjohcakdnmmaaGreatDoor
open Go.Abs
set_option maxRecDepth 100000
attribute [local irreducible] L LF Code.wp bodyPost Exit.then Exit.inBlock
set_option linter.unusedVariables false
set_option linter.unusedSimpArgs false
set_option maxHeartbeats 64000000 in
theorem bindK4_any{gs:Globs}(m:Int)(hgm:maxG m∈gs)(c:Cat)(s:Stm)(hB:BdOk c s)(hf:formM c s=true)(hk4:4≤s.kind)(hk6:s.kind≤6):CallG gs Tryz.prog 7 [.agg (c.c.map .iv),.agg (s.cs.map .iv)] [] [] [] (.tup [.agg ((bindStM c s).1.cs.map .iv),.iv (I (bindStM c s).2)]):=by
 have hB':=hB
 obtain⟨hcat,hok,hcp,hvs⟩:=hB'
 have hgc:=form_good' hf
 have hgf:=goodCat_find hgc
 have hbs:=form_bs hf
 have kt:=tableOf_any c s.table hcat.t
 have kcol:=columns_any (gs:=gs) [(findT c s.table).1] (by simp) (by have:=hgf.2.2 s.table;simp[dcCols];omega)
 have hbm:bindStM c s=if(preM c s).2≠0 then(nilSt,(preM c s).2) else((preM c s).1,0):=by unfold bindStM;rw[hf];rfl
 have kn: ∀e:Int,CallG gs Tryz.prog 31 ([aI e] ++ []) [] [] [] (.tup [.agg (nilSt.cs.map .iv),.iv (I e)]):=fun e=>no_any e
 refine CallG.intro (code:=((Tryz.f7.body).getD .skip)) _ Tryz.func7 rfl Tryz.ntmps7 rfl (fun w0 E0 hG=> ?_)
 refine bindA m hgm c s hB hG ?_
 rw[hf]
 clear hB
 have hpre:preM c s=if(findT c s.table).2 then changeM s (findT c s.table).1 else(s,3):=by
  unfold preM
  rw[if_neg (by omega),if_neg (by omega),if_neg (by omega),if_neg (by omega)]
 rw[hpre] at hbm
 clear hpre
 generalize bindStM c s=R at*
 (repeat' (first|refine wk1 ?_|refine wk2 (fun hb hp=> ?_) (fun hb hp=> ?_)|fail))
 refine s_callF rfl hG (copyStmt_own s hcp) (Subs.of_eq rfl) (fun vs F h=>copyR_plain h) (fun vs F hR=> ?_)
 obtain⟨vR,vS,vO,vD,GR,GS,GO,GD,hR,hS,hO,hD,rfl,rfl⟩:=hR
 obtain⟨us,Go,Fi,hL,hl,rfl⟩:=hR
 refine LF.pubL 126 17 (F1:= []) hD (map_len exl8 _) (by simp only[List.append_assoc,List.nil_append];rfl) rfl rfl rfl ?_
 refine LF.pubL 126 8 (F1:= []) hO (map_len exl8 _) rfl rfl rfl rfl ?_
 rw[List.nil_append]
 refine LF.pubL 126 5 (F1:=GS) (F2:=Fi) hL (map_len (f:=oneC) (fun _=>rfl) us) rfl rfl rfl rfl ?_
 refine LF.wk (st':=⟨[(126,.agg (stmA s (.iv (.sl (us.map oneC))) (.iv vS) (.iv (.sl (s.out.map Ex.c))) (.iv (.sl (s.ord.map Ex.c))))),(2,.ptr 2 0),(3,.ptr 3 0),(4,.ptr 4 0),(6,.fn 31 []),(5,aI 0)],[(2,⟨25,.l (c.c.map .iv)⟩),(3,⟨36,.l (stmA s (.iv (.sl (s.rows.map exRow))) (.iv (.sl (s.sets.map Ast.c))) (.iv (.sl (s.out.map Ex.c))) (.iv (.sl (s.ord.map Ex.c))))⟩),(4,⟨36,.l stm0A⟩)],[]⟩) ?_ ?_
 · (refine Wk.mk' (by intro id h;cases h) ?_ ?_ ?_<;>repeat' (first|exact WkF.nil|exact WkB.nil|exact WkT.nil|exact Subs.nil|(refine WkF.cons rfl (Sub.refl _) ?_)|(refine WkF.cons rfl (Sub.of_eq rfl) ?_)|(refine WkF.cons rfl nilI_out ?_)|(refine WkF.cons rfl (Sub.row _ _) ?_)|(refine WkB.cons rfl rfl (Subs.refl _) ?_)|(refine WkB.cons rfl rfl (subs20 rfl) ?_)|(refine WkB.cons rfl rfl (Subs.of_eq rfl) ?_)|(refine WkB.cons rfl rfl ?_ ?_)|(refine Subs.cons (Sub.refl _) ?_)|(refine Subs.cons (Sub.of_eq rfl) ?_)|(refine Subs.cons nilI_out ?_)|(refine Subs.cons (nilI_out.trans (Sub.nils)) ?_)|(refine Subs.cons Sub.nils ?_)|(refine WkT.cons rfl ?_)))
 have hG0:=hG
 clear hG
 refine LF.rebaseG hG0 rfl rfl (fun c1 hins1 hk1 hF1 ho1 hG=> ?_)
 obtain⟨nt1,w1,E1,ins1⟩:=c1
 obtain rfl:=hk1.nt
 obtain rfl:=hins1
 refine LW.out ?_
 have q1:(s.kind==1)=false:=by simp;omega
 have q2:(s.kind==2)=false:=by simp;omega
 have q3:(s.kind==3)=false:=by simp;omega
 have q7:(s.kind==7)=false:=by simp;omega
 clear hO hD hL
 cases hi:(findT c s.table).2 with
 |false=>
  rw[hi] at kt hbm
  rw[show R=(nilSt,3) by rw[hbm];rfl]
  clear hbm hl hS
  (repeat' (first|(apply s_callFnW [] (f:=31) (avs:= [aI 3]) (caps:= []) (bxi:= []);exact rfl;exact hG;exact rfl;exact kn 3;exact Subs.of_eq rfl;exact .nil;exact rfl;exact rfl;exact rfl;exact rfl)|refine wk1 ?_|refine wk2 (fun hb hp=> ?_) (fun hb hp=> ?_)|fail))
  refine LF.back hk1 hF1 ho1 ?_
  refine LF.drop ?_
  refine wkf ?_
  all_goals rfl
 |true=>
 rw[hi] at kt hbm
 rw[if_pos rfl] at hbm
 have hgt:=goodCat_tab hgc (findT_someU hi).1
 have hgu:=good_uniq hgt
 have hg4:=hgf.2.2 s.table
 have hg1:1≤(findT c s.table).1.cols.length:=by
  unfold goodTabM at hgt
  simp only[Bool.and_eq_true,decide_eq_true_eq] at hgt
  exact hgt.2.2.1
 have hco:ColsOk (dcCols [(findT c s.table).1]):=cols_ok (fun t ht=>by rw[List.mem_singleton.1 ht];exact good_cols hgt)
 have hcl:(dcCols [(findT c s.table).1]).length≤1000000:=Nat.le_trans (dcCols_8 (fun t ht=>by rw[List.mem_singleton.1 ht];exact hg4) (by simp)) (by decide)
 obtain⟨hxo,hxd,hxr,hxs,hxw⟩:=exM_out (s:=s)
 have hbr: ∀r∈s.rows,∀x∈r,x.BS:=fun r hr x hx=>hbs x (hxr r hr x hx)
 have hbb: ∀x∈s.sets,x.e.BS:=fun x hx=>hbs x.e (hxs x hx)
 have hbw:s.wh.op=0∨s.wh.BS:=hxw.imp id (hbs _)
 have hrl:=hok.rows
 have hsl:=hok.sets
 have hcr:=change_R (s:=s) (t:=(findT c s.table).1)
 generalize (findT c s.table).1=t at*
 clear hxo hxd hxr hxs hxw hbs hgf hvs hgc hgt hi hcp
 (repeat' (first|refine wk1 ?_|refine wk2 (fun hb hp=> ?_) (fun hb hp=> ?_)|fail))
 refine LF.back hk1 hF1 ho1 ?_
 refine LF.wk ?_ (rowsL c s t us ((dcCols [t]).map colnC) vS (GS++Fi) hl.len (fun i x v hx hv=> ?_) hbr hg4 hg1 hrl hG0 (fun he st' hw'=> ?_) (fun he st' hw'=> ?_))
 · (refine Wk.mk' (by intro id h;cases h) ?_ ?_ ?_<;>repeat' (first|exact WkF.nil|exact WkB.nil|exact WkT.nil|exact Subs.nil|(refine WkF.cons rfl (Sub.refl _) ?_)|(refine WkF.cons rfl (Sub.of_eq rfl) ?_)|(refine WkF.cons rfl nilI_out ?_)|(refine WkF.cons rfl (Sub.row _ _) ?_)|(refine WkB.cons rfl rfl (Subs.refl _) ?_)|(refine WkB.cons rfl rfl (subs20 rfl) ?_)|(refine WkB.cons rfl rfl (Subs.of_eq rfl) ?_)|(refine WkB.cons rfl rfl ?_ ?_)|(refine Subs.cons (Sub.refl _) ?_)|(refine Subs.cons (Sub.of_eq rfl) ?_)|(refine Subs.cons nilI_out ?_)|(refine Subs.cons (nilI_out.trans (Sub.nils)) ?_)|(refine Subs.cons Sub.nils ?_)|(refine WkT.cons rfl ?_)))
 · rcases lies_at hl hx hv with h|⟨r,F1,F2,hFe,h⟩
   · exact .inl h
   · exact .inr ⟨r,GS++F1,F2,by rw[hFe,List.append_assoc],h⟩
 · rw[show R=(nilSt,rowsE s t) by rw[hbm,hcr.1 he,if_pos he]]
   clear hbm hcr
   refine L.wk hw' ?_
   repeat (first|refine L.inR ?_|refine L.thenR ?_)
   unfold noSt
   refine wkf ?_
   all_goals rfl
 · refine LF.wk hw' ?_
   exact k4d c s t us vS GS Fi hl hS hgu hco hcl hg4 hbb hsl hbw hG0 R (fun h=>by rw[hbm,hcr.2.1 he h,if_pos h]) (fun h=>tail_R rfl (by rw[hbm,hcr.2.2 he h]))
theorem bindD_st{gs:Globs}(m:Int)(hgm:maxG m∈gs)(c:Cat)(s:Stm)(hB:BdOk c s):CallG gs Tryz.prog 7 [.agg (c.c.map .iv),.agg (s.cs.map .iv)] [] [] [] (.tup [.agg ((bindStM c s).1.cs.map .iv),.iv (I (bindStM c s).2)]):=by
 cases hf:formM c s with
 |false=>
  have h:=bindForm_any m hgm c s hB hf
  rw[show bindStM c s=(nilSt,1) by unfold bindStM;rw[if_pos hf]]
  exact h
 |true=>
  have hk:1≤s.kind∧s.kind≤7:=by
   unfold formM at hf
   simp only[Bool.not_eq_true',Bool.or_eq_false_iff,decide_eq_false_iff_not] at hf
   omega
  by_cases h1:s.kind=1
  · exact bindK1_any m hgm c s hB hf h1
  by_cases h2:s.kind=2
  · exact bindK2_any m hgm c s hB hf h2
  by_cases h3:s.kind=3
  · exact bindK3_any m hgm c s hB hf h3
  by_cases h7:s.kind=7
  · exact bindK7_any m hgm c s hB hf h7
  exact bindK4_any m hgm c s hB hf (by omega) (by omega)
end Go.Proofs.YthcjohcakdnmmaaGreatDoor
namespace Go.Proofs.YthcjohcakdnmmaaGreatDoor
open Go.Abs
set_option maxRecDepth 100000
attribute [local irreducible] L Code.wp bodyPost Exit.then Exit.inBlock
set_option linter.unusedVariables false
set_option linter.unusedSimpArgs false
def catS:Cat:=⟨[⟨[116],[⟨[97],1,true⟩]⟩],[]⟩
def stmS:Stm:={nilSt with kind:=7,frm:= [[116]],n:= -1}
theorem catS_good:goodCatM catS=true:=by decide+kernel
theorem stmS_form:formM catS stmS=true:=by
 unfold formM
 rw[catS_good]
 rfl
theorem stmS_choose:chooseM catS stmS=({stmS with out:= [.mk 2 nilV [116] [97] 0 []]},0):=by
 unfold chooseM
 rfl
theorem stmS_bind:bindStM catS stmS=({stmS with out:= [.mk 2 nilV [116] [97] 0 []]},0):=by
 have h:preM catS stmS=({stmS with out:= [.mk 2 nilV [116] [97] 0 []]},0):=by
  unfold preM
  rw[if_neg (by decide),if_neg (by decide),if_neg (by decide),if_pos (show stmS.kind=7 from rfl)]
  exact stmS_choose
 unfold bindStM
 rw[stmS_form,h]
 rfl
set_option maxHeartbeats 8000000 in
theorem schemas_any:CallG gs0 Tryz.prog 12 [] [] [] [] (aB true):=by
 have kb:=bindSt_any catS ⟨by decide,by decide,(fun t ht=>by rw[List.mem_singleton.1 ht];exact⟨by decide,by decide,(fun c hc=>by rw[List.mem_singleton.1 hc];decide)⟩),(fun x hx=>by cases hx)⟩ stmS
  ⟨by decide,by decide,by decide,by decide,by decide,(fun e he=>by cases he),.mk (by decide) (by decide) (by decide) (fun x hx=>by cases hx),by decide,by decide,by decide,(fun c hc=>by cases hc)⟩
 have kg:=goodCat_any catS ⟨by decide,by decide,(fun t ht=>by rw[List.mem_singleton.1 ht];exact⟨by decide,by decide,(fun c hc=>by rw[List.mem_singleton.1 hc];decide)⟩),(fun x hx=>by cases hx)⟩
 rw[stmS_bind] at kb
 rw[catS_good] at kg
 have ec:catS.c= [.sl [[S [116],.sl [[S [97],I 1,.im (.bool true)]]]],.sl []]:=rfl
 have es:stmS.cs= [I 7,S [],S [],S [],.sl [],.sl [],.sl [],.sl [[S [116]]],.sl [],I 0,I 0,I 0,S [],S [],S [],I 0,.sl [],.sl [],.im (.bool false),I (-1)]:=rfl
 have er:({stmS with out:= [.mk 2 nilV [116] [97] 0 []]}:Stm).cs= [I 7,S [],S [],S [],.sl [],.sl [],.sl [],.sl [[S [116]]],.sl [[I 2,I 0,I 0,S [],S [116],S [97],I 0,.sl []]],I 0,I 0,I 0,S [],S [],S [],I 0,.sl [],.sl [],.im (.bool false),I (-1)]:=by
  show [I 7,S [],S [],S [],.sl [],.sl [],.sl [],.sl [[S [116]]],.sl ([Ex.mk 2 nilV [116] [97] 0 []].map Ex.c),I 0,I 0,I 0,S [],S [],S [],I 0,.sl [],.sl [],.im (.bool false),I (-1)] =_
  rw[List.map_cons,Ex.c_eq];rfl
 rw[ec,es] at kb
 rw[ec] at kg
 dsimp only at kb
 rw[er] at kb
 refine CallG.intro _ Tryz.func12 rfl Tryz.ntmps12 rfl (fun w0 E0 hG=> ?_)
 have g1:([[I 2,I 0,I 0,S [],S [116],S [97],I 0,.sl []]]:List (List IV))[(0:Int).toNat]?=some [I 2,I 0,I 0,S [],S [116],S [97],I 0,.sl []]:=rfl
 (repeat' (first|refine wk1 ?_|refine wk2 (fun hb hp=> ?_) (fun hb hp=> ?_)|fail))
 all_goals refine wkf ?_
 all_goals rfl
end Go.Proofs.YthcjohcakdnmmaaGreatDoor
namespace Go.Proofs.YthcjohcakdnmmaaGreatDoor
open Go.Abs
set_option linter.unusedVariables false
set_option linter.unusedSimpArgs false
section
variable {α:Type}(x:α)(g n:α→Bool)
theorem fold_put: ∀(l acc:List α),l.foldl (fun st t=>stepW true true (g t) (n t) x t st) (acc,true)=(acc++l,true)
 | [],acc=>by simp
 |t::l,acc=>by
  rw[List.foldl_cons,show stepW true true (g t) (n t) x t (acc,true)=(acc++ [t],true) by simp[stepW],fold_put l]
  simp
theorem fold_ins: ∀(l acc:List α),endW true x (l.foldl (fun st t=>stepW true true (g t) (n t) x t st) (acc,false))=acc++(l.take (pre (fun t=> !g t) l)++x::l.drop (pre (fun t=> !g t) l))
 | [],acc=>by simp[endW,pre]
 |t::l,acc=>by
  rw[List.foldl_cons]
  cases hg:g t with
  |true=>
   rw[show stepW true true true (n t) x t (acc,false)=(acc++ [x,t],true) by simp[stepW],fold_put]
   simp[endW,pre,hg]
  |false=>
   rw[show stepW true true false (n t) x t (acc,false)=(acc++ [t],false) by simp[stepW],fold_ins l]
   simp[pre,hg]
theorem fold_all: ∀(l acc:List α) (p:Bool),l.foldl (fun st t=>stepW false true (g t) (n t) x t st) (acc,p)=(acc++l,p)
 | [],acc,p=>by simp
 |t::l,acc,p=>by
  rw[List.foldl_cons,show stepW false true (g t) (n t) x t (acc,p)=(acc++ [t],p) by simp[stepW],fold_all l]
  simp
theorem fold_some: ∀(l acc:List α) (p:Bool),l.foldl (fun st t=>stepW false false (g t) (n t) x t st) (acc,p)=(acc++l.filter n,p)
 | [],acc,p=>by simp
 |t::l,acc,p=>by
  rw[List.foldl_cons,show stepW false false (g t) (n t) x t (acc,p)=(acc++(if n t then [t] else []),p) by simp[stepW],fold_some l,List.filter_cons]
  cases n t<;>simp
end
theorem pre_map{α:Type}(f:α→Str)(key:Str): ∀l:List α,lbM (l.map f) key=pre (fun t=> !(!(Op.bytesLess (f t) key))) l
 | [] =>rfl
 |t::l=>by
  have ih:=pre_map f key l
  unfold lbM at ih⊢
  rw[List.map_cons]
  simp only[pre,Bool.not_not,ltS] at ih⊢
  rw[ih]
theorem dcWith_eq(c:Cat)(s:Stm):dcWith c s=withM c s:=by
 unfold dcWith withM stepT stepI
 by_cases h1:s.kind=1
 · rw[if_pos h1]
   simp only[h1,show((1:Int)==1)=true from rfl,show((1:Int) !=3)=true from rfl,show((1:Int)==2)=false from rfl]
   rw[fold_ins (⟨s.name,s.cols⟩:Tab) (fun t:Tab=> !(Op.bytesLess t.n s.name)) (fun t:Tab=>t.n !=s.name),fold_all (⟨s.name,s.table,s.col⟩:Idx) (fun t:Idx=> !(Op.bytesLess t.n s.name)) (fun t:Idx=>t.tb !=s.name),pre_map]
   simp[endW]
 rw[if_neg h1]
 have e1:(s.kind==1)=false:=by simp[h1]
 by_cases h2:s.kind=2
 · rw[if_pos h2]
   simp only[h2,show((2:Int)==1)=false from rfl,show((2:Int) !=3)=true from rfl,show((2:Int)==2)=true from rfl]
   rw[fold_ins (⟨s.name,s.table,s.col⟩:Idx) (fun t:Idx=> !(Op.bytesLess t.n s.name)) (fun t:Idx=>t.tb !=s.name),fold_all (⟨s.name,s.cols⟩:Tab) (fun t:Tab=> !(Op.bytesLess t.n s.name)) (fun t:Tab=>t.n !=s.name),pre_map]
   simp[endW]
 rw[if_neg h2]
 have e2:(s.kind==2)=false:=by simp[h2]
 by_cases h3:s.kind=3
 · rw[if_pos h3]
   simp only[h3,show((3:Int)==1)=false from rfl,show((3:Int) !=3)=false from rfl,show((3:Int)==2)=false from rfl]
   rw[fold_some (⟨s.name,s.cols⟩:Tab) (fun t:Tab=> !(Op.bytesLess t.n s.name)) (fun t:Tab=>t.n !=s.name),fold_some (⟨s.name,s.table,s.col⟩:Idx) (fun t:Idx=> !(Op.bytesLess t.n s.name)) (fun t:Idx=>t.tb !=s.name)]
   simp[endW,bne]
 rw[if_neg h3]
 have e3:(s.kind !=3)=true:=by simp[h3]
 rw[e1,e2,e3,fold_all (⟨s.name,s.cols⟩:Tab) (fun t:Tab=> !(Op.bytesLess t.n s.name)) (fun t:Tab=>t.n !=s.name),fold_all (⟨s.name,s.table,s.col⟩:Idx) (fun t:Idx=> !(Op.bytesLess t.n s.name)) (fun t:Idx=>t.tb !=s.name)]
 simp[endW]
end Go.Proofs.YthcjohcakdnmmaaGreatDoor
namespace Go.Proofs.YthcjohcakdnmmaaGreatDoor
open Go.Abs
set_option maxRecDepth 100000
attribute [local irreducible] L Code.wp bodyPost Exit.then Exit.inBlock
set_option linter.unusedVariables false
set_option linter.unusedSimpArgs false
theorem with_any{gs:Globs}(c:Cat)(s:Stm)(hg:GoodC c)(hT:s.kind=2∨s.kind=3→c.ts≠ []):
 CallG gs Tryz.prog 19 [.agg (c.c.map .iv),.agg (s.cs.map .iv)] [] [] [] (.agg ((withM c s).c.map .iv)):=by
 have hE:c.ts= [] →c.is= []:=fun h=>by
  refine List.eq_nil_iff_forall_not_mem.2 (fun x hx=> ?_)
  have:=(findT_in (hg.idx x hx).2.1).1
  rw[h] at this;cases this
 have htl:=hg.tl
 have hil:=hg.il
 have fT:Falls (fun x=>decide (x<s.name)) (c.ts.map Tab.n):=falls_keys _ hg.tn
 have fX:Falls (fun x=>decide (x<s.name)) (c.is.map Idx.n):=falls_keys _ hg.xn
 have hN:c.ts.filter (fun x=> !(x.n==s.name))= [] →c.is.filter (fun x=> !(x.tb==s.name))= []:=fun h=>by
  refine List.eq_nil_iff_forall_not_mem.2 (fun x hx=> ?_)
  obtain⟨h1,h2⟩:=List.mem_filter.1 hx
  have h3:=findT_in (hg.idx x h1).2.1
  have:(findT c x.tb).1∈c.ts.filter (fun x=> !(x.n==s.name)):=List.mem_filter.2 ⟨h3.1,by rw[h3.2];exact h2⟩
  rw[h] at this;cases this
 obtain⟨ts,is⟩:=c
 dsimp only at hE htl hil fT fX hN hT
 by_cases h1:s.kind=1
 · have k1:(s.kind==1)=true:=by simpa using h1
   rw[show withM ⟨ts,is⟩ s=⟨ts.take (lbM (ts.map Tab.n) s.name)++⟨s.name,s.cols⟩::ts.drop (lbM (ts.map Tab.n) s.name),is⟩ by simp[withM,h1]]
   by_cases hte:ts= []
   · have hie:=hE hte;subst hte;subst hie;exact with_cEE s k1
   · by_cases hie:is= []
     · subst hie;exact with_cKE s ts hte (by omega) fT k1
     · exact with_create ⟨ts,is⟩ s hte hie htl hil k1 fT
 have k1:(s.kind==1)=false:=by simpa using h1
 by_cases h2:s.kind=2
 · have k2:(s.kind==2)=true:=by simpa using h2
   rw[show withM ⟨ts,is⟩ s=⟨ts,is.take (lbM (is.map Idx.n) s.name)++⟨s.name,s.table,s.col⟩::is.drop (lbM (is.map Idx.n) s.name)⟩ by simp[withM,h2]]
   by_cases hie:is= []
   · subst hie;exact with_mKE s ts (hT (.inl h2)) (by omega) k1 k2
   · exact with_mark ⟨ts,is⟩ s (hT (.inl h2)) hie htl hil k1 k2 fX
 have k2:(s.kind==2)=false:=by simpa using h2
 by_cases h3:s.kind=3
 · have k3:(s.kind==3)=true:=by simpa using h3
   rw[show withM ⟨ts,is⟩ s=⟨ts.filter (fun x=> !(x.n==s.name)),is.filter (fun x=> !(x.tb==s.name))⟩ by simp[withM,h3]]
   have hte:=hT (.inr h3)
   have hitT:ts.filter (fun x=> !(x.n==s.name))= [] → ∃i x,(∀y∈ts.take i,(fun t:Tab=>t.n==s.name) y=false)∧ts[i]?=some x∧(fun t:Tab=>t.n==s.name) x=true:=fun h=>first_hit (fun hall=>hte (by
    refine List.eq_nil_iff_forall_not_mem.2 (fun t ht=> ?_)
    have:t∈ts.filter (fun x=> !(x.n==s.name)):=List.mem_filter.2 ⟨ht,by have:=hall t ht;simp only[this];rfl⟩
    rw[h] at this;cases this))
   have hitX:is≠ [] →is.filter (fun x=> !(x.tb==s.name))= [] → ∃i x,(∀y∈is.take i,(fun t:Idx=>t.tb==s.name) y=false)∧is[i]?=some x∧(fun t:Idx=>t.tb==s.name) x=true:=fun hne h=>first_hit (fun hall=>hne (by
    refine List.eq_nil_iff_forall_not_mem.2 (fun t ht=> ?_)
    have:t∈is.filter (fun x=> !(x.tb==s.name)):=List.mem_filter.2 ⟨ht,by have:=hall t ht;simp only[this];rfl⟩
    rw[h] at this;cases this))
   by_cases hie:is= []
   · subst hie
     by_cases hf:ts.filter (fun x=> !(x.n==s.name))= []
     · obtain⟨i,x,a1,a2,a3⟩:=hitT hf
       rw[hf]
       exact with_dNE s ts hte (by omega) hf i x a1 a2 a3 k1 k2 k3
     · exact with_dKE s ts hte (by omega) hf k1 k2 k3
   · by_cases hf:ts.filter (fun x=> !(x.n==s.name))= []
     · obtain⟨i,x,a1,a2,a3⟩:=hitT hf
       obtain⟨j,y,b1,b2,b3⟩:=hitX hie (hN hf)
       have hN':=hN hf
       rw[hf,hN']
       exact with_dNN s ts hte (by omega) hf i x a1 a2 a3 is hie (by omega) hN' j y b1 b2 b3 k1 k2 k3
     · by_cases hg':is.filter (fun x=> !(x.tb==s.name))= []
       · obtain⟨j,y,b1,b2,b3⟩:=hitX hie hg'
         rw[hg']
         exact with_dKN s ts hte (by omega) hf is hie (by omega) hg' j y b1 b2 b3 k1 k2 k3
       · exact with_dropKK ⟨ts,is⟩ s hte hie htl hil k1 k2 k3 hf hg'
 have k3:(s.kind==3)=false:=by simpa using h3
 rw[show withM ⟨ts,is⟩ s=⟨ts,is⟩ by simp[withM,h1,h2,h3]]
 by_cases hte:ts= []
 · have hie:=hE hte;subst hte;subst hie;exact with_oEE s k1 k2 k3
 · by_cases hie:is= []
   · subst hie;exact with_oKE s ts hte (by omega) k1 k2 k3
   · exact with_other ⟨ts,is⟩ s hte hie htl hil k1 k2 k3
end Go.Proofs.YthcjohcakdnmmaaGreatDoor
namespace Go.Proofs.YthcjohcakdnmmaaGreatDoor
open Go.Abs
set_option maxRecDepth 100000
attribute [local irreducible] L LF Code.wp bodyPost Exit.then Exit.inBlock
set_option linter.unusedVariables false
set_option linter.unusedSimpArgs false
def gsB(m:Int):Globs:=maxG m::gs0
theorem gsB_max(m:Int):maxG m∈gsB m:=by simp[gsB]
theorem gsB_0(m:Int): ∀p∈gs0,p∈gsB m:=fun p h=>by simp only[gsB,List.mem_cons];exact .inr h
theorem gsB_eq(m:Int):gsB m=maxG m::gs0:=rfl
attribute [irreducible] gsB
structure CatCp (c:Cat):Prop where
 t:c.ts.length*40≤140737488355328
 i:c.is.length*48≤140737488355328
 c: ∀t∈c.ts,t.cols.length*40≤140737488355328
set_option maxHeartbeats 64000000 in
theorem schemaBinds_any(m:Int)(c:Cat)(s:Stm)(hB:BdOk c s)(hC:CatCp c):CallG (gsB m) Tryz.prog 3 [.agg (c.c.map .iv),.agg (s.cs.map .iv)] [] [] [] (aB true):=by
 have kcc:=copyCat_any (gs:=gsB m) c hC.t hC.i hC.c
 have kcs:=copyStmt_any (gs:=gsB m) s hB.cp
 have kb:=(bindSt_any c hB.cat s hB.ok).sub (gsB_0 m)
 have kd:=bindD_st m (gsB_max m) c s hB
 have kg:=(goodCat_any c hB.cat).sub (gsB_0 m)
 have ki:=isCatalog_any m (gsB_max m) c hB.cat
 have ksc:=sameCat_any c c hB.cat.t hB.cat.i (fun t ht=>(hB.cat.ts t ht).l)
 rw[isB_t rfl] at ksc
 have ksch:=schemas_any.sub (gsB_0 m)
 have kft:=findTable_any c s.table hB.cat.t
 have kt:=tableOf_any c s.table hB.cat.t
 have kss:=stmt_same (gs:=gsB m) (bindStM c s).1
 have kxs:=stmt_same (gs:=gsB m) s
 have hw:(bindStM c s).2=0→WithLaw c s (bindStM c s).1:=fun h=>with_law (Prod.ext rfl h)
 have hcat:=hB.cat
 clear hB hC
 generalize bindStM c s=R at*
 obtain⟨b,f⟩:=R
 dsimp only at kb kd kss hw
 refine CallG.intro _ Tryz.func3 rfl Tryz.ntmps3 rfl (fun w0 E0 hG=> ?_)
 have e1:(f !=f)=false:=by simp
 have e2:(goodCatM c !=goodCatM c)=false:=by simp
 generalize goodCatM c=g at*
 (repeat' (first|refine wk1 ?_|refine wk2 (fun hb hp=> ?_) (fun hb hp=> ?_)|fail))
 refine L.loopP (ι:=Nat) (fun i=>⟨[(68,aI (i:Int)),(67,aI ((c.ts.map Tab.c).length:Int)),(66,.iv (.sl (c.ts.map Tab.c))),(2,.ptr 2 0),(3,.ptr 3 0),(5,.ptr 5 0),(6,.ptr 6 0),(7,.ptr 7 0),(8,aI f),(9,.ptr 9 0),(10,aI f),(4,aB false)],[(2,⟨25,.l (c.c.map .iv)⟩),(3,⟨36,.l (s.cs.map .iv)⟩),(5,⟨25,.l (c.c.map .iv)⟩),(6,⟨36,.l (s.cs.map .iv)⟩),(7,⟨36,.l (b.cs.map .iv)⟩),(9,⟨36,.l (b.cs.map .iv)⟩)],[]⟩) (fun i=>c.ts.length - i) (fun _=>True) (i0:=0) ?_ trivial ?_
 · (refine Wk.mk' (by intro id h;cases h) ?_ ?_ ?_<;>repeat' (first|exact WkF.nil|exact WkB.nil|exact WkT.nil|exact Subs.nil|(refine WkF.cons rfl (Sub.refl _) ?_)|(refine WkF.cons rfl (Sub.of_eq rfl) ?_)|(refine WkF.cons rfl nilI_out ?_)|(refine WkF.cons rfl (Sub.row _ _) ?_)|(refine WkB.cons rfl rfl (Subs.refl _) ?_)|(refine WkB.cons rfl rfl (subs20 rfl) ?_)|(refine WkB.cons rfl rfl (Subs.of_eq rfl) ?_)|(refine WkB.cons rfl rfl ?_ ?_)|(refine Subs.cons (Sub.refl _) ?_)|(refine Subs.cons (Sub.of_eq rfl) ?_)|(refine Subs.cons nilI_out ?_)|(refine Subs.cons (nilI_out.trans (Sub.nils)) ?_)|(refine Subs.cons Sub.nils ?_)|(refine WkT.cons rfl ?_)))
 clear kcc kcs kb kd kg ki ksc ksch kss kxs e1 e2
 intro i _ K hK
 cases hx:c.ts[i]? with
 |some y=>
  clear hw kft kt
  have hlt:=ltT (l:=c.ts.map Tab.c) (getF (f:=Tab.c) hx)
  have hlt':=ltN hx
  have g1:(c.ts.map Tab.c)[((i:Nat):Int).toNat]?=some [S y.n,.sl (y.cols.map Col.c)]:=by rw[Int.toNat_natCast,List.getElem?_map,hx];rfl
  have hym:=List.mem_of_getElem? hx
  have hct:=hcat.t
  have hil:i<c.ts.length:=(List.getElem?_eq_some_iff.1 hx).1
  have hix:(i:Int)+1≤9223372036854775807:=by omega
  have kgt:=(goodTable_any y (hcat.ts y hym)).sub (gsB_0 m)
  have kit:=isTable_any m (gsB_max m) y (hcat.ts y hym)
  have kfc:=findCol_any y s.col (hcat.ts y hym).l
  have kco:=colOf_any y s.col (hcat.ts y hym).l
  have e3:(goodTabM y !=goodTabM y)=false:=by simp
  have e4:(colM y s.col !=colM y s.col)=false:=by simp
  generalize goodTabM y=gt at*
  generalize colM y s.col=cm at*
  (repeat' (first|refine wk1 ?_|refine wk2 (fun hb hp=> ?_) (fun hb hp=> ?_)|fail))
  refine hK _ (i+1) trivial (by omega) ?_
  (refine Wk.mk' (by intro id h;cases h) ?_ ?_ ?_<;>repeat' (first|exact WkF.nil|exact WkB.nil|exact WkT.nil|exact Subs.nil|(refine WkF.cons rfl (Sub.refl _) ?_)|(refine WkF.cons rfl (Sub.of_eq rfl) ?_)|(refine WkF.cons rfl nilI_out ?_)|(refine WkF.cons rfl (Sub.row _ _) ?_)|(refine WkB.cons rfl rfl (Subs.refl _) ?_)|(refine WkB.cons rfl rfl (subs20 rfl) ?_)|(refine WkB.cons rfl rfl (Subs.of_eq rfl) ?_)|(refine WkB.cons rfl rfl ?_ ?_)|(refine Subs.cons (Sub.refl _) ?_)|(refine Subs.cons (Sub.of_eq rfl) ?_)|(refine Subs.cons nilI_out ?_)|(refine Subs.cons (nilI_out.trans (Sub.nils)) ?_)|(refine Subs.cons Sub.nils ?_)|(refine WkT.cons rfl ?_)))
 |none=>
  have hlt:=ltF (l:=c.ts.map Tab.c) (getFN hx)
  clear hK
  have e5:((findT c s.table).1.n==(findT c s.table).1.n)=true:=by simp
  have e6:((findT c s.table).2==(findT c s.table).2)=true:=by simp
  generalize findT c s.table=ft at*
  obtain⟨tt,is⟩:=ft
  dsimp only at kft kt e5 e6
  by_cases hf:f=0
  · subst hf
    have W:=hw rfl
    have kw:=with_any (gs:=gsB m) c b W.base W.tne
    have kws:=withS_any (gs:=gsB m) c b (Nat.le_trans W.base.tl (by decide)) (Nat.le_trans W.base.il (by decide))
    rw[dcWith_eq] at kws
    have ksw:=sameCat_any (withM c b) (withM c b) (Nat.le_trans W.good.tl (by decide)) (Nat.le_trans W.good.il (by decide)) (fun t ht=>by
     have hg:=W.good.tabs t ht
     unfold goodTabM at hg
     simp only[Bool.and_eq_true,decide_eq_true_eq] at hg
     exact Nat.le_trans hg.2.2.2.1 (by decide))
    rw[isB_t rfl] at ksw
    clear W hw
    generalize withM c b=d at*
    have q:((0:Int) !=0)=false:=rfl
    (repeat' (first|refine wk1 ?_|refine wk2 (fun hb hp=> ?_) (fun hb hp=> ?_)|fail))
    all_goals refine wkf ?_
    all_goals rfl
  · have q:(f !=0)=true:=by simpa using hf
    clear hw
    (repeat' (first|refine wk1 ?_|refine wk2 (fun hb hp=> ?_) (fun hb hp=> ?_)|fail))
    all_goals refine wkf ?_
    all_goals rfl
end Go.Proofs.YthcjohcakdnmmaaGreatDoor
namespace Go.Proofs.YthcjohcakdnmmaaGreatDoor
open Go.Abs
set_option linter.unusedVariables false
set_option maxRecDepth 100000
theorem fit_vs: ∀(e:Ex),Fits book [.int .i64,.int .i64,.int .i64,.str,.str,.str,.int .i64,.sl 34] e.c→e.VS
 | .mk op v s name n l,h=>by
   rw[Ex.c_eq] at h
   obtain⟨x1,xs,e1,h1,h⟩:=h.cons_inv
   cases e1
   obtain⟨x2,xs,e2,h2,h⟩:=h.cons_inv
   cases e2
   obtain⟨x3,xs,e3,h3,h⟩:=h.cons_inv
   cases e3
   obtain⟨x4,xs,e4,h4,h⟩:=h.cons_inv
   cases e4
   obtain⟨x5,xs,e5,h5,h⟩:=h.cons_inv
   cases e5
   obtain⟨x6,xs,e6,h6,h⟩:=h.cons_inv
   cases e6
   obtain⟨x7,xs,e7,h7,h⟩:=h.cons_inv
   cases e7
   obtain⟨x8,xs,e8,h8,h⟩:=h.cons_inv
   cases e8
   obtain⟨es,e9,hl,he⟩:=h8.sl_inv (n:=104) (cts:= [.int .i64,.int .i64,.int .i64,.str,.str,.str,.int .i64,.sl 34]) rfl
   cases e9
   obtain⟨s1,e10,l1⟩:=h4.str_inv
   have e11:v.s=s1:=by simpa using e10
   have hr:reachBytes=140737488351232:=rfl
   exact .mk (by rw[e11];omega) (fun x hx=>fit_vs x (he x.c (List.mem_map_of_mem hx)))
 termination_by e=>SizeOf.sizeOf e
 decreasing_by
  have:=List.sizeOf_lt_of_mem hx
  simp;omega
theorem fit_vsl{l:List Ex}(h:Fit book (.sl 34) (.sl (l.map Ex.c))): ∀e∈l,e.VS:=fun e he=>by
 obtain⟨es,e9,hl,hh⟩:=h.sl_inv (n:=104) (cts:= [.int .i64,.int .i64,.int .i64,.str,.str,.str,.int .i64,.sl 34]) rfl
 cases e9
 exact fit_vs e (hh e.c (List.mem_map_of_mem he))
theorem row_le{l:List (List Ex)}{r:List Ex}(h:r∈l):r.length≤l.flatten.length:=by
 induction l with
 |nil=>cases h
 |cons x l ih=>
  rw[List.flatten_cons,List.length_append]
  rcases List.mem_cons.1 h with rfl|h
  · omega
  · have:=ih h;omega
theorem fit_bd{xs:List IV}(h:Fits book [.int .i64,.str,.str,.str,.sl 71,.sl 30,.sl 56,.sl 9,.sl 34,.int .i64,.int .i64,.int .i64,.str,.str,.str,.int .i64,.sl 34,.sl 34,.bool,.int .i64] xs)(hz:szs xs≤1048576):
 ∃s:Stm,xs=s.cs∧s.Ok∧CpOk s∧ ∀e∈exprsM s,e.VS:=by
 obtain⟨s,rfl,hok⟩:=fit_stm h hz
 refine⟨s,rfl,hok,?_,?_⟩
 · have t4:szss (s.cols.map Col.c)≤1048576:=szs_at hz 4 rfl
   have t7:szss (s.frm.map Str.c)≤1048576:=szs_at hz 7 rfl
   have m4:=szss_len (es:=s.cols.map Col.c) (fun e he=>by obtain⟨y,_,rfl⟩:=List.mem_map.1 he;exact Nat.succ_pos _)
   have m7:=szss_len (es:=s.frm.map Str.c) (fun e he=>by obtain⟨y,_,rfl⟩:=List.mem_map.1 he;exact Nat.succ_pos _)
   rw[List.length_map] at m4 m7
   have htot:=hok.tot
   have hall:=hok.all
   obtain⟨hxo,hxd,hxr,hxs,hxw⟩:=exM_out (s:=s)
   clear h hz
   have hrow: ∀r∈s.rows,r.length*104≤140737488355328:=fun r hr=>by
    have:=row_le hr
    generalize s.rows.flatten.length=z at*
    omega
   generalize s.rows.flatten.length=z at*
   generalize szss (s.cols.map Col.c)=a4 at*
   generalize szss (s.frm.map Str.c)=a7 at*
   exact⟨by omega,by omega,hok.rows,fun r hr=>⟨hrow r hr,fun x hx=>hall x (hxr r hr x hx)⟩,hok.sets,fun x hx=>hall x.e (hxs x hx),⟨by omega,fun x hx=>hall x (hxo x hx)⟩,⟨by omega,fun x hx=>hall x (hxd x hx)⟩,hok.wh⟩
 · clear hz
   unfold Stm.cs at h
   obtain⟨_,_,e,_,h⟩:=h.cons_inv
   cases e
   obtain⟨_,_,e,_,h⟩:=h.cons_inv
   cases e
   obtain⟨_,_,e,_,h⟩:=h.cons_inv
   cases e
   obtain⟨_,_,e,_,h⟩:=h.cons_inv
   cases e
   obtain⟨_,_,e,_,h⟩:=h.cons_inv
   cases e
   obtain⟨_,_,e,h6,h⟩:=h.cons_inv
   cases e
   obtain⟨_,_,e,h7,h⟩:=h.cons_inv
   cases e
   obtain⟨_,_,e,_,h⟩:=h.cons_inv
   cases e
   obtain⟨_,_,e,h9,h⟩:=h.cons_inv
   cases e
   obtain⟨_,_,e,k1,h⟩:=h.cons_inv
   cases e
   obtain⟨_,_,e,k2,h⟩:=h.cons_inv
   cases e
   obtain⟨_,_,e,k3,h⟩:=h.cons_inv
   cases e
   obtain⟨_,_,e,k4,h⟩:=h.cons_inv
   cases e
   obtain⟨_,_,e,k5,h⟩:=h.cons_inv
   cases e
   obtain⟨_,_,e,k6,h⟩:=h.cons_inv
   cases e
   obtain⟨_,_,e,k7,h⟩:=h.cons_inv
   cases e
   obtain⟨_,_,e,k8,h⟩:=h.cons_inv
   cases e
   obtain⟨_,_,e,j1,h⟩:=h.cons_inv
   cases e
   clear h
   have hr:reachBytes=140737488351232:=rfl
   have ho:=fit_vsl h9
   have hd:=fit_vsl j1
   have hrs: ∀r∈s.rows,∀e∈r,e.VS:=fun r hr=>by
    obtain⟨es,e9,hl,hh⟩:=h6.sl_inv (n:=24) (cts:= [.sl 34]) rfl
    cases e9
    obtain⟨y,ys,e,h1,_⟩:=(hh (exRow r) (List.mem_map_of_mem hr)).cons_inv
    cases e
    exact fit_vsl h1
   have hss: ∀x∈s.sets,x.e.VS:=fun x hx=>by
    obtain⟨es,e9,hl,hh⟩:=h7.sl_inv (n:=120) (cts:= [.str,.int .i64,.int .i64,.int .i64,.str,.str,.str,.int .i64,.sl 34]) rfl
    cases e9
    have h0:=hh x.c (List.mem_map_of_mem hx)
    rw[Ast.c] at h0
    obtain⟨y,ys,e,_,h1⟩:=h0.cons_inv
    cases e
    refine fit_vs x.e ?_
    rw[Ex.c_cs]
    exact h1
   have hwv:s.wh.VS:=by
    obtain⟨s1,e10,l1⟩:=k4.str_inv
    have e11:s.wh.v.s=s1:=by simpa using e10
    have h2:=fit_vsl k8
    have hl:s.wh.v.s.length≤140737488355328:=by rw[e11];omega
    generalize s.wh=w at*
    cases w with
    |mk op v ws wn wi wl=>exact .mk hl h2
   intro e he
   unfold exprsM at he
   simp only[List.mem_append,List.mem_flatten,List.mem_map] at he
   rcases he with(((he|he)|⟨r,hr1,he⟩)|⟨x,hx,rfl⟩)|he
   · exact ho e he
   · exact hd e he
   · exact hrs r hr1 e he
   · exact hss x hx
   · split at he
     · simp at he
     · simp only[List.mem_singleton] at he;subst he;exact hwv
theorem fit_cat2{xs:List IV}(h:Fits book [.sl 47,.sl 64] xs)(hz:szs xs≤1048576): ∃v:Cat,xs=v.c∧v.Ok∧CatCp v:=by
 obtain⟨c,rfl,hok⟩:=fit_cat h
 refine⟨c,rfl,hok,?_⟩
 have t0:szss (c.ts.map Tab.c)≤1048576:=szs_at hz 0 rfl
 have t1:szss (c.is.map Idx.c)≤1048576:=szs_at hz 1 rfl
 have m0:=szss_len (es:=c.ts.map Tab.c) (fun e he=>by obtain⟨y,_,rfl⟩:=List.mem_map.1 he;exact Nat.succ_pos _)
 have m1:=szss_len (es:=c.is.map Idx.c) (fun e he=>by obtain⟨y,_,rfl⟩:=List.mem_map.1 he;exact Nat.succ_pos _)
 rw[List.length_map] at m0 m1
 refine⟨by omega,by omega,fun t ht=> ?_⟩
 have h2:szs t.c≤1048576:=Nat.le_trans (szs_mem (List.mem_map_of_mem ht)) t0
 have h3:szss (t.cols.map Col.c)≤1048576:=szs_at h2 1 rfl
 have m3:=szss_len (es:=t.cols.map Col.c) (fun e he=>by obtain⟨y,_,rfl⟩:=List.mem_map.1 he;exact Nat.succ_pos _)
 rw[List.length_map] at m3
 omega
end Go.Proofs.YthcjohcakdnmmaaGreatDoor
