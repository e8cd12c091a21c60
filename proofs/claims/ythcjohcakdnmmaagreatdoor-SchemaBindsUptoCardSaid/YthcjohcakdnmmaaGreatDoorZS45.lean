/- Several texts in one, each with its own sentence ahead of it. Conditions: each one says its own. -/
import Derived.Test.YthcjohcakdnmmaaGreatDoorZS41
import Derived.Test.YthcjohcakdnmmaaGreatDoorZS44
set_option linter.all false
namespace Go.Proofs.YthcjohcakdnmmaaGreatDoor
open Go.Abs
set_option maxRecDepth 100000
attribute [local irreducible] L LF Code.wp bodyPost Exit.then Exit.inBlock
set_option linter.unusedVariables false
set_option linter.unusedSimpArgs false
theorem copyR_plain{s:Stm}{vs:List AV}{F:List Rw}(h:CopyR s vs F):AV.mentsIn [] vs=true:=by
 obtain⟨vR,vS,vO,vD,GR,GS,GO,GD,_,_,_,_,_,rfl⟩:=h
 rfl
theorem live4{t1 t2 t3 t4:TypeId}{N:Nat}{c:Cat}{l1 l2:List AV}{O:List Ex}(hO:O≠ []){a1 a2:AV}:([(2,(⟨t1,.l (c.c.map .iv)⟩:Box)),(3,⟨t2,.l (a1::l1)⟩),(4,⟨t3,.l (a2::l2)⟩),(N,⟨t4,.r (O.map Ex.c).flatten 0⟩)]:List (Nat×Box)).all (fun p=> !p.2.cs.isEmpty)=true:=by
 cases O with
 |nil=>exact absurd rfl hO
 |cons x l=>
  have:=flatK_ne exl8 (by decide) x l
  cases hq:((x::l).map Ex.c).flatten with
  |nil=>exact absurd hq this
  |cons y ys=>simp[Box.cs_l,Box.cs_r,Cat.c]
theorem exM_out{s:Stm}:(∀e∈s.out,e∈exprsM s)∧(∀e∈s.ord,e∈exprsM s)∧(∀r∈s.rows,∀e∈r,e∈exprsM s)∧(∀x∈s.sets,x.e∈exprsM s)∧(s.wh.op=0∨s.wh∈exprsM s):=by
 unfold exprsM
 refine⟨fun e he=>by simp[he],fun e he=>by simp[he],fun r hr e he=> ?_,fun x hx=> ?_,?_⟩
 · have:e∈s.rows.flatten:=List.mem_flatten.2 ⟨r,hr,he⟩
   simp[this]
 · have:x.e∈s.sets.map Ast.e:=List.mem_map_of_mem hx
   simp only[List.mem_append]
   exact .inl (.inr this)
 · by_cases h:s.wh.op=0
   · exact .inl h
   · exact .inr (by rw[if_neg h];simp)
theorem choose_R{c:Cat}{s:Stm}(h1: ¬(s.frm.length<1∨2<s.frm.length)):
 (fromE c s≠0→(chooseM c s).2=fromE c s)∧(fromE c s=0→bindE (fromT c s) s.out≠0→(chooseM c s).2=bindE (fromT c s) s.out)∧
 (fromE c s=0→bindE (fromT c s) s.out=0→bindE (fromT c s) s.ord≠0→(chooseM c s).2=bindE (fromT c s) s.ord)∧
 (fromE c s=0→bindE (fromT c s) s.out=0→bindE (fromT c s) s.ord=0→chooseM c s=({s with out:=if s.out= [] then allOut (fromT c s) 0 else s.out.map fun x=>(bindM (fromT c s) x).1,ord:=s.ord.map fun x=>(bindM (fromT c s) x).1,wh:=(whereM (fromT c s) s.wh).1},(whereM (fromT c s) s.wh).2)):=by
 unfold chooseM fromE fromT bindE
 rw[if_neg h1]
 refine⟨fun h=>by rw[if_pos h],fun h h2=> ?_,fun h h2 h3=> ?_,fun h h2 h3=> ?_⟩
 · rw[if_neg (by rw[h];decide)];dsimp only;rw[if_pos h2]
 · rw[if_neg (by rw[h];decide)];dsimp only;rw[if_neg (by rw[h2];decide),if_pos h3]
 · rw[if_neg (by rw[h];decide)];dsimp only;rw[if_neg (by rw[h2];decide),if_neg (by rw[h3];decide)]
theorem tail_R{ts:List Tab}{s s':Stm}(hw:s'.wh=s.wh){R:Stm×Int}(h:R=if(whereM ts s.wh).2≠0 then(nilSt,(whereM ts s.wh).2) else({s' with wh:=(whereM ts s.wh).1},0)):R=tailM ts s':=by
 rw[h];unfold tailM;rw[hw]
set_option maxHeartbeats 64000000 in
theorem bindK7_any{gs:Globs}(m:Int)(hgm:maxG m∈gs)(c:Cat)(s:Stm)(hB:BdOk c s)(hf:formM c s=true)(hk7:s.kind=7):CallG gs Tryz.prog 7 [.agg (c.c.map .iv),.agg (s.cs.map .iv)] [] [] [] (.tup [.agg ((bindStM c s).1.cs.map .iv),.iv (I (bindStM c s).2)]):=by
 have hB':=hB
 obtain⟨hcat,hok,hcp,hvs⟩:=hB'
 have hgc:=form_good' hf
 have hgf:=goodCat_find hgc
 have hbs:=form_bs hf
 have kt:=tableOf_any c s.table hcat.t
 have kcol:=columns_any (gs:=gs) [(findT c s.table).1] (by simp) (by have:=hgf.2.2 s.table;simp[dcCols];omega)
 have hbm:bindStM c s=if(preM c s).2≠0 then(nilSt,(preM c s).2) else((preM c s).1,0):=by unfold bindStM;rw[hf];rfl
 have kn: ∀e:Int,CallG gs Tryz.prog 31 ([aI e] ++ []) [] [] [] (.tup [.agg (nilSt.cs.map .iv),.iv (I e)]):=fun e=>no_any e
 refine CallG.intro (code:=((Tryz.f7.body).getD .skip)) _ Tryz.func7 rfl Tryz.ntmps7 rfl (fun w0 E0 hG=> ?_)
 refine bindA m hgm c s hB hG ?_
 rw[hf]
 clear hB
 have hpre:preM c s=chooseM c s:=by unfold preM;simp[hk7]
 rw[hpre] at hbm
 clear hpre
 generalize bindStM c s=R at*
 have htot:=hok.tot
 generalize s.rows.flatten.length=z at htot
 have hol:s.out.length*104≤140737488355328:=by omega
 have hdl:s.ord.length*104≤140737488355328:=by omega
 clear htot
 (repeat' (first|refine wk1 ?_|refine wk2 (fun hb hp=> ?_) (fun hb hp=> ?_)|fail))
 refine s_callF rfl hG (copyStmt_own s hcp) (Subs.of_eq rfl) (fun vs F h=>copyR_plain h) (fun vs F hR=> ?_)
 obtain⟨vR,vS,vO,vD,GR,GS,GO,GD,hR,hS,hO,hD,rfl,rfl⟩:=hR
 refine LF.perm (G:=GR++(GD++GO++GS)) List.perm_append_comm ?_
 refine LF.pubRS 126 5 hR rfl rfl rfl rfl ?_
 refine LF.pubL 126 6 (F1:=GD++GO) (F2:= []) hS (map_len astl _) (by simp) rfl rfl rfl ?_
 rw[List.append_nil]
 refine LF.wk (st':=⟨[(126,.agg (stmA s (.iv (.sl (s.rows.map exRow))) (.iv (.sl (s.sets.map Ast.c))) (.iv vO) (.iv vD))),(2,.ptr 2 0),(3,.ptr 3 0),(4,.ptr 4 0),(6,.fn 31 []),(5,aI 0)],[(2,⟨25,.l (c.c.map .iv)⟩),(3,⟨36,.l (stmA s (.iv (.sl (s.rows.map exRow))) (.iv (.sl (s.sets.map Ast.c))) (.iv (.sl (s.out.map Ex.c))) (.iv (.sl (s.ord.map Ex.c))))⟩),(4,⟨36,.l stm0A⟩)],[]⟩) ?_ ?_
 · (refine Wk.mk' (by intro id h;cases h) ?_ ?_ ?_<;>repeat' (first|exact WkF.nil|exact WkB.nil|exact WkT.nil|exact Subs.nil|(refine WkF.cons rfl (Sub.refl _) ?_)|(refine WkF.cons rfl (Sub.of_eq rfl) ?_)|(refine WkF.cons rfl nilI_out ?_)|(refine WkF.cons rfl (Sub.row _ _) ?_)|(refine WkB.cons rfl rfl (Subs.refl _) ?_)|(refine WkB.cons rfl rfl (subs20 rfl) ?_)|(refine WkB.cons rfl rfl (Subs.of_eq rfl) ?_)|(refine WkB.cons rfl rfl ?_ ?_)|(refine Subs.cons (Sub.refl _) ?_)|(refine Subs.cons (Sub.of_eq rfl) ?_)|(refine Subs.cons nilI_out ?_)|(refine Subs.cons (nilI_out.trans (Sub.nils)) ?_)|(refine Subs.cons Sub.nils ?_)|(refine WkT.cons rfl ?_)))
 have hG0:=hG
 clear hG
 refine LF.rebaseG hG0 rfl rfl (fun c1 hins1 hk1 hF1 ho1 hG=> ?_)
 obtain⟨nt1,w1,E1,ins1⟩:=c1
 obtain rfl:=hk1.nt
 obtain rfl:=hins1
 refine LW.out ?_
 have q1:(s.kind==1)=false:=by simp[hk7]
 have q2:(s.kind==2)=false:=by simp[hk7]
 have q3:(s.kind==3)=false:=by simp[hk7]
 have q7:(s.kind==7)=true:=by simp[hk7]
 have lf:((s.frm.map Str.c).length:Int)=(s.frm.length:Int):=by simp
 by_cases hfl:s.frm.length<1∨2<s.frm.length
 · rw[show R=(nilSt,1) by rw[hbm];unfold chooseM;rw[if_pos hfl];rfl]
   clear hbm
   cases hl1:decide (((s.frm.map Str.c).length:Int)<1) with
   |true=>
    (repeat' (first|(apply s_callFnW [] (f:=31) (avs:= [aI 1]) (caps:= []) (bxi:= []);exact rfl;exact hG;exact rfl;exact kn 1;exact Subs.of_eq rfl;exact .nil;exact rfl;exact rfl;exact rfl;exact rfl)|refine wk1 ?_|refine wk2 (fun hb hp=> ?_) (fun hb hp=> ?_)|fail))
    refine LF.back hk1 hF1 ho1 ?_
    refine LF.drop ?_
    refine wkf ?_
    all_goals rfl
   |false=>
    have hl2:decide ((2:Int)<((s.frm.map Str.c).length:Int))=true:=by
     have:=of_decide_eq_false hl1
     rw[lf] at this⊢
     exact decide_eq_true (by omega)
    (repeat' (first|(apply s_callFnW [] (f:=31) (avs:= [aI 1]) (caps:= []) (bxi:= []);exact rfl;exact hG;exact rfl;exact kn 1;exact Subs.of_eq rfl;exact .nil;exact rfl;exact rfl;exact rfl;exact rfl)|refine wk1 ?_|refine wk2 (fun hb hp=> ?_) (fun hb hp=> ?_)|fail))
    refine LF.back hk1 hF1 ho1 ?_
    refine LF.drop ?_
    refine wkf ?_
    all_goals rfl
 obtain⟨cr1,cr2,cr3,cr4⟩:=choose_R (c:=c) hfl
 have hl1:decide (((s.frm.map Str.c).length:Int)<1)=false:=by rw[lf];exact decide_eq_false (by omega)
 have hl2:decide ((2:Int)<((s.frm.map Str.c).length:Int))=false:=by rw[lf];exact decide_eq_false (by omega)
 have hf1:1≤s.frm.length:=by omega
 have hf2:s.frm.length≤2:=by omega
 (repeat' (first|refine wk1 ?_|refine wk2 (fun hb hp=> ?_) (fun hb hp=> ?_)|fail))
 refine L.wk ?_ (fromL c s hcat vO vD hf1 hf2 hG (fun he st' hw'=> ?_) (fun he st' hw'=> ?_))
 · (refine Wk.mk' (keysA rfl) ?_ ?_ ?_<;>repeat' (first|exact WkF.nil|exact WkB.nil|exact WkT.nil|exact Subs.nil|(refine WkF.cons rfl (Sub.refl _) ?_)|(refine WkF.cons rfl (Sub.of_eq rfl) ?_)|(refine WkF.cons rfl nilI_out ?_)|(refine WkF.cons rfl (Sub.row _ _) ?_)|(refine WkB.cons rfl rfl (Subs.refl _) ?_)|(refine WkB.cons rfl rfl (subs20 rfl) ?_)|(refine WkB.cons rfl rfl (Subs.of_eq rfl) ?_)|(refine WkB.cons rfl rfl ?_ ?_)|(refine Subs.cons (Sub.refl _) ?_)|(refine Subs.cons (Sub.of_eq rfl) ?_)|(refine Subs.cons nilI_out ?_)|(refine Subs.cons (nilI_out.trans (Sub.nils)) ?_)|(refine Subs.cons Sub.nils ?_)|(refine WkT.cons rfl ?_)))
 · rw[show R=(nilSt,fromE c s) by rw[hbm,cr1 he,if_pos he]]
   clear hbm cr1 cr2 cr3 cr4
   refine L.wk hw' ?_
   repeat (first|refine L.inR ?_|refine L.thenR ?_)
   unfold noSt
   refine LF.back hk1 hF1 ho1 ?_
   refine LF.drop ?_
   refine wkf ?_
   all_goals rfl
 refine L.wk hw' ?_
 obtain⟨hgt,hnd⟩:=fromT_good hgc he
 have hgu: ∀t∈fromT c s,Uniq t:=fun t ht=>good_uniq (hgt t ht)
 have hgn: ∀t∈fromT c s,t.n≠ []:=fun t ht=>goodTab_n (hgt t ht)
 have hgl:(fromT c s).length≤2:=by rw[fromT_eq,List.length_map];exact hf2
 have hge:fromT c s≠ []:=fun e=>by rw[fromT_eq,List.map_eq_nil_iff] at e;rw[e] at hf1;exact absurd hf1 (by decide)
 have hco:ColsOk (dcCols (fromT c s)):=cols_ok (fun t ht=>good_cols (hgt t ht))
 have hc4: ∀t∈fromT c s,t.cols.length≤4:=fun t ht=>by rw[fromT_eq] at ht;obtain⟨x,_,rfl⟩:=List.mem_map.1 ht;exact hgf.2.2 x
 have hcl8:=dcCols_8 hc4 hgl
 have hcl:(dcCols (fromT c s)).length≤1000000:=Nat.le_trans hcl8 (by decide)
 have kcol2:=columns_any (gs:=gs) (fromT c s) (Nat.le_trans hgl (by decide)) hcl
 have hcne:=dcCols_ne hgt hge
 have cr2:=cr2 he
 have cr3:=cr3 he
 have cr4:=cr4 he
 clear cr1 kt kcol hw' q1 q2 q3 q7 hfl hl1 hl2 lf
 obtain⟨hxo,hxd,_,_,hxw⟩:=exM_out (s:=s)
 have hbo: ∀x∈s.out,x.BS:=fun x hx=>hbs x (hxo x hx)
 have hbd: ∀x∈s.ord,x.BS:=fun x hx=>hbs x (hxd x hx)
 have hbw:s.wh.op=0∨s.wh.BS:=hxw.imp id (hbs _)
 have hrf:=refs_bind hgu hnd hgn
 generalize fromT c s=ts at*
 clear hgt hgn hge hgl hc4 hxo hxd hxw hbs hnd hgf hvs hgc
 rcases hO with⟨h0,rfl,rfl⟩|⟨rO,rfl,rfl,h1,h2,h3,h4,h5⟩
 · have hout:s.out= []:=List.map_eq_nil_iff.1 h0
   have cr3:=cr3 (by rw[hout];rfl)
   have cr4:=cr4 (by rw[hout];rfl)
   clear cr2
   (repeat' (first|(refine LW.is ?_;first|(apply s_vr;exact rfl;apply v_lenIm;exact rfl))|(refine DR.is ?_;first|(apply d_vr;exact rfl;apply v_lenIm;exact rfl))|refine wk1 ?_|refine wk2 (fun hb hp=> ?_) (fun hb hp=> ?_)|fail))
   refine L.wk ?_ (refL c s vD (dcCols ts) hcl hcne hG (fun st' hw'=> ?_))
   · (refine Wk.mk' (keysA rfl) ?_ ?_ ?_<;>repeat' (first|exact WkF.nil|exact WkB.nil|exact WkT.nil|exact Subs.nil|(refine WkF.cons rfl (Sub.refl _) ?_)|(refine WkF.cons rfl (Sub.of_eq rfl) ?_)|(refine WkF.cons rfl nilI_out ?_)|(refine WkF.cons rfl (Sub.row _ _) ?_)|(refine WkB.cons rfl rfl (Subs.refl _) ?_)|(refine WkB.cons rfl rfl (subs20 rfl) ?_)|(refine WkB.cons rfl rfl (Subs.of_eq rfl) ?_)|(refine WkB.cons rfl rfl ?_ ?_)|(refine Subs.cons (Sub.refl _) ?_)|(refine Subs.cons (Sub.of_eq rfl) ?_)|(refine Subs.cons nilI_out ?_)|(refine Subs.cons (nilI_out.trans (Sub.nils)) ?_)|(refine Subs.cons Sub.nils ?_)|(refine WkT.cons rfl ?_)))
   refine L.wk hw' ?_
   clear hw'
   refine LF.back hk1 hF1 ho1 ?_
   rw[List.append_nil]
   have hrl:((dcCols ts).map refX).length=(dcCols ts).length:=List.length_map _
   rw[←hrl]
   have hrb: ∀x∈(dcCols ts).map refX,x.BS:=fun x hx=>by obtain⟨y,_,rfl⟩:=List.mem_map.1 hx;exact refX_bs y
   have hrn:(dcCols ts).map refX≠ []:=fun e=>hcne (List.map_eq_nil_iff.1 e)
   have hll:((dcCols ts).map refX).length*104≤140737488355328:=by rw[hrl];omega
   clear hrl
   obtain⟨hrf1,hrf2⟩:=hrf
   generalize (dcCols ts).map refX=O at*
   refine LF.rebaseG hG0 rfl (live4 hrn) (fun c2 hins2 hk2 hF2 ho2 hG=> ?_)
   obtain⟨nt2,w2,E2,ins2⟩:=c2
   obtain rfl:=hk2.nt
   obtain rfl:=hins2
   (repeat' (first|refine wk1 ?_|refine wk2 (fun hb hp=> ?_) (fun hb hp=> ?_)|fail))
   refine L.wk ?_ (outL c s vD O hrb hll ts hcl hco hgu hG (fun he2=>absurd hrf1 he2) (fun _ st' hw'=> ?_))
   · (refine Wk.mk' (keysA rfl) ?_ ?_ ?_<;>repeat' (first|exact WkF.nil|exact WkB.nil|exact WkT.nil|exact Subs.nil|(refine WkF.cons rfl (Sub.refl _) ?_)|(refine WkF.cons rfl (Sub.of_eq rfl) ?_)|(refine WkF.cons rfl nilI_out ?_)|(refine WkF.cons rfl (Sub.row _ _) ?_)|(refine WkB.cons rfl rfl (Subs.refl _) ?_)|(refine WkB.cons rfl rfl (subs20 rfl) ?_)|(refine WkB.cons rfl rfl (Subs.of_eq rfl) ?_)|(refine WkB.cons rfl rfl ?_ ?_)|(refine Subs.cons (Sub.refl _) ?_)|(refine Subs.cons (Sub.of_eq rfl) ?_)|(refine Subs.cons nilI_out ?_)|(refine Subs.cons (nilI_out.trans (Sub.nils)) ?_)|(refine Subs.cons Sub.nils ?_)|(refine WkT.cons rfl ?_)))
   refine L.wk hw' ?_
   clear hw'
   refine LF.back hk2 hF2 ho2 ?_
   have hk:=k7d c s (O.map (fun x=>(bindM ts x).1)) (fun e=>hrn (List.map_eq_nil_iff.1 e)) vD GD hD hbd hdl ts hcl hco hgu hbw hG0 R (fun h=>by rw[hbm,cr3 h,if_pos h]) (fun h=>tail_R rfl (by rw[hbm,cr4 h];dsimp only;rw[if_pos hout,hrf2]))
   rw[show(O.map (fun x=>(bindM ts x).1)).length=O.length from List.length_map _] at hk
   refine LF.wk ?_ hk
   (refine Wk.mk' (by intro id h;cases h) ?_ ?_ ?_<;>repeat' (first|exact WkF.nil|exact WkB.nil|exact WkT.nil|exact Subs.nil|(refine WkF.cons rfl (Sub.refl _) ?_)|(refine WkF.cons rfl (Sub.of_eq rfl) ?_)|(refine WkF.cons rfl nilI_out ?_)|(refine WkF.cons rfl (Sub.row _ _) ?_)|(refine WkB.cons rfl rfl (Subs.refl _) ?_)|(refine WkB.cons rfl rfl (subs20 rfl) ?_)|(refine WkB.cons rfl rfl (Subs.of_eq rfl) ?_)|(refine WkB.cons rfl rfl ?_ ?_)|(refine Subs.cons (Sub.refl _) ?_)|(refine Subs.cons (Sub.of_eq rfl) ?_)|(refine Subs.cons nilI_out ?_)|(refine Subs.cons (nilI_out.trans (Sub.nils)) ?_)|(refine Subs.cons Sub.nils ?_)|(refine WkT.cons rfl ?_)))
 · obtain⟨t,b,n,cap,k,xs⟩:=rO
   dsimp only at h1 h2 h3 h4
   subst h1 h2 h3 h4
   have hne:s.out≠ []:=fun e=>h5 (by rw[e];rfl)
   have hpos:0<(s.out.map Ex.c).length:=List.length_pos_iff.2 h5
   have hlm:(s.out.map Ex.c).length=s.out.length:=List.length_map _
   have q0:(((s.out.length:Nat):Int)==0)=false:=by
    have:=List.length_pos_iff.2 hne
    simp;omega
   refine LF.back hk1 hF1 ho1 ?_
   refine LF.openB 3 8 801 (F1:=GD) (F2:= []) rfl rfl rfl rfl (Nat.succ_pos 7) hpos rfl ?_
   rw[List.append_nil]
   dsimp only
   rw[hlm]
   refine LF.wk (st':=⟨[(24,.iv (.sl (ts.map Tab.c))),(2,.ptr 2 0),(3,.ptr 3 0),(4,.ptr 4 0),(6,.fn 31 [])],[(2,⟨25,.l (c.c.map .iv)⟩),(3,⟨36,.l (stmA s (.iv (.sl (s.rows.map exRow))) (.iv (.sl (s.sets.map Ast.c))) (.bsh 801 0 s.out.length 8) (.iv vD))⟩),(4,⟨36,.l stm0A⟩),(801,⟨34,.r (s.out.map Ex.c).flatten 0⟩)],[]⟩) ?_ ?_
   · (refine Wk.mk' (by intro id h;cases h) ?_ ?_ ?_<;>repeat' (first|exact WkF.nil|exact WkB.nil|exact WkT.nil|exact Subs.nil|(refine WkF.cons rfl (Sub.refl _) ?_)|(refine WkF.cons rfl (Sub.of_eq rfl) ?_)|(refine WkF.cons rfl nilI_out ?_)|(refine WkF.cons rfl (Sub.row _ _) ?_)|(refine WkB.cons rfl rfl (Subs.refl _) ?_)|(refine WkB.cons rfl rfl (subs20 rfl) ?_)|(refine WkB.cons rfl rfl (Subs.of_eq rfl) ?_)|(refine WkB.cons rfl rfl ?_ ?_)|(refine Subs.cons (Sub.refl _) ?_)|(refine Subs.cons (Sub.of_eq rfl) ?_)|(refine Subs.cons nilI_out ?_)|(refine Subs.cons (nilI_out.trans (Sub.nils)) ?_)|(refine Subs.cons Sub.nils ?_)|(refine WkT.cons rfl ?_)))
   refine LF.rebaseG hG0 rfl (live4 hne) (fun c2 hins2 hk2 hF2 ho2 hG=> ?_)
   obtain⟨nt2,w2,E2,ins2⟩:=c2
   obtain rfl:=hk2.nt
   obtain rfl:=hins2
   (repeat' (first|refine wk1 ?_|refine wk2 (fun hb hp=> ?_) (fun hb hp=> ?_)|fail))
   refine L.wk ?_ (outL c s vD s.out hbo hol ts hcl hco hgu hG (fun he2 st' l hl hw'=> ?_) (fun he2 st' hw'=> ?_))
   · (refine Wk.mk' (keysA rfl) ?_ ?_ ?_<;>repeat' (first|exact WkF.nil|exact WkB.nil|exact WkT.nil|exact Subs.nil|(refine WkF.cons rfl (Sub.refl _) ?_)|(refine WkF.cons rfl (Sub.of_eq rfl) ?_)|(refine WkF.cons rfl nilI_out ?_)|(refine WkF.cons rfl (Sub.row _ _) ?_)|(refine WkB.cons rfl rfl (Subs.refl _) ?_)|(refine WkB.cons rfl rfl (subs20 rfl) ?_)|(refine WkB.cons rfl rfl (Subs.of_eq rfl) ?_)|(refine WkB.cons rfl rfl ?_ ?_)|(refine Subs.cons (Sub.refl _) ?_)|(refine Subs.cons (Sub.of_eq rfl) ?_)|(refine Subs.cons nilI_out ?_)|(refine Subs.cons (nilI_out.trans (Sub.nils)) ?_)|(refine Subs.cons Sub.nils ?_)|(refine WkT.cons rfl ?_)))
   · rw[show R=(nilSt,bindE ts s.out) by rw[hbm,cr2 he2,if_pos he2]]
     clear hbm cr2 cr3 cr4
     refine L.wk hw' ?_
     repeat (first|refine L.inR ?_|refine L.thenR ?_)
     unfold noSX
     refine LF.back hk2 hF2 ho2 ?_
     refine LF.drop ?_
     refine wkf ?_
     all_goals rfl
   refine L.wk hw' ?_
   clear hw'
   refine LF.back hk2 hF2 ho2 ?_
   have cr3:=cr3 he2
   have cr4:=cr4 he2
   have hk:=k7d c s (s.out.map (fun x=>(bindM ts x).1)) (fun e=>hne (List.map_eq_nil_iff.1 e)) vD GD hD hbd hdl ts hcl hco hgu hbw hG0 R (fun h=>by rw[hbm,cr3 h,if_pos h]) (fun h=>tail_R rfl (by rw[hbm,cr4 h];dsimp only;rw[if_neg hne]))
   rw[show(s.out.map (fun x=>(bindM ts x).1)).length=s.out.length from List.length_map _] at hk
   refine LF.wk ?_ hk
   (refine Wk.mk' (by intro id h;cases h) ?_ ?_ ?_<;>repeat' (first|exact WkF.nil|exact WkB.nil|exact WkT.nil|exact Subs.nil|(refine WkF.cons rfl (Sub.refl _) ?_)|(refine WkF.cons rfl (Sub.of_eq rfl) ?_)|(refine WkF.cons rfl nilI_out ?_)|(refine WkF.cons rfl (Sub.row _ _) ?_)|(refine WkB.cons rfl rfl (Subs.refl _) ?_)|(refine WkB.cons rfl rfl (subs20 rfl) ?_)|(refine WkB.cons rfl rfl (Subs.of_eq rfl) ?_)|(refine WkB.cons rfl rfl ?_ ?_)|(refine Subs.cons (Sub.refl _) ?_)|(refine Subs.cons (Sub.of_eq rfl) ?_)|(refine Subs.cons nilI_out ?_)|(refine Subs.cons (nilI_out.trans (Sub.nils)) ?_)|(refine Subs.cons Sub.nils ?_)|(refine WkT.cons rfl ?_)))
end Go.Proofs.YthcjohcakdnmmaaGreatDoor
