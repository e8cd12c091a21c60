/- Several texts in one, each with its own sentence ahead of it. Conditions: each one says its own. -/
import Derived.Test.YthcjohcakdnmmaaGreatDoorZS20
import Derived.Test.YthcjohcakdnmmaaGreatDoorZS23
import Derived.Test.YthcjohcakdnmmaaGreatDoorZS25
import Derived.Test.YthcjohcakdnmmaaGreatDoorZS26
import Derived.Test.YthcjohcakdnmmaaGreatDoorZS27
import Derived.Test.YthcjohcakdnmmaaGreatDoorZS29
import Derived.Test.YthcjohcakdnmmaaGreatDoorZS35
set_option linter.all false
namespace Go.Proofs.YthcjohcakdnmmaaGreatDoor
open Go.Abs
set_option maxRecDepth 100000
attribute [local irreducible] L Code.wp bodyPost Exit.then Exit.inBlock
set_option linter.unusedVariables false
set_option linter.unusedSimpArgs false
set_option maxRecDepth 100000 in
set_option maxHeartbeats 8000000 in
theorem isCatalog_any{gs:Globs}(m:Int)(hgm:maxG m∈gs)(c:Cat)(hok:c.Ok):CallG gs Tryz.prog 10 [.agg (c.c.map .iv)] [] [] [] (aB (goodCatM c)):=by
 have hok':=hok
 obtain⟨ht,hi,hts,his⟩:=hok
 rw[←isCatR_eq,isCatR]
 refine CallG.intro (code:=((Tryz.f10.body).getD .skip)) _ Tryz.func10 rfl Tryz.ntmps10 rfl (fun w0 E0 hG=> ?_)
 have e1:decide (((c.ts.map Tab.c).length:Int)<4)=decide (c.ts.length<4):=decide_eq_decide.2 (by rw[List.length_map];omega)
 replace e1:=Hid.mk e1
 have e2:decide (((c.is.map Idx.c).length:Int)<5)=decide (c.is.length<5):=decide_eq_decide.2 (by rw[List.length_map];omega)
 replace e2:=Hid.mk e2
 generalize hb0:(decide (c.ts.length<4) && decide (c.is.length<5))=b0
 replace hb0:=Hid.mk hb0
 have kr:=fun b1=>catRest m hgm c hok' b1 hG
 apply L.cutK (ι:=Unit) (fun _=>⟨[(24,aI 0),(23,aI ((c.ts.map Tab.c).length:Int)),(22,.iv (.sl (c.ts.map Tab.c))),(1,.ptr 1 0),(4,aS []),(3,aB b0)],[(1,⟨25,.l [.iv (.sl (c.ts.map Tab.c)),.iv (.sl (c.is.map Idx.c))]⟩)],[]⟩) (fun _=>True)
 · intro hK
   (repeat' (first|refine wk1 ?_|refine wk2 (fun hb hp=> ?_) (fun hb hp=> ?_)|fail))
   all_goals(refine hK _ () trivial ?_;refine Wk.mk' (by intro id h;cases h) (.cons rfl (Sub.refl _) (.cons rfl (Sub.refl _) (.cons rfl (Sub.refl _) (.cons rfl (Sub.refl _) (.cons rfl (Sub.refl _) (.cons rfl (Sub.of_eq (congrArg aB ?_)) .nil)))))) (.cons rfl rfl (Subs.refl _) .nil) .nil)
   all_goals(rw[←hb0.out,←e1.out,←e2.out];clear e1 e2 hb0 kr hK;(first|(simp only[*,Bool.true_and,Bool.and_true,Bool.false_or,Bool.or_false,Bool.or_true,Bool.true_or,Bool.false_and,Bool.and_false,Bool.not_true,Bool.not_false,decide_true,decide_false];done)|(simp only[*,Bool.true_and,Bool.and_true,Bool.false_or,Bool.or_false,Bool.or_true,Bool.true_or,Bool.false_and,Bool.and_false,Bool.not_true,Bool.not_false,decide_true,decide_false];simp;done)|(simp[*];done)|(simp_all;done)))
 rintro u0 _
 try dsimp only
 refine L.cutB (ι:=Unit) (fun _=>⟨[(1,.ptr 1 0),(3,aB (b0 && c.ts.zipIdx.all (fun p=>tabR c p.2 p.1)))],[(1,⟨25,.l [.iv (.sl (c.ts.map Tab.c)),.iv (.sl (c.is.map Idx.c))]⟩)],[]⟩) (fun _=>True) ?_ ?_
 · intro K0 hK0
   clear kr
   refine L.loopP (ι:=Nat) (fun i=>⟨[(24,aI (i:Int)),(23,aI ((c.ts.map Tab.c).length:Int)),(22,.iv (.sl (c.ts.map Tab.c))),(1,.ptr 1 0),(4,aS (lastT c i)),(3,aB (b0 && (c.ts.take i).zipIdx.all (fun p=>tabR c p.2 p.1)))],[(1,⟨25,.l [.iv (.sl (c.ts.map Tab.c)),.iv (.sl (c.is.map Idx.c))]⟩)],[]⟩) (fun i=>c.ts.length - i) (fun i=>True) (i0:=0) ?_ trivial ?_
   · refine Wk.mk' (by intro id h;cases h) (.cons rfl (Sub.refl _) (.cons rfl (Sub.refl _) (.cons rfl (Sub.refl _) (.cons rfl (Sub.refl _) (.cons rfl (Sub.refl _) (.cons rfl (Sub.of_eq (congrArg aB ?_)) .nil)))))) (.cons rfl rfl (Subs.refl _) .nil) .nil
     simp only[List.take_zero,List.zipIdx_nil,List.all_nil,Bool.and_true]
   intro i _ K hK
   cases hx:c.ts[i]? with
   |none=>
    have hlt:=ltF (l:=c.ts.map Tab.c) (getFN hx)
    rw[take_all hx]
    clear hK
    (repeat' (first|refine wk1 ?_|refine wk2 (fun hb hp=> ?_) (fun hb hp=> ?_)|fail))
    refine hK0 _ () trivial ?_
    exact wkk
   |some y=>
    have hlt:=ltT (l:=c.ts.map Tab.c) (getF (f:=Tab.c) hx)
    have hlt':=ltN hx
    have g1:(c.ts.map Tab.c)[((i:Nat):Int).toNat]?=some [S y.n,.sl (y.cols.map Col.c)]:=by rw[Int.toNat_natCast,List.getElem?_map,hx];rfl
    have ky:=isTable_any m hgm y (hts y (List.mem_of_getElem? hx))
    have hst:=all_step (fun p=>tabR c p.2 p.1) hx
    have hla:lastT c (i+1)=y.n:=by
     rw[lastT,if_neg (by omega),Nat.add_sub_cancel,List.getD_eq_getElem?_getD,hx];rfl
    have hid:tabR c i y=(goodTabM y && Op.bytesLess (lastT c i) y.n):=rfl
    rw[←gtS] at hid
    generalize tabR c i y=IR at*
    generalize lastT c i=la at*
    generalize hgt:(!(Op.bytesLess y.n la||y.n==la))=gt at hid
    replace hgt:=Hid.mk hgt
    generalize hB:(b0 && (c.ts.take i).zipIdx.all (fun p=>tabR c p.2 p.1))=B
    have hst2:(b0 && (c.ts.take (i+1)).zipIdx.all (fun p=>tabR c p.2 p.1))=(B && IR):=by rw[hst,←Bool.and_assoc,hB]
    replace hst2:=Hid.mk hst2
    clear hst hB hok' hts his e1 e2 hb0
    replace hid:=Hid.mk hid
    generalize goodTabM y=gb at*
    cases B with
    |false=>
     clear ky hgt
     (repeat' (first|refine wk1 ?_|refine wk2 (fun hb hp=> ?_) (fun hb hp=> ?_)|fail))
     refine hK _ (i+1) trivial (by omega) (Wk.mk' (by intro id h;cases h) (.cons rfl (Sub.refl _) (.cons rfl (Sub.refl _) (.cons rfl (Sub.refl _) (.cons rfl (Sub.refl _) (.cons rfl (Sub.of_eq (congrArg aS hla.symm)) (.cons rfl (Sub.of_eq (congrArg aB ?_)) .nil)))))) (.cons rfl rfl (Subs.refl _) .nil) .nil)
     rw[hst2.out,hid.out];rfl
    |true=>
    cases gb with
    |false=>
     clear hgt
     (repeat' (first|refine wk1 ?_|refine wk2 (fun hb hp=> ?_) (fun hb hp=> ?_)|fail))
     refine hK _ (i+1) trivial (by omega) (Wk.mk' (by intro id h;cases h) (.cons rfl (Sub.refl _) (.cons rfl (Sub.refl _) (.cons rfl (Sub.refl _) (.cons rfl (Sub.refl _) (.cons rfl (Sub.of_eq (congrArg aS hla.symm)) (.cons rfl (Sub.of_eq (congrArg aB ?_)) .nil)))))) (.cons rfl rfl (Subs.refl _) .nil) .nil)
     rw[hst2.out,hid.out];rfl
    |true=>
     (repeat' (first|(refine LW.is ?_;first|(apply s_vr;exact rfl;apply v_gtrG hgt;exact rfl;exact rfl))|(refine DR.is ?_;first|(apply d_vr;exact rfl;apply v_gtrG hgt;exact rfl;exact rfl))|refine wk1 ?_|refine wk2 (fun hb hp=> ?_) (fun hb hp=> ?_)|fail))
     refine hK _ (i+1) trivial (by omega) (Wk.mk' (by intro id h;cases h) (.cons rfl (Sub.refl _) (.cons rfl (Sub.refl _) (.cons rfl (Sub.refl _) (.cons rfl (Sub.refl _) (.cons rfl (Sub.of_eq (congrArg aS hla.symm)) (.cons rfl (Sub.of_eq (congrArg aB ?_)) .nil)))))) (.cons rfl rfl (Subs.refl _) .nil) .nil)
     rw[hst2.out,hid.out];rfl
 rintro u1 _
 exact kr _
end Go.Proofs.YthcjohcakdnmmaaGreatDoor
namespace Go.Proofs.YthcjohcakdnmmaaGreatDoor
open Go.Abs
set_option maxRecDepth 100000
attribute [local irreducible] L LF Code.wp bodyPost Exit.then Exit.inBlock
set_option linter.unusedVariables false
set_option linter.unusedSimpArgs false
structure BdOk (c:Cat) (s:Stm):Prop where
 cat:c.Ok
 ok:s.Ok
 cp:CpOk s
 vs: ∀e∈exprsM s,e.VS
theorem bnd1{es:List (List IV)}{x:List IV}(h:es.length≤1353245080339):es.length+ [x].length≤maxLen:=Nat.le_trans (Nat.succ_le_succ h) (by decide)
theorem bnd2{es:List (List IV)}{x:List IV}(h:es.length≤1353245080339):(es.length+ [x].length)*104≤225000000000000:=Nat.le_trans (Nat.mul_le_mul_right 104 (Nat.succ_le_succ h)) (by decide)
theorem flat_take{l:List (List Ex)}{i:Nat}{x:List Ex}(h:l[i]?=some x):(l.take (i+1)).flatten=(l.take i).flatten++x:=by rw[takeA h,List.flatten_append];simp
theorem flat_le(l:List (List Ex))(i:Nat):(l.take i).flatten.length≤l.flatten.length:=by
 have h:=congrArg (fun x=>x.flatten.length) (List.take_append_drop i l)
 simp only[List.flatten_append,List.length_append] at h
 omega
theorem no_any{gs:Globs}(e:Int):CallG gs Tryz.prog 31 ([aI e] ++ []) [] [] [] (.tup [.agg (nilSt.cs.map .iv),.iv (I e)]):=by
 refine CallG.intro _ Tryz.func31 rfl Tryz.ntmps31 rfl (fun w0 E0 hG=> ?_)
 (repeat' (first|refine wk1 ?_|refine wk2 (fun hb hp=> ?_) (fun hb hp=> ?_)|fail))
 all_goals refine wkf ?_
 all_goals rfl
set_option maxHeartbeats 64000000 in
theorem bindA{gs:Globs}(m:Int)(hgm:maxG m∈gs)(c:Cat)(s:Stm)(hB:BdOk c s){w0:World}{E0:Env}(hG:Glob gs E0 w0){Qp:Ending→World→Prop}(h:L ⟨512,w0,E0,[]⟩ ⟨[(7,aB (formM c s)),(2,.ptr 2 0),(3,.ptr 3 0),(4,.ptr 4 0),(5,aI 0),(6,.fn 31 [])],[(2,⟨25,.l (c.c.map .iv)⟩),(3,⟨36,.l (stmA s (.iv (.sl (s.rows.map exRow))) (.iv (.sl (s.sets.map Ast.c))) (.iv (.sl (s.out.map Ex.c))) (.iv (.sl (s.ord.map Ex.c))))⟩),(4,⟨36,.l stm0A⟩)],[]⟩ (Code.wp Tryz.prog (dropSeq 8 ((Tryz.f7.body).getD .skip)) (bodyPost Tryz.prog Tryz.f7 Qp))):
 L ⟨512,w0,E0,[]⟩ ⟨enter 0 [.agg (c.c.map .iv),.agg (s.cs.map .iv)],[],[]⟩ (Code.wp Tryz.prog ((Tryz.f7.body).getD .skip) (bodyPost Tryz.prog Tryz.f7 Qp)):=by
 obtain⟨hcat,hok,hcp,hvs⟩:=hB
 have htot:=hok.tot
 have hrl:=hok.rows
 have hsl:=hok.sets
 have hall:=hok.all
 have kc:=isCatalog_any m hgm c hcat
 have l1:(s.out.map Ex.c).length=s.out.length:=List.length_map _
 have l2:(s.ord.map Ex.c).length=s.ord.length:=List.length_map _
 have kl1:=map_len exl8 s.out
 have kl2:=map_len exl8 s.ord
 generalize hRn:s.rows.flatten.length=rn at htot
 have hps:s.out.length+s.ord.length+rn+s.sets.length≤1353245080339:=by omega
 have hp0:((s.out++s.ord).map Ex.c)=s.out.map Ex.c++s.ord.map Ex.c:=List.map_append
 apply L.cutK (ι:=Bool) (fun b=>⟨[(77,aI 0),(76,aI ((s.rows.map exRow).length:Int)),(75,.iv (.sl (s.rows.map exRow))),(7,aB b),(8,.row 8 ((s.out++s.ord).map Ex.c)),(2,.ptr 2 0),(3,.ptr 3 0),(4,.ptr 4 0),(5,aI 0),(6,.fn 31 [])],[(2,⟨25,.l (c.c.map .iv)⟩),(3,⟨36,.l (stmA s (.iv (.sl (s.rows.map exRow))) (.iv (.sl (s.sets.map Ast.c))) (.iv (.sl (s.out.map Ex.c))) (.iv (.sl (s.ord.map Ex.c))))⟩),(4,⟨36,.l stm0A⟩)],[(8,⟨34,8⟩)]⟩) (fun b=>b=(goodCatM c && (decide (1≤s.kind) && decide (s.kind≤7))))
 · intro hK
   by_cases hall3:goodCatM c=true∧1≤s.kind∧s.kind≤7
   · have e1:decide ((1:Int)≤s.kind)=true:=decide_eq_true hall3.2.1
     have e2:decide (s.kind≤(7:Int))=true:=decide_eq_true hall3.2.2
     rw[hall3.1] at kc
     (repeat' (first|refine wk1 ?_|refine wk2 (fun hb hp=> ?_) (fun hb hp=> ?_)|fail))
     refine L.retok 8 73 8 rfl rfl rfl rfl ?_
     refine hK _ true (by rw[hall3.1,e1,e2];rfl) ?_
     (refine Wk.mk' (by intro id h;cases h) ?_ ?_ ?_<;>repeat' (first|exact WkF.nil|exact WkB.nil|exact WkT.nil|exact Subs.nil|(refine WkF.cons rfl (Sub.refl _) ?_)|(refine WkF.cons rfl (Sub.of_eq rfl) ?_)|(refine WkF.cons rfl (Sub.of_eq (congrArg aB (by assumption))) ?_)|(refine WkF.cons rfl (Sub.of_eq (congrArg (AV.row 8) hp0.symm)) ?_)|(refine WkF.cons rfl (Sub.row _ _) ?_)|(refine WkB.cons rfl rfl (Subs.refl _) ?_)|(refine WkT.cons rfl ?_)))
   have hJ:=hK
   clear hK
   by_cases hc:goodCatM c=true
   · rw[hc] at kc
     by_cases h1:1≤s.kind
     · have e1:decide ((1:Int)≤s.kind)=true:=decide_eq_true h1
       have e2:decide (s.kind≤(7:Int))=false:=decide_eq_false (fun h=>hall3 ⟨hc,h1,h⟩)
       (repeat' (first|refine wk1 ?_|refine wk2 (fun hb hp=> ?_) (fun hb hp=> ?_)|fail))
       refine L.retok 8 73 8 rfl rfl rfl rfl ?_
       refine hJ _ false (by rw[hc,e1,e2];rfl) ?_
       (refine Wk.mk' (by intro id h;cases h) ?_ ?_ ?_<;>repeat' (first|exact WkF.nil|exact WkB.nil|exact WkT.nil|exact Subs.nil|(refine WkF.cons rfl (Sub.refl _) ?_)|(refine WkF.cons rfl (Sub.of_eq rfl) ?_)|(refine WkF.cons rfl (Sub.of_eq (congrArg aB (by assumption))) ?_)|(refine WkF.cons rfl (Sub.of_eq (congrArg (AV.row 8) hp0.symm)) ?_)|(refine WkF.cons rfl (Sub.row _ _) ?_)|(refine WkB.cons rfl rfl (Subs.refl _) ?_)|(refine WkT.cons rfl ?_)))
     · have e1:decide ((1:Int)≤s.kind)=false:=decide_eq_false h1
       (repeat' (first|refine wk1 ?_|refine wk2 (fun hb hp=> ?_) (fun hb hp=> ?_)|fail))
       refine L.retok 8 73 8 rfl rfl rfl rfl ?_
       refine hJ _ false (by rw[hc,e1];rfl) ?_
       (refine Wk.mk' (by intro id h;cases h) ?_ ?_ ?_<;>repeat' (first|exact WkF.nil|exact WkB.nil|exact WkT.nil|exact Subs.nil|(refine WkF.cons rfl (Sub.refl _) ?_)|(refine WkF.cons rfl (Sub.of_eq rfl) ?_)|(refine WkF.cons rfl (Sub.of_eq (congrArg aB (by assumption))) ?_)|(refine WkF.cons rfl (Sub.of_eq (congrArg (AV.row 8) hp0.symm)) ?_)|(refine WkF.cons rfl (Sub.row _ _) ?_)|(refine WkB.cons rfl rfl (Subs.refl _) ?_)|(refine WkT.cons rfl ?_)))
   · have hc0:goodCatM c=false:=by simpa using hc
     rw[hc0] at kc
     (repeat' (first|refine wk1 ?_|refine wk2 (fun hb hp=> ?_) (fun hb hp=> ?_)|fail))
     refine L.retok 8 73 8 rfl rfl rfl rfl ?_
     refine hJ _ false (by rw[hc0];rfl) ?_
     (refine Wk.mk' (by intro id h;cases h) ?_ ?_ ?_<;>repeat' (first|exact WkF.nil|exact WkB.nil|exact WkT.nil|exact Subs.nil|(refine WkF.cons rfl (Sub.refl _) ?_)|(refine WkF.cons rfl (Sub.of_eq rfl) ?_)|(refine WkF.cons rfl (Sub.of_eq (congrArg aB (by assumption))) ?_)|(refine WkF.cons rfl (Sub.of_eq (congrArg (AV.row 8) hp0.symm)) ?_)|(refine WkF.cons rfl (Sub.row _ _) ?_)|(refine WkB.cons rfl rfl (Subs.refl _) ?_)|(refine WkT.cons rfl ?_)))
 rintro b hb
 try dsimp only
 clear kc l1 l2 hp0 kl1 kl2
 refine L.loopP (ι:=Nat) (fun i=>⟨[(77,aI (i:Int)),(76,aI ((s.rows.map exRow).length:Int)),(75,.iv (.sl (s.rows.map exRow))),(7,aB b),(8,.row 8 (((s.out++s.ord)++(s.rows.take i).flatten).map Ex.c)),(2,.ptr 2 0),(3,.ptr 3 0),(4,.ptr 4 0),(5,aI 0),(6,.fn 31 [])],[(2,⟨25,.l (c.c.map .iv)⟩),(3,⟨36,.l (stmA s (.iv (.sl (s.rows.map exRow))) (.iv (.sl (s.sets.map Ast.c))) (.iv (.sl (s.out.map Ex.c))) (.iv (.sl (s.ord.map Ex.c))))⟩),(4,⟨36,.l stm0A⟩)],[(8,⟨34,8⟩)]⟩) (fun i=>s.rows.length - i) (fun _=>True) (i0:=0) ?_ trivial ?_
 · (refine Wk.mk' (by intro id h;cases h) ?_ ?_ ?_<;>repeat' (first|exact WkF.nil|exact WkB.nil|exact WkT.nil|exact Subs.nil|(refine WkF.cons rfl (Sub.refl _) ?_)|(refine WkF.cons rfl (Sub.of_eq rfl) ?_)|(refine WkF.cons rfl (Sub.of_eq (congrArg aB (by assumption))) ?_)|(refine WkF.cons rfl (Sub.of_eq (by simp)) ?_)|(refine WkF.cons rfl (Sub.row _ _) ?_)|(refine WkB.cons rfl rfl (Subs.refl _) ?_)|(refine WkT.cons rfl ?_)))
 intro i _ K hK
 cases hx:s.rows[i]? with
 |some x=>
  have hlt:=ltT (l:=s.rows.map exRow) (getF (f:=exRow) hx)
  have hlt':=ltN hx
  have hil:i<s.rows.length:=(List.getElem?_eq_some_iff.1 hx).1
  have g1:(s.rows.map exRow)[((i:Nat):Int).toNat]?=some [.sl (x.map Ex.c)]:=by rw[Int.toNat_natCast,List.getElem?_map,hx];rfl
  have hst:=flat_take hx
  have hle:=flat_le s.rows (i+1)
  rw[hst,List.length_append,hRn] at hle
  clear hRn
  have n1:((s.out++s.ord)++(s.rows.take (i+1)).flatten).map Ex.c=((s.out++s.ord)++(s.rows.take i).flatten).map Ex.c++x.map Ex.c:=by rw[hst,←List.append_assoc,List.map_append]
  have q1:(((s.out++s.ord)++(s.rows.take i).flatten).map Ex.c).length=s.out.length+s.ord.length+(s.rows.take i).flatten.length:=by rw[List.length_map,List.length_append,List.length_append]
  have q2:(x.map Ex.c).length=x.length:=List.length_map _
  have k1:=map_len exl8 ((s.out++s.ord)++(s.rows.take i).flatten)
  have k2:=map_len exl8 x
  generalize (s.rows.take i).flatten.length=tn at*
  generalize ((s.out++s.ord)++(s.rows.take i).flatten).map Ex.c=es at*
  clear hst hall hvs
  (repeat' (first|(refine LW.is ?_;first|(apply s_append;exact rfl;exact rfl;exact rfl;exact rfl;exact k1;exact k2;(simp only[maxLen];omega);omega;exact rfl;exact rfl))|(refine DR.is ?_;first|(apply d_append;exact rfl;exact rfl;exact rfl;exact rfl;exact k1;exact k2;(simp only[maxLen];omega);omega;exact rfl;exact rfl))|refine wk1 ?_|refine wk2 (fun hb hp=> ?_) (fun hb hp=> ?_)|fail))
  refine L.onlyS [77,76,75,7,8,2,3,4,5,6] [2,3,4] rfl ?_
  refine L.retok 8 83 8 rfl rfl rfl rfl ?_
  refine hK _ (i+1) trivial (by omega) ?_
  (refine Wk.mk' (by intro id h;cases h) ?_ ?_ ?_<;>repeat' (first|exact WkF.nil|exact WkB.nil|exact WkT.nil|exact Subs.nil|(refine WkF.cons rfl (Sub.refl _) ?_)|(refine WkF.cons rfl (Sub.of_eq rfl) ?_)|(refine WkF.cons rfl (Sub.of_eq (congrArg aB (by assumption))) ?_)|(refine WkF.cons rfl (Sub.of_eq (congrArg (AV.row 8) n1.symm)) ?_)|(refine WkF.cons rfl (Sub.row _ _) ?_)|(refine WkB.cons rfl rfl (Subs.refl _) ?_)|(refine WkT.cons rfl ?_)))
 |none=>
 have hlt:=ltF (l:=s.rows.map exRow) (getFN hx)
 rw[List.take_of_length_le (List.getElem?_eq_none_iff.1 hx)]
 clear hK
 have hpl:((s.out++s.ord)++s.rows.flatten).length=s.out.length+s.ord.length+rn:=by rw[List.length_append,List.length_append,hRn]
 have hex:exprsM s=(((s.out++s.ord)++s.rows.flatten)++s.sets.map Ast.e)++(if s.wh.op=0 then [] else [s.wh]):=rfl
 generalize ((s.out++s.ord)++s.rows.flatten)=pre at*
 clear hRn
 (repeat' (first|refine wk1 ?_|refine wk2 (fun hb hp=> ?_) (fun hb hp=> ?_)|fail))
 refine L.loopP (ι:=Nat) (fun i=>⟨[(88,aI (i:Int)),(87,aI ((s.sets.map Ast.c).length:Int)),(86,.iv (.sl (s.sets.map Ast.c))),(7,aB b),(8,.row 8 ((pre++(s.sets.take i).map Ast.e).map Ex.c)),(2,.ptr 2 0),(3,.ptr 3 0),(4,.ptr 4 0),(5,aI 0),(6,.fn 31 [])],[(2,⟨25,.l (c.c.map .iv)⟩),(3,⟨36,.l (stmA s (.iv (.sl (s.rows.map exRow))) (.iv (.sl (s.sets.map Ast.c))) (.iv (.sl (s.out.map Ex.c))) (.iv (.sl (s.ord.map Ex.c))))⟩),(4,⟨36,.l stm0A⟩)],[(8,⟨34,8⟩)]⟩) (fun i=>s.sets.length - i) (fun _=>True) (i0:=0) ?_ trivial ?_
 · (refine Wk.mk' (by intro id h;cases h) ?_ ?_ ?_<;>repeat' (first|exact WkF.nil|exact WkB.nil|exact WkT.nil|exact Subs.nil|(refine WkF.cons rfl (Sub.refl _) ?_)|(refine WkF.cons rfl (Sub.of_eq rfl) ?_)|(refine WkF.cons rfl (Sub.of_eq (congrArg aB (by assumption))) ?_)|(refine WkF.cons rfl (Sub.of_eq (by simp)) ?_)|(refine WkF.cons rfl (Sub.row _ _) ?_)|(refine WkB.cons rfl rfl (Subs.refl _) ?_)|(refine WkT.cons rfl ?_)))
 clear hx hlt
 intro i _ K hK
 cases hx:s.sets[i]? with
 |some x=>
  have hlt:=ltT (l:=s.sets.map Ast.c) (getF (f:=Ast.c) hx)
  have hlt':=ltN hx
  have hil:i<s.sets.length:=(List.getElem?_eq_some_iff.1 hx).1
  have hxc:x.c= [S x.co,I x.e.op,I x.e.v.k,I x.e.v.n,S x.e.v.s,S x.e.s,S x.e.name,I x.e.n,.sl (x.e.l.map Ex.c)]:=by unfold Ast.c;cases x.e;rfl
  have g1:(s.sets.map Ast.c)[((i:Nat):Int).toNat]?=some [S x.co,I x.e.op,I x.e.v.k,I x.e.v.n,S x.e.v.s,S x.e.s,S x.e.name,I x.e.n,.sl (x.e.l.map Ex.c)]:=by rw[Int.toNat_natCast,List.getElem?_map,hx,←hxc];rfl
  have n1:(pre++(s.sets.take (i+1)).map Ast.e).map Ex.c=(pre++(s.sets.take i).map Ast.e).map Ex.c++ [[I x.e.op,I x.e.v.k,I x.e.v.n,S x.e.v.s,S x.e.s,S x.e.name,I x.e.n,.sl (x.e.l.map Ex.c)]]:=by
   rw[takeA hx];simp only[List.map_append,List.append_assoc,List.map_cons,List.map_nil,Ex.c_cs];cases x.e;rfl
  have q1:((pre++(s.sets.take i).map Ast.e).map Ex.c).length=pre.length+i:=by rw[List.length_map,List.length_append,List.length_map,List.length_take];omega
  have k1:=map_len exl8 (pre++(s.sets.take i).map Ast.e)
  have hbn:((pre++(s.sets.take i).map Ast.e).map Ex.c).length≤1353245080339:=by
   rw[q1,hpl]
   exact Nat.le_trans (Nat.add_le_add_left (Nat.le_of_lt hil) _) hps
  clear q1
  generalize (pre++(s.sets.take i).map Ast.e).map Ex.c=es at*
  clear hall hvs hex
  (repeat' (first|(refine LW.is ?_;first|(apply s_append;exact rfl;exact rfl;exact rfl;exact rfl;exact k1;exact len_cons rfl len_nil;exact bnd1 hbn;exact bnd2 hbn;exact rfl;exact rfl))|(refine DR.is ?_;first|(apply d_append;exact rfl;exact rfl;exact rfl;exact rfl;exact k1;exact len_cons rfl len_nil;exact bnd1 hbn;exact bnd2 hbn;exact rfl;exact rfl))|refine wk1 ?_|refine wk2 (fun hb hp=> ?_) (fun hb hp=> ?_)|fail))
  refine L.onlyS [88,87,86,7,8,2,3,4,5,6] [2,3,4] rfl ?_
  refine L.retok 8 96 8 rfl rfl rfl rfl ?_
  refine hK _ (i+1) trivial (by omega) ?_
  (refine Wk.mk' (by intro id h;cases h) ?_ ?_ ?_<;>repeat' (first|exact WkF.nil|exact WkB.nil|exact WkT.nil|exact Subs.nil|(refine WkF.cons rfl (Sub.refl _) ?_)|(refine WkF.cons rfl (Sub.of_eq rfl) ?_)|(refine WkF.cons rfl (Sub.of_eq (congrArg aB (by assumption))) ?_)|(refine WkF.cons rfl (Sub.of_eq (congrArg (AV.row 8) n1.symm)) ?_)|(refine WkF.cons rfl (Sub.row _ _) ?_)|(refine WkB.cons rfl rfl (Subs.refl _) ?_)|(refine WkT.cons rfl ?_)))
 |none=>
 have hlt:=ltF (l:=s.sets.map Ast.c) (getFN hx)
 rw[List.take_of_length_le (List.getElem?_eq_none_iff.1 hx)]
 clear hK
 have hpl2:((pre++s.sets.map Ast.e).map Ex.c).length=pre.length+s.sets.length:=by rw[List.length_map,List.length_append,List.length_map]
 have k1:=map_len exl8 (pre++s.sets.map Ast.e)
 have hbn:((pre++s.sets.map Ast.e).map Ex.c).length≤1353245080339:=by
  rw[hpl2,hpl]
  exact hps
 have hAl:(exprsM s).length≤1353245080340:=by
  rw[List.length_map] at hbn
  rw[hex,List.length_append]
  refine Nat.le_trans (Nat.add_le_add hbn (show _≤1 from ?_)) (by decide)
  split
  · exact Nat.zero_le _
  · exact Nat.le_refl _
 clear hpl2 hpl
 generalize pre++s.sets.map Ast.e=pre2 at*
 apply L.cutK (ι:=Unit) (fun _=>⟨[(109,aI 0),(108,aI (((exprsM s).map Ex.c).length:Int)),(107,.iv (.sl ((exprsM s).map Ex.c))),(7,aB b),(2,.ptr 2 0),(3,.ptr 3 0),(4,.ptr 4 0),(5,aI 0),(6,.fn 31 [])],[(2,⟨25,.l (c.c.map .iv)⟩),(3,⟨36,.l (stmA s (.iv (.sl (s.rows.map exRow))) (.iv (.sl (s.sets.map Ast.c))) (.iv (.sl (s.out.map Ex.c))) (.iv (.sl (s.ord.map Ex.c))))⟩),(4,⟨36,.l stm0A⟩)],[]⟩) (fun _=>True)
 · intro hK
   by_cases hw:s.wh.op=0
   · have e1:(s.wh.op !=0)=false:=by simp[hw]
     rw[if_pos hw,List.append_nil] at hex
     rw[hex] at hK
     clear hex
     (repeat' (first|refine wk1 ?_|refine wk2 (fun hb hp=> ?_) (fun hb hp=> ?_)|fail))
     refine hK _ () trivial ?_
     (refine Wk.mk' (by intro id h;cases h) ?_ ?_ ?_<;>repeat' (first|exact WkF.nil|exact WkB.nil|exact WkT.nil|exact Subs.nil|(refine WkF.cons rfl (Sub.refl _) ?_)|(refine WkF.cons rfl (Sub.of_eq rfl) ?_)|(refine WkF.cons rfl (Sub.of_eq (congrArg aB (by assumption))) ?_)|(refine WkF.cons rfl (Sub.of_eq (congrArg (AV.row 8) hp0.symm)) ?_)|(refine WkF.cons rfl (Sub.row _ _) ?_)|(refine WkB.cons rfl rfl (Subs.refl _) ?_)|(refine WkT.cons rfl ?_)))
   · have e1:(s.wh.op !=0)=true:=by simp[hw]
     rw[if_neg hw] at hex
     have hwc: [s.wh].map Ex.c= [[I s.wh.op,I s.wh.v.k,I s.wh.v.n,S s.wh.v.s,S s.wh.s,S s.wh.name,I s.wh.n,.sl (s.wh.l.map Ex.c)]]:=by rw[List.map_cons,Ex.c_cs];cases s.wh;rfl
     rw[hex,List.map_append,hwc] at hK
     clear hex hwc
     (repeat' (first|(refine LW.is ?_;first|(apply s_append;exact rfl;exact rfl;exact rfl;exact rfl;exact k1;exact len_cons rfl len_nil;exact bnd1 hbn;exact bnd2 hbn;exact rfl;exact rfl))|(refine DR.is ?_;first|(apply d_append;exact rfl;exact rfl;exact rfl;exact rfl;exact k1;exact len_cons rfl len_nil;exact bnd1 hbn;exact bnd2 hbn;exact rfl;exact rfl))|refine wk1 ?_|refine wk2 (fun hb hp=> ?_) (fun hb hp=> ?_)|fail))
     refine hK _ () trivial ?_
     (refine Wk.mk' (by intro id h;cases h) ?_ ?_ ?_<;>repeat' (first|exact WkF.nil|exact WkB.nil|exact WkT.nil|exact Subs.nil|(refine WkF.cons rfl (Sub.refl _) ?_)|(refine WkF.cons rfl (Sub.of_eq rfl) ?_)|(refine WkF.cons rfl (Sub.of_eq (congrArg aB (by assumption))) ?_)|(refine WkF.cons rfl (Sub.of_eq (congrArg (AV.row 8) hp0.symm)) ?_)|(refine WkF.cons rfl (Sub.row _ _) ?_)|(refine WkB.cons rfl rfl (Subs.refl _) ?_)|(refine WkT.cons rfl ?_)))
 rintro u0 _
 try dsimp only
 clear k1 hex hx hlt hbn
 generalize hA:exprsM s=A at*
 refine L.cutB (ι:=Unit) (fun _=>⟨[(7,aB (formM c s)),(2,.ptr 2 0),(3,.ptr 3 0),(4,.ptr 4 0),(5,aI 0),(6,.fn 31 [])],[(2,⟨25,.l (c.c.map .iv)⟩),(3,⟨36,.l (stmA s (.iv (.sl (s.rows.map exRow))) (.iv (.sl (s.sets.map Ast.c))) (.iv (.sl (s.out.map Ex.c))) (.iv (.sl (s.ord.map Ex.c))))⟩),(4,⟨36,.l stm0A⟩)],[]⟩) (fun _=>True) ?_ ?_
 · intro K hK
   refine L.loopP (ι:=Nat) (fun i=>⟨[(109,aI (i:Int)),(108,aI ((A.map Ex.c).length:Int)),(107,.iv (.sl (A.map Ex.c))),(7,aB (b && (A.take i).all (goodExM 1))),(2,.ptr 2 0),(3,.ptr 3 0),(4,.ptr 4 0),(5,aI 0),(6,.fn 31 [])],[(2,⟨25,.l (c.c.map .iv)⟩),(3,⟨36,.l (stmA s (.iv (.sl (s.rows.map exRow))) (.iv (.sl (s.sets.map Ast.c))) (.iv (.sl (s.out.map Ex.c))) (.iv (.sl (s.ord.map Ex.c))))⟩),(4,⟨36,.l stm0A⟩)],[]⟩) (fun i=>A.length - i) (fun _=>True) (i0:=0) ?_ trivial ?_
   · (refine Wk.mk' (by intro id h;cases h) ?_ ?_ ?_<;>repeat' (first|exact WkF.nil|exact WkB.nil|exact WkT.nil|exact Subs.nil|(refine WkF.cons rfl (Sub.refl _) ?_)|(refine WkF.cons rfl (Sub.of_eq rfl) ?_)|(refine WkF.cons rfl (Sub.of_eq (congrArg aB (by assumption))) ?_)|(refine WkF.cons rfl (Sub.of_eq (by simp)) ?_)|(refine WkF.cons rfl (Sub.row _ _) ?_)|(refine WkB.cons rfl rfl (Subs.refl _) ?_)|(refine WkT.cons rfl ?_)))
   intro i _ K2 hK2
   cases hx:A[i]? with
   |none=>
    have hlt:=ltF (l:=A.map Ex.c) (getFN hx)
    rw[List.take_of_length_le (List.getElem?_eq_none_iff.1 hx)]
    clear hK2 hall hvs
    have hf:Hid (formM c s=(b && A.all (goodExM 1))):=⟨by
     unfold formM
     rw[hb,hA,←any_not]
     have e1:decide (s.kind<1)= !decide (1≤s.kind):=by by_cases h:1≤s.kind<;>simp[h] <;>omega
     have e2:decide (7<s.kind)= !decide (s.kind≤7):=by by_cases h:s.kind≤7<;>simp[h] <;>omega
     rw[e1,e2]
     generalize goodCatM c=x1
     generalize decide (1≤s.kind)=x2
     generalize decide (s.kind≤7)=x3
     generalize (A.any fun x=> !goodExM 1 x)=x4
     cases x1<;>cases x2<;>cases x3<;>cases x4<;>rfl⟩
    clear hb
    generalize (b && A.all (goodExM 1))=z at*
    (repeat' (first|refine wk1 ?_|refine wk2 (fun hb hp=> ?_) (fun hb hp=> ?_)|fail))
    refine hK _ () trivial ?_
    rw[hf.out]
    (refine Wk.mk' (by intro id h;cases h) ?_ ?_ ?_<;>repeat' (first|exact WkF.nil|exact WkB.nil|exact WkT.nil|exact Subs.nil|(refine WkF.cons rfl (Sub.refl _) ?_)|(refine WkF.cons rfl (Sub.of_eq rfl) ?_)|(refine WkF.cons rfl (Sub.of_eq (congrArg aB (by assumption))) ?_)|(refine WkF.cons rfl (Sub.of_eq (congrArg (AV.row 8) hp0.symm)) ?_)|(refine WkF.cons rfl (Sub.row _ _) ?_)|(refine WkB.cons rfl rfl (Subs.refl _) ?_)|(refine WkT.cons rfl ?_)))
   |some x=>
    have hlt:=ltT (l:=A.map Ex.c) (getF (f:=Ex.c) hx)
    have hlt':=ltN hx
    have hxm:=List.mem_of_getElem? hx
    have g1:(A.map Ex.c)[((i:Nat):Int).toNat]?=some [I x.op,I x.v.k,I x.v.n,S x.v.s,S x.s,S x.name,I x.n,.sl (x.l.map Ex.c)]:=by rw[Int.toNat_natCast,List.getElem?_map,hx];exact congrArg some (Ex.c_cs x)
    have ke:=isExpr_any m hgm x (hall x hxm) (hvs x hxm) 40 (by decide) (by decide)
    have hxc:x.cs= [I x.op,I x.v.k,I x.v.n,S x.v.s,S x.s,S x.name,I x.n,.sl (x.l.map Ex.c)]:=by cases x;rfl
    rw[hxc,show(41 - 40:Int)=1 from rfl] at ke
    have hst:=allX_step (g:=goodExM 1) hx
    have hst2:Hid ((b && (A.take (i+1)).all (goodExM 1))=((b && (A.take i).all (goodExM 1)) && goodExM 1 x)):=⟨by rw[hst,Bool.and_assoc]⟩
    clear hst hall hvs hb
    generalize (b && (A.take i).all (goodExM 1))=B at*
    generalize goodExM 1 x=G at*
    clear hK
    cases B with
    |false=>
     (repeat' (first|refine wk1 ?_|refine wk2 (fun hb hp=> ?_) (fun hb hp=> ?_)|fail))
     refine hK2 _ (i+1) trivial (by omega) ?_
     rw[hst2.out]
     exact wkk
    |true=>
     (repeat' (first|refine wk1 ?_|refine wk2 (fun hb hp=> ?_) (fun hb hp=> ?_)|fail))
     refine hK2 _ (i+1) trivial (by omega) ?_
     rw[hst2.out]
     exact wkk
 rintro u1 _
 exact h
theorem bindForm_any{gs:Globs}(m:Int)(hgm:maxG m∈gs)(c:Cat)(s:Stm)(hB:BdOk c s)(hf:formM c s=false):CallG gs Tryz.prog 7 [.agg (c.c.map .iv),.agg (s.cs.map .iv)] [] [] [] (.tup [.agg (nilSt.cs.map .iv),.iv (I 1)]):=by
 refine CallG.intro (code:=((Tryz.f7.body).getD .skip)) _ Tryz.func7 rfl Tryz.ntmps7 rfl (fun w0 E0 hG=> ?_)
 refine bindA m hgm c s hB hG ?_
 have kn:=no_any (gs:=gs) 1
 rw[hf]
 (repeat' (first|(apply s_callFnW [] (f:=31) (avs:= [aI 1]) (caps:= []) (bxi:= []);exact rfl;exact hG;exact rfl;exact kn;exact Subs.of_eq rfl;exact .nil;exact rfl;exact rfl;exact rfl;exact rfl)|refine wk1 ?_|refine wk2 (fun hb hp=> ?_) (fun hb hp=> ?_)|fail))
 all_goals refine wkf ?_
 all_goals rfl
end Go.Proofs.YthcjohcakdnmmaaGreatDoor
namespace Go.Proofs.YthcjohcakdnmmaaGreatDoor
open Go.Abs
set_option linter.unusedVariables false
set_option linter.unusedSimpArgs false
theorem typed_same{ts:List Tab}(hu: ∀t∈ts,Uniq t)(e:Ex)(hr:RefE e)(k:Int):(dcTyped (dcCols ts) e k).2=(mustM ts e k).2∧((mustM ts e k).2=0→dcTyped (dcCols ts) e k=mustM ts e k):=by
 obtain⟨h1,h2⟩:=bind_same hu e hr
 unfold dcTyped mustM
 by_cases hf:(bindM ts e).2.2=0
 · rw[h2 hf,if_neg (show¬(bindM ts e).2.2≠0 by simp[hf])]
   by_cases ht:(bindM ts e).2.1≠0∧(bindM ts e).2.1≠k
   · rw[if_pos ⟨hf,ht.1,ht.2⟩,if_pos (by simp[ht.1,ht.2])]
     exact⟨rfl,fun _=>rfl⟩
   · rw[if_neg (fun h=>ht h.2),if_neg (by
      intro h
      rw[Bool.and_eq_true] at h
      exact ht ⟨by simpa using h.2,by simpa using h.1⟩),hf]
     exact⟨rfl,fun _=>rfl⟩
 · rw[if_neg (fun h=>hf (h1▸h.1)),if_pos hf]
   exact⟨h1,fun h=>absurd h hf⟩
theorem cols_ok{ts:List Tab}(h: ∀t∈ts,∀c∈t.cols,0≤c.t∧c.t≤3):ColsOk (dcCols ts):=fun x hx=>by
 unfold dcCols at hx
 obtain⟨t,ht,hx⟩:=List.mem_flatMap.1 hx
 obtain⟨c,hc,rfl⟩:=List.mem_map.1 hx
 exact h t ht c hc
theorem good_cols{t:Tab}(h:goodTabM t=true): ∀c∈t.cols,0≤c.t∧c.t≤3:=fun c hc=>by
 unfold goodTabM colsOk at h
 rw[Bool.and_eq_true,List.all_eq_true] at h
 obtain⟨i,hi⟩:=List.mem_iff_getElem?.1 hc
 have:=h.1 (c,i) (by rw[List.mem_zipIdx_iff_getElem?];exact hi)
 unfold colOk at this
 simp only[Bool.not_eq_true',Bool.or_eq_false_iff,Bool.and_eq_false_iff,bne_eq_false_iff_eq] at this
 rcases this.1.2 with h|h<;>rw[h] <;>decide
end Go.Proofs.YthcjohcakdnmmaaGreatDoor
namespace Go.Proofs.YthcjohcakdnmmaaGreatDoor
open Go.Abs
set_option maxRecDepth 100000
attribute [local irreducible] L LF Code.wp bodyPost Exit.then Exit.inBlock
set_option linter.unusedVariables false
set_option linter.unusedSimpArgs false
@[reducible] def nav:List Nat→Code→Code
  | [],x=>x
  |0::p,.seq a _=>nav p a
  |1::p,.seq _ b=>nav p b
  |0::p,.cond _ a _=>nav p a
  |1::p,.cond _ _ b=>nav p b
  |0::p,.block _ a=>nav p a
  |0::p,.loop a=>nav p a
  |_::_,x=>x
def noSt(c:Cat)(e:Int):St:=⟨[(4,.ptr 4 0),(5,aI e)],[(2,⟨25,.l (c.c.map .iv)⟩),(3,⟨36,.l (List.replicate 20 AV.any)⟩),(4,⟨36,.l (nilSt.cs.map .iv)⟩)],[]⟩
theorem subs20{l:List AV}(h:l.length=20):Subs l (List.replicate 20 AV.any):=by
 refine⟨by simp[h],fun i x y hx hy=> ?_⟩
 rw[List.getElem?_replicate] at hy
 split at hy
 · cases hy;exact Sub.any _
 · cases hy
def tailM(ts:List Tab)(s:Stm):Stm×Int:=if(whereM ts s.wh).2≠0 then(nilSt,(whereM ts s.wh).2) else({s with wh:=(whereM ts s.wh).1},0)
set_option maxHeartbeats 16000000 in
theorem tailW{gs:Globs}(c:Cat)(s:Stm)(ts:List Tab)(hcl:(dcCols ts).length≤1000000)(hco:ColsOk (dcCols ts))(hu: ∀t∈ts,Uniq t)(hw:s.wh.op=0∨s.wh.BS){w0:World}{E0:Env}(hG:Glob gs E0 w0):
 L ⟨512,w0,E0,[]⟩ ⟨[(2,.ptr 2 0),(3,.ptr 3 0),(4,.ptr 4 0),(6,.fn 31 []),(17,.iv (.sl ((dcCols ts).map colnC)))],[(2,⟨25,.l (c.c.map .iv)⟩),(3,⟨36,.l (stmA s (.iv (.sl (s.rows.map exRow))) (.iv (.sl (s.sets.map Ast.c))) (.iv (.sl (s.out.map Ex.c))) (.iv (.sl (s.ord.map Ex.c))))⟩),(4,⟨36,.l stm0A⟩)],[]⟩ (Code.wp Tryz.prog (dropSeq 13 ((Tryz.f7.body).getD .skip)) (bodyPost Tryz.prog Tryz.f7 (Post ⟨512,w0,E0,[]⟩ [] [] (.tup [.agg ((tailM ts s).1.cs.map .iv),.iv (I (tailM ts s).2)])))):=by
 have kn: ∀e:Int,CallG gs Tryz.prog 31 ([aI e] ++ []) [] [] [] (.tup [.agg (nilSt.cs.map .iv),.iv (I e)]):=fun e=>no_any e
 by_cases h0:s.wh.op=0
 · have q:(s.wh.op !=0)=false:=by simp[h0]
   rw[show tailM ts s=(s,0) by unfold tailM whereM;rw[if_pos h0];rfl]
   (repeat' (first|refine wk1 ?_|refine wk2 (fun hb hp=> ?_) (fun hb hp=> ?_)|fail))
   all_goals refine wkf ?_
   all_goals rfl
 · have q:(s.wh.op !=0)=true:=by simp[h0]
   have hb:=hw.resolve_left h0
   have kt:=typed_any (gs:=gs) (dcCols ts) hcl hco s.wh hb 3
   obtain⟨h1,h2⟩:=typed_same hu s.wh hb.ref 3
   have hwc:s.wh.cs= [I s.wh.op,I s.wh.v.k,I s.wh.v.n,S s.wh.v.s,S s.wh.s,S s.wh.name,I s.wh.n,.sl (s.wh.l.map Ex.c)]:=by cases s.wh;rfl
   rw[hwc] at kt
   rw[show tailM ts s=if(mustM ts s.wh 3).2≠0 then(nilSt,(mustM ts s.wh 3).2) else({s with wh:=(mustM ts s.wh 3).1},0) by unfold tailM whereM;rw[if_neg h0]]
   by_cases hf:(mustM ts s.wh 3).2=0
   · rw[if_neg (by rw[hf];decide)]
     rw[h2 hf] at kt
     generalize mustM ts s.wh 3=r at*
     obtain⟨e,f⟩:=r
     dsimp only at hf kt⊢
     subst hf
     have hec:e.cs= [I e.op,I e.v.k,I e.v.n,S e.v.s,S e.s,S e.name,I e.n,.sl (e.l.map Ex.c)]:=by cases e;rfl
     rw[hec] at kt
     clear h1 h2 hwc hw hb
     (repeat' (first|refine wk1 ?_|refine wk2 (fun hb hp=> ?_) (fun hb hp=> ?_)|fail))
     all_goals refine wkf ?_
     all_goals rfl
   · rw[if_pos hf]
     rw[←h1] at hf⊢
     generalize dcTyped (dcCols ts) s.wh 3=r at*
     obtain⟨e,f⟩:=r
     dsimp only at hf kt⊢
     have q2:(f !=0)=true:=by simpa using hf
     have hec:e.cs= [I e.op,I e.v.k,I e.v.n,S e.v.s,S e.s,S e.name,I e.n,.sl (e.l.map Ex.c)]:=by cases e;rfl
     rw[hec] at kt
     clear h1 h2 hwc hw hb
     (repeat' (first|(apply s_callFnW [] (f:=31) (avs:= [aI f]) (caps:= []) (bxi:= []);exact rfl;exact hG;exact rfl;exact kn f;exact Subs.of_eq rfl;exact .nil;exact rfl;exact rfl;exact rfl;exact rfl)|refine wk1 ?_|refine wk2 (fun hb hp=> ?_) (fun hb hp=> ?_)|fail))
     all_goals refine wkf ?_
     all_goals rfl
end Go.Proofs.YthcjohcakdnmmaaGreatDoor
namespace Go.Proofs.YthcjohcakdnmmaaGreatDoor
open Go.Abs
set_option maxRecDepth 100000
attribute [local irreducible] L Code.wp bodyPost Exit.then Exit.inBlock
set_option linter.unusedVariables false
set_option linter.unusedSimpArgs false
theorem goodCat_tab{c:Cat}(h:goodCatM c=true){t:Tab}(ht:t∈c.ts):goodTabM t=true:=by
 simp only[goodCatM,Bool.and_eq_true] at h
 obtain⟨i,hi,rfl⟩:=List.mem_iff_getElem.1 ht
 have h1:=List.all_eq_true.1 h.1 (c.ts[i],i) (List.mem_zipIdx_iff_getElem?.2 (by simp))
 simp only[tabOk,Bool.not_eq_true',Bool.or_eq_false_iff,Bool.not_eq_false'] at h1
 exact h1.1
end Go.Proofs.YthcjohcakdnmmaaGreatDoor
namespace Go.Proofs.YthcjohcakdnmmaaGreatDoor
open Go.Abs
set_option linter.unusedVariables false
set_option linter.unusedSimpArgs false
def okT(ty:Int)(v:Val):Prop:=(v.k=0∨v.k=ty)∧(ty≠3→goodM v=true)
theorem fitV_ok{c:Col}{v:Val}(h:fitV c v=true):okT c.t v:=by
 unfold fitV at h
 simp only[Bool.not_eq_true',Bool.or_eq_false_iff,Bool.not_eq_false',Bool.and_eq_false_iff,bne_eq_false_iff_eq] at h
 refine⟨?_,fun _=>h.1⟩
 rcases h.2 with h|h
 · exact .inr h
 · exact .inl h.2
theorem form_good{c:Cat}{s:Stm}(h:formM c s=true):goodCatM c=true∧ ∀e∈exprsM s,goodExM 1 e=true:=by
 simp only[formM,Bool.not_eq_true',Bool.or_eq_false_iff,Bool.not_eq_false'] at h
 refine⟨h.1.1.1,fun e he=> ?_⟩
 have:=List.any_eq_false.1 h.2 e he
 simpa using this
end Go.Proofs.YthcjohcakdnmmaaGreatDoor
namespace Go.Proofs.YthcjohcakdnmmaaGreatDoor
open Go.Abs
set_option maxRecDepth 100000
attribute [local irreducible] L Code.wp bodyPost Exit.then Exit.inBlock
set_option linter.unusedVariables false
set_option linter.unusedSimpArgs false
set_option maxHeartbeats 8000000 in
theorem copyCat_any{gs:Globs}(c:Cat)(ht:c.ts.length*40≤140737488355328)(hi:c.is.length*48≤140737488355328)(hc: ∀t∈c.ts,t.cols.length*40≤140737488355328):CallG gs Tryz.prog 4 [.agg (c.c.map .iv)] [] [] [] (.agg (c.c.map .iv)):=by
 have hcc:c.c= [.sl (c.ts.map Tab.c),.sl (c.is.map Idx.c)]:=rfl
 have ki:=map_len (f:=Idx.c) (k:=3) (fun _=>rfl) c.is
 have li:(c.is.map Idx.c).length=c.is.length:=List.length_map _
 refine CallG.intro _ Tryz.func4 rfl Tryz.ntmps4 rfl (fun w0 E0 hG=> ?_)
 (repeat' (first|refine wk1 ?_|refine wk2 (fun hb hp=> ?_) (fun hb hp=> ?_)|fail))
 refine L.adoptB 3 30 47 2 rfl (by simp) rfl rfl (.cons .here (.cons .same .nil)) ?_
 refine L.loopP (ι:=Nat) (fun i=>⟨[(13,aI (i:Int)),(12,aI ((c.ts.map Tab.c).length:Int)),(11,.iv (.sl (c.ts.map Tab.c))),(1,.ptr 1 0),(2,.ptr 2 0),(3,.ptr 3 0)],
  [(3,⟨25,.l [.row 30 ((c.ts.take i).map Tab.c),.iv (.sl (c.is.map Idx.c))]⟩),(2,⟨25,.l [.nils,.nils]⟩)],[(30,⟨47,2⟩)]⟩) (fun i=>c.ts.length - i) (fun _=>True) (i0:=0) ?_ trivial ?_
 · (refine Wk.mk' (by intro id h;cases h) ?_ ?_ ?_<;>repeat' (first|exact WkF.nil|exact WkB.nil|exact WkT.nil|exact Subs.nil|(refine WkF.cons rfl (Sub.refl _) ?_)|(refine WkB.cons rfl rfl (Subs.refl _) ?_)|(refine WkB.cons rfl rfl ?_ ?_)|(refine Subs.cons (Sub.refl _) ?_)|(refine Subs.cons (Sub.row _ _) ?_)|(refine WkT.cons rfl ?_)))
 intro i _ K hK
 cases hx:c.ts[i]? with
 |none=>
  have hlt:=ltF (l:=c.ts.map Tab.c) (getFN hx)
  rw[List.take_of_length_le (List.getElem?_eq_none_iff.1 hx)]
  clear hK
  (repeat' (first|refine wk1 ?_|refine wk2 (fun hb hp=> ?_) (fun hb hp=> ?_)|fail))
  all_goals refine wkf ?_
  all_goals rfl
 |some t=>
  have hlt:=ltT (l:=c.ts.map Tab.c) (getF (f:=Tab.c) hx)
  have hlt':=ltN hx
  have hil:i<c.ts.length:=(List.getElem?_eq_some_iff.1 hx).1
  have hct:=hc t (List.mem_of_getElem? hx)
  have g1:(c.ts.map Tab.c)[((i:Nat):Int).toNat]?=some [S t.n,.sl (t.cols.map Col.c)]:=by rw[Int.toNat_natCast,List.getElem?_map,hx];rfl
  have n1:(c.ts.take (i+1)).map Tab.c=(c.ts.take i).map Tab.c++ [[S t.n,.sl (t.cols.map Col.c)]]:=by rw[takeA hx,List.map_append];rfl
  have k1:=map_len (f:=Tab.c) (k:=2) (fun _=>rfl) (c.ts.take i)
  have k2:=map_len (f:=Col.c) (k:=3) (fun _=>rfl) t.cols
  have lc:(t.cols.map Col.c).length=t.cols.length:=List.length_map _
  have q1:((c.ts.take i).map Tab.c).length=i:=by rw[List.length_map,List.length_take];omega
  generalize (c.ts.take i).map Tab.c=es at*
  clear hc ki li
  (repeat' (first|(refine LW.is ?_;first|(apply s_append;exact rfl;exact rfl;exact rfl;exact rfl;exact k1;exact len_cons rfl len_nil;(simp only[maxLen,List.length_cons,List.length_nil];omega);(simp only[List.length_cons,List.length_nil];omega);exact rfl;exact rfl))|(refine DR.is ?_;first|(apply d_append;exact rfl;exact rfl;exact rfl;exact rfl;exact k1;exact len_cons rfl len_nil;(simp only[maxLen,List.length_cons,List.length_nil];omega);(simp only[List.length_cons,List.length_nil];omega);exact rfl;exact rfl))|refine wk1 ?_|refine wk2 (fun hb hp=> ?_) (fun hb hp=> ?_)|fail))
  refine L.onlyS [13,12,11,1,2,3] [2,3] rfl ?_
  refine L.retokB 3 25 30 rfl (by simp) rfl rfl rfl (.cons .row (.cons .same .nil)) ?_
  refine hK _ (i+1) trivial (by omega) ?_
  (refine Wk.mk' (by intro id h;cases h) ?_ ?_ ?_<;>repeat' (first|exact WkF.nil|exact WkB.nil|exact WkT.nil|exact Subs.nil|(refine WkF.cons rfl (Sub.refl _) ?_)|(refine WkB.cons rfl rfl (Subs.refl _) ?_)|(refine WkB.cons rfl rfl ?_ ?_)|(refine Subs.cons (Sub.refl _) ?_)|(refine Subs.cons (Sub.of_eq (congrArg (AV.row 30) n1.symm)) ?_)|(refine WkT.cons rfl ?_)))
end Go.Proofs.YthcjohcakdnmmaaGreatDoor
namespace Go.Proofs.YthcjohcakdnmmaaGreatDoor
open Go.Abs
set_option maxRecDepth 100000
attribute [local irreducible] L Code.wp bodyPost Exit.then Exit.inBlock
set_option linter.unusedVariables false
set_option linter.unusedSimpArgs false
end Go.Proofs.YthcjohcakdnmmaaGreatDoor
namespace Go.Proofs.YthcjohcakdnmmaaGreatDoor
open Go.Abs
set_option maxRecDepth 100000
attribute [local irreducible] L Code.wp bodyPost Exit.then Exit.inBlock
set_option linter.unusedVariables false
set_option linter.unusedSimpArgs false
end Go.Proofs.YthcjohcakdnmmaaGreatDoor
