/- Several texts in one, each with its own sentence ahead of it. Conditions: each one says its own. -/
import Derived.Test.YthcjohcakdnmmaaGreatDoorZS23
set_option linter.all false
namespace Go.Proofs.YthcjohcakdnmmaaGreatDoor
open Go.Abs
set_option maxRecDepth 100000
attribute [local irreducible] L Code.wp bodyPost Exit.then Exit.inBlock
set_option linter.unusedVariables false
set_option linter.unusedSimpArgs false
theorem lenE: ∀l:List Ex,∀e∈l.map Ex.c,e.length=8:=fun l e he=>by obtain⟨y,_,rfl⟩:=List.mem_map.1 he;rw[Ex.c_cs];rfl
set_option maxHeartbeats 4000000 in
theorem growE_nil(n:Nat)(a:Int)(ha:a=n)(hn:0<n)(hl:n*104≤140737488355328):
 CallA Tryz.prog 75 [.nils,aI a] [] [] [(24,⟨34,8⟩)] (.row 24 []):=by
 refine CallA.intro _ Tryz.func75 rfl Tryz.ntmps75 rfl (fun w0 E0=> ?_)
 have hb:decide (a<0)=false:=by simp;omega
 have hb4:decide ((0:Int)<a - ((0:Int) - ((([]:List (List IV)).length:Nat):Int)))=true:=by simp;omega
 have hz:((([]:List (List IV)).length:Nat):Int)=0:=rfl
 (repeat' (first|(refine LW.is ?_;first|(apply s_vr;exact rfl;apply v_capNil;exact rfl)|(apply s_vr;exact rfl;apply v_slNil;exact rfl;exact rfl;exact rfl)|(apply s_growNZ 1000 (m:=n);exact rfl;exact rfl;exact rfl;omega;exact hn;(rw[maxL];omega);omega;exact rfl;exact rfl)|(apply s_vr;exact rfl;apply v_slBshH (n':=0);exact rfl;exact rfl;exact Int.le_refl _;omega;exact rfl)|(apply s_vr;exact rfl;apply v_subI;exact rfl;exact rfl;omega;omega))|(refine DR.is ?_;first|(apply d_vr;exact rfl;apply v_capNil;exact rfl)|(apply d_vr;exact rfl;apply v_slNil;exact rfl;exact rfl;exact rfl)|(apply d_growNZ 1000 (m:=n);exact rfl;exact rfl;exact rfl;omega;exact hn;(rw[maxL];omega);omega;exact rfl;exact rfl)|(apply d_vr;exact rfl;apply v_slBshH (n':=0);exact rfl;exact rfl;exact Int.le_refl _;omega;exact rfl)|(apply d_vr;exact rfl;apply v_subI;exact rfl;exact rfl;omega;omega))|refine wk1 ?_|refine wk2 (fun hb hp=> ?_) (fun hb hp=> ?_)|fail))
 all_goals(apply L.rowS0 1000 24 4 22;exact rfl;exact rfl;omega;exact rfl;exact rfl;exact hn;exact rfl)
 all_goals(apply L.ends;exact rfl;exact rfl;exact Sub.refl _;exact Wk.mk' (by intro id h;simp[keys] at h) .nil .nil (.cons rfl .nil))
set_option maxHeartbeats 4000000 in
theorem growE_0:CallA Tryz.prog 75 [.nils,aI 0] [] [] [] .nils:=by
 refine CallA.intro _ Tryz.func75 rfl Tryz.ntmps75 rfl (fun w0 E0=> ?_)
 have hb4:decide ((0:Int)<0 - ((0:Int) - ((([]:List (List IV)).length:Nat):Int)))=false:=by simp
 have hz:((([]:List (List IV)).length:Nat):Int)=0:=rfl
 (repeat' (first|(refine LW.is ?_;first|(apply s_vr;exact rfl;apply v_capNil;exact rfl)|(apply s_vr;exact rfl;apply v_subI;exact rfl;exact rfl;omega;omega))|(refine DR.is ?_;first|(apply d_vr;exact rfl;apply v_capNil;exact rfl)|(apply d_vr;exact rfl;apply v_subI;exact rfl;exact rfl;omega;omega))|refine wk1 ?_|refine wk2 (fun hb hp=> ?_) (fun hb hp=> ?_)|fail))
 all_goals(apply L.ends;exact rfl;exact rfl;exact Sub.refl _;exact Wk.mk' (by intro id h;simp[keys] at h) .nil .nil .nil)
set_option maxHeartbeats 8000000 in
theorem concatE_any(Ls:List (List Ex))(h1:Ls.length≤1000000)(h2:Ls.flatten.length*104≤140737488355328):
 CallA Tryz.prog 55 [.iv (.sl (Ls.map exRow))] [] [] [(13,⟨34,8⟩)] (.row 13 (Ls.flatten.map Ex.c)):=by
 refine CallA.intro _ Tryz.func55 rfl Tryz.ntmps55 rfl (fun w0 E0=> ?_)
 have flt: ∀i,(Ls.take i).flatten.length≤Ls.flatten.length:=fun i=>by
  conv=>rhs;rw[←List.take_append_drop i Ls,List.flatten_append,List.length_append]
  omega
 have fst: ∀{i:Nat} {A:List Ex},Ls[i]?=some A→(Ls.take (i+1)).flatten=(Ls.take i).flatten++A:=fun h=>by rw[takeC h];simp
 (repeat' (first|refine wk1 ?_|refine wk2 (fun hb hp=> ?_) (fun hb hp=> ?_)|fail))
 refine L.loopP (ι:=Nat) (fun i=>⟨[(11,aI (i:Int)),(10,aI ((Ls.map exRow).length:Int)),(9,.iv (.sl (Ls.map exRow))),(3,aI ((Ls.take i).flatten.length:Int)),(0,.iv (.sl (Ls.map exRow)))],[],[]⟩) (fun i=>Ls.length - i) (fun i=>True) (i0:=0) ?_ trivial ?_
 · exact wkk
 intro i _ K hK
 cases hx:Ls[i]? with
 |some A=>
  have hlt:=ltT (l:=Ls.map exRow) (getF (f:=exRow) hx)
  have hlt':=ltN hx
  have g1:(Ls.map exRow)[((i:Nat):Int).toNat]?=some [.sl (A.map Ex.c)]:=by rw[Int.toNat_natCast,List.getElem?_map,hx];rfl
  have hA:=fst hx
  have hB:=flt (i+1)
  rw[hA,List.length_append] at hB
  have lA:(A.map Ex.c).length=A.length:=List.length_map _
  have hn:decide (((Ls.take i).flatten.length:Int)+((A.map Ex.c).length:Int)<0)=false:=by simp;omega
  (repeat' (first|(refine LW.is ?_;first|(apply s_vr;exact rfl;apply v_addI;exact rfl;exact rfl;(rw[lA];omega);(rw[lA];omega)))|(refine DR.is ?_;first|(apply d_vr;exact rfl;apply v_addI;exact rfl;exact rfl;(rw[lA];omega);(rw[lA];omega)))|refine wk1 ?_|refine wk2 (fun hb hp=> ?_) (fun hb hp=> ?_)|fail))
  refine hK _ (i+1) trivial (by omega) (Wk.mk' (by intro id h;cases h) (.cons rfl (Sub.refl _) (.cons rfl (Sub.refl _) (.cons rfl (Sub.refl _) (.cons rfl (Sub.of_eq ?_) (.cons rfl (Sub.refl _) .nil))))) .nil .nil)
  rw[hA,List.length_append,←lA];rfl
 |none=>
  have hlt:=ltF (l:=Ls.map exRow) (getFN hx)
  rw[take_all hx]
  clear hK hx
  have kg: ∀n:Nat,n=Ls.flatten.length→0<n→CallA Tryz.prog 75 [.nils,aI (Ls.flatten.length:Int)] [] [] [(24,⟨34,8⟩)] (.row 24 []):=fun n hn h0=>growE_nil n _ (by omega) h0 (by omega)
  by_cases h0:Ls.flatten.length=0
  · rw[h0]
    have kz:=growE_0
    (repeat' (first|(apply s_call0N;exact rfl;exact kz;exact rfl;exact rfl)|refine wk1 ?_|refine wk2 (fun hb hp=> ?_) (fun hb hp=> ?_)|fail))
    refine L.adopt 24 (s:=6) (t:=34) (k:=8) rfl rfl rfl ?_
    refine L.loopP (ι:=Nat) (fun i=>⟨[(27,aI (i:Int)),(26,aI ((Ls.map exRow).length:Int)),(25,.iv (.sl (Ls.map exRow))),(6,.row 24 ((Ls.take i).flatten.map Ex.c))],[],[(24,⟨34,8⟩)]⟩) (fun i=>Ls.length - i) (fun i=>True) (i0:=0) ?_ trivial ?_
    · exact wkk
    intro i _ K hK
    cases hx:Ls[i]? with
    |some A=>
     have hlt:=ltT (l:=Ls.map exRow) (getF (f:=exRow) hx)
     have hlt':=ltN hx
     have g1:(Ls.map exRow)[((i:Nat):Int).toNat]?=some [.sl (A.map Ex.c)]:=by rw[Int.toNat_natCast,List.getElem?_map,hx];rfl
     have hA:=fst hx
     have hB:=flt (i+1)
     rw[hA,List.length_append] at hB
     (repeat' (first|(refine LW.is ?_;first|(apply s_append;exact rfl;exact rfl;exact rfl;exact rfl;exact lenE _;exact lenE _;(rw[List.length_map,List.length_map,maxL];omega);(rw[List.length_map,List.length_map];omega);exact rfl;exact rfl))|(refine DR.is ?_;first|(apply d_append;exact rfl;exact rfl;exact rfl;exact rfl;exact lenE _;exact lenE _;(rw[List.length_map,List.length_map,maxL];omega);(rw[List.length_map,List.length_map];omega);exact rfl;exact rfl))|refine wk1 ?_|refine wk2 (fun hb hp=> ?_) (fun hb hp=> ?_)|fail))
     refine L.only [27,26,25,6] ?_
     refine L.retok 6 33 24 rfl rfl rfl rfl ?_
     refine hK _ (i+1) trivial (by omega) (Wk.mk' (by intro id h;cases h) (.cons rfl (Sub.refl _) (.cons rfl (Sub.refl _) (.cons rfl (Sub.refl _) (.cons rfl (Sub.of_eq (congrArg (AV.row 24) (by rw[hA,List.map_append]))) .nil)))) .nil (.cons rfl .nil))
    |none=>
     have hlt:=ltF (l:=Ls.map exRow) (getFN hx)
     rw[take_all hx]
     (repeat' (first|refine wk1 ?_|refine wk2 (fun hb hp=> ?_) (fun hb hp=> ?_)|fail))
     all_goals(refine L.only [2] ?_)
     all_goals(refine L.retok 2 24 13 rfl rfl rfl rfl ?_)
     all_goals(apply L.ends;exact rfl;exact rfl;exact Sub.refl _;exact Wk.mk' (by intro id h;simp[keys] at h) .nil .nil (.cons rfl .nil))
  · have kr:=kg _ rfl (by omega)
    (repeat' (first|(apply s_callRowN;exact rfl;exact kr;exact rfl;exact rfl)|refine wk1 ?_|refine wk2 (fun hb hp=> ?_) (fun hb hp=> ?_)|fail))
    refine L.loopP (ι:=Nat) (fun i=>⟨[(27,aI (i:Int)),(26,aI ((Ls.map exRow).length:Int)),(25,.iv (.sl (Ls.map exRow))),(6,.row 24 ((Ls.take i).flatten.map Ex.c))],[],[(24,⟨34,8⟩)]⟩) (fun i=>Ls.length - i) (fun i=>True) (i0:=0) ?_ trivial ?_
    · exact wkk
    intro i _ K hK
    cases hx:Ls[i]? with
    |some A=>
     have hlt:=ltT (l:=Ls.map exRow) (getF (f:=exRow) hx)
     have hlt':=ltN hx
     have g1:(Ls.map exRow)[((i:Nat):Int).toNat]?=some [.sl (A.map Ex.c)]:=by rw[Int.toNat_natCast,List.getElem?_map,hx];rfl
     have hA:=fst hx
     have hB:=flt (i+1)
     rw[hA,List.length_append] at hB
     (repeat' (first|(refine LW.is ?_;first|(apply s_append;exact rfl;exact rfl;exact rfl;exact rfl;exact lenE _;exact lenE _;(rw[List.length_map,List.length_map,maxL];omega);(rw[List.length_map,List.length_map];omega);exact rfl;exact rfl))|(refine DR.is ?_;first|(apply d_append;exact rfl;exact rfl;exact rfl;exact rfl;exact lenE _;exact lenE _;(rw[List.length_map,List.length_map,maxL];omega);(rw[List.length_map,List.length_map];omega);exact rfl;exact rfl))|refine wk1 ?_|refine wk2 (fun hb hp=> ?_) (fun hb hp=> ?_)|fail))
     refine L.only [27,26,25,6] ?_
     refine L.retok 6 33 24 rfl rfl rfl rfl ?_
     refine hK _ (i+1) trivial (by omega) (Wk.mk' (by intro id h;cases h) (.cons rfl (Sub.refl _) (.cons rfl (Sub.refl _) (.cons rfl (Sub.refl _) (.cons rfl (Sub.of_eq (congrArg (AV.row 24) (by rw[hA,List.map_append]))) .nil)))) .nil (.cons rfl .nil))
    |none=>
     have hlt:=ltF (l:=Ls.map exRow) (getFN hx)
     rw[take_all hx]
     (repeat' (first|refine wk1 ?_|refine wk2 (fun hb hp=> ?_) (fun hb hp=> ?_)|fail))
     all_goals(refine L.only [2] ?_)
     all_goals(refine L.retok 2 24 13 rfl rfl rfl rfl ?_)
     all_goals(apply L.ends;exact rfl;exact rfl;exact Sub.refl _;exact Wk.mk' (by intro id h;simp[keys] at h) .nil .nil (.cons rfl .nil))
def exprsM(s:Stm):List Ex:=((s.out++s.ord++s.rows.flatten)++s.sets.map Ast.e)++(if s.wh.op=0 then [] else [s.wh])
structure Stm.Ok (s:Stm):Prop where
 tot:(s.out.length+s.ord.length+s.rows.flatten.length+s.sets.length+1)*104≤140737488355328
 rows:s.rows.length*24≤140737488355328
 sets:s.sets.length*120≤140737488355328
 cols:s.cols.length≤140737488355328
 frm:s.frm.length≤140737488355328
 all: ∀e∈exprsM s,e.OkS
 wh:s.wh.OkS
 name:s.name.length≤140737488355328
 table:s.table.length≤140737488355328
 col:s.col.length≤140737488355328
 cn: ∀c∈s.cols,c.n.length≤140737488355328
set_option maxHeartbeats 8000000 in
theorem exprs_any(s:Stm)(hok:s.Ok):CallA Tryz.prog 23 [.agg (s.cs.map .iv)] [] [] [] (.iv (.sl ((exprsM s).map Ex.c))):=by
 have htot:=hok.tot
 have hrl:=hok.rows
 clear hok
 obtain⟨kind,name,table,col,cols,rows,sets,frm,out,wh,ord,down,n⟩:=s
 dsimp only at htot hrl
 have kc:=concatE_any [out,ord] (by simp) (by simp;omega)
 rw[show [out,ord].flatten=out++ord by simp] at kc
 unfold exprsM
 dsimp only
 refine CallA.intro _ Tryz.func23 rfl Tryz.ntmps23 rfl (fun w0 E0=> ?_)
 have flt: ∀i,(rows.take i).flatten.length≤rows.flatten.length:=fun i=>by
  conv=>rhs;rw[←List.take_append_drop i rows,List.flatten_append,List.length_append]
  omega
 have fst: ∀{i:Nat} {A:List Ex},rows[i]?=some A→(rows.take (i+1)).flatten=(rows.take i).flatten++A:=fun h=>by rw[takeC h];simp
 (repeat' (first|refine wk1 ?_|refine wk2 (fun hb hp=> ?_) (fun hb hp=> ?_)|fail))
 refine L.loopP (ι:=Nat) (fun i=>⟨[(17,aI (i:Int)),(16,aI ((rows.map exRow).length:Int)),(15,.iv (.sl (rows.map exRow))),(3,.row 13 ((out++ord++(rows.take i).flatten).map Ex.c)),(1,.ptr 1 0)],[(1,⟨36,.l ((Stm.cs ⟨kind,name,table,col,cols,rows,sets,frm,out,wh,ord,down,n⟩).map .iv)⟩)],[(13,⟨34,8⟩)]⟩) (fun i=>rows.length - i) (fun i=>True) (i0:=0) ?_ trivial ?_
 · refine Wk.mk' (by intro id h;cases h) (.cons rfl (Sub.refl _) (.cons rfl (Sub.refl _) (.cons rfl (Sub.refl _) (.cons rfl (Sub.of_eq (congrArg (AV.row 13) (by simp))) (.cons rfl (Sub.refl _) .nil))))) (.cons rfl rfl (Subs.refl _) .nil) (.cons rfl .nil)
 intro i _ K hK
 cases hx:rows[i]? with
 |some A=>
  have hlt:=ltT (l:=rows.map exRow) (getF (f:=exRow) hx)
  have hlt':=ltN hx
  have g1:(rows.map exRow)[((i:Nat):Int).toNat]?=some [.sl (A.map Ex.c)]:=by rw[Int.toNat_natCast,List.getElem?_map,hx];rfl
  have hA:=fst hx
  have hB:=flt (i+1)
  rw[hA,List.length_append] at hB
  (repeat' (first|(refine LW.is ?_;first|(apply s_append;exact rfl;exact rfl;exact rfl;exact rfl;exact lenE _;exact lenE _;(simp only[List.length_map,List.length_append,maxL];omega);(simp only[List.length_map,List.length_append];omega);exact rfl;exact rfl))|(refine DR.is ?_;first|(apply d_append;exact rfl;exact rfl;exact rfl;exact rfl;exact lenE _;exact lenE _;(simp only[List.length_map,List.length_append,maxL];omega);(simp only[List.length_map,List.length_append];omega);exact rfl;exact rfl))|refine wk1 ?_|refine wk2 (fun hb hp=> ?_) (fun hb hp=> ?_)|fail))
  refine L.only [17,16,15,3,1] ?_
  refine L.retok 3 23 13 rfl rfl rfl rfl ?_
  refine hK _ (i+1) trivial (by omega) (Wk.mk' (by intro id h;cases h) (.cons rfl (Sub.refl _) (.cons rfl (Sub.refl _) (.cons rfl (Sub.refl _) (.cons rfl (Sub.of_eq (congrArg (AV.row 13) (by rw[hA];simp))) (.cons rfl (Sub.refl _) .nil))))) (.cons rfl rfl (Subs.refl _) .nil) (.cons rfl .nil))
 |none=>
 have hlt:=ltF (l:=rows.map exRow) (getFN hx)
 rw[take_all hx]
 clear hK hx
 generalize hP:out++ord++rows.flatten=P at*
 have lP:P.length=out.length+ord.length+rows.flatten.length:=by rw[←hP,List.length_append,List.length_append]
 clear hP
 have tot2:(P.length+sets.length+1)*104≤140737488355328:=by rw[lP];exact htot
 have tot3:P.length+sets.length+1≤1353245080340:=by clear htot;omega
 (repeat' (first|refine wk1 ?_|refine wk2 (fun hb hp=> ?_) (fun hb hp=> ?_)|fail))
 refine L.loopP (ι:=Nat) (fun i=>⟨[(28,aI (i:Int)),(27,aI ((sets.map Ast.c).length:Int)),(26,.iv (.sl (sets.map Ast.c))),(3,.row 13 ((P++(sets.take i).map Ast.e).map Ex.c)),(1,.ptr 1 0)],[(1,⟨36,.l ((Stm.cs ⟨kind,name,table,col,cols,rows,sets,frm,out,wh,ord,down,n⟩).map .iv)⟩)],[(13,⟨34,8⟩)]⟩) (fun i=>sets.length - i) (fun i=>True) (i0:=0) ?_ trivial ?_
 · refine Wk.mk' (by intro id h;cases h) (.cons rfl (Sub.refl _) (.cons rfl (Sub.refl _) (.cons rfl (Sub.refl _) (.cons rfl (Sub.of_eq (congrArg (AV.row 13) (by simp))) (.cons rfl (Sub.refl _) .nil))))) (.cons rfl rfl (Subs.refl _) .nil) (.cons rfl .nil)
 intro j _ K hK
 cases hy:sets[j]? with
 |some x=>
  have hlt2:=ltT (l:=sets.map Ast.c) (getF (f:=Ast.c) hy)
  have hlt2':=ltN hy
  have g1:(sets.map Ast.c)[((j:Nat):Int).toNat]?=some [S x.co,I x.e.op,I x.e.v.k,I x.e.v.n,S x.e.v.s,S x.e.s,S x.e.name,I x.e.n,.sl (x.e.l.map Ex.c)]:=by rw[Int.toNat_natCast,List.getElem?_map,hy];rfl
  have hT:(sets.take (j+1)).map Ast.e=(sets.take j).map Ast.e++ [x.e]:=by rw[takeC hy];simp
  have hl:((P++(sets.take j).map Ast.e).map Ex.c).length≤P.length+sets.length:=by rw[List.length_map,List.length_append,List.length_map,List.length_take];omega
  have bm:((P++(sets.take j).map Ast.e).map Ex.c).length+1≤maxLen:=Nat.le_trans (Nat.succ_le_succ hl) (Nat.le_trans tot3 (by rw[maxL];decide))
  have bb:(((P++(sets.take j).map Ast.e).map Ex.c).length+1)*104≤225000000000000:=Nat.le_trans (Nat.mul_le_mul_right 104 (Nat.succ_le_succ hl)) (Nat.le_trans tot2 (by decide))
  (repeat' (first|(refine LW.is ?_;first|(apply s_append;exact rfl;exact rfl;exact rfl;exact rfl;exact lenE _;exact len_cons rfl len_nil;exact bm;exact bb;exact rfl;exact rfl))|(refine DR.is ?_;first|(apply d_append;exact rfl;exact rfl;exact rfl;exact rfl;exact lenE _;exact len_cons rfl len_nil;exact bm;exact bb;exact rfl;exact rfl))|refine wk1 ?_|refine wk2 (fun hb hp=> ?_) (fun hb hp=> ?_)|fail))
  refine L.onlyS [28,27,26,3,1] [1] rfl ?_
  refine L.retok 3 36 13 rfl rfl rfl rfl ?_
  refine hK _ (j+1) trivial (by omega) (Wk.mk' (by intro id h;cases h) (.cons rfl (Sub.refl _) (.cons rfl (Sub.refl _) (.cons rfl (Sub.refl _) (.cons rfl (Sub.of_eq (congrArg (AV.row 13) (by rw[hT,←List.append_assoc,List.map_append (l₂:= [x.e])];exact congrArg _ (congrArg (· :: []) (Ex.c_cs x.e).symm)))) (.cons rfl (Sub.refl _) .nil))))) (.cons rfl rfl (Subs.refl _) .nil) (.cons rfl .nil))
 |none=>
 have hlt2:=ltF (l:=sets.map Ast.c) (getFN hy)
 rw[take_all hy]
 clear hK hy
 generalize hR:P++sets.map Ast.e=R at*
 have lR:R.length=P.length+sets.length:=by rw[←hR];simp
 clear hR
 by_cases h0:wh.op=0
 · have q:(wh.op !=0)=false:=by simp[h0]
   rw[if_pos h0,List.append_nil]
   (repeat' (first|refine wk1 ?_|refine wk2 (fun hb hp=> ?_) (fun hb hp=> ?_)|fail))
   all_goals refine wkf ?_
   all_goals rfl
 · have q:(wh.op !=0)=true:=by simp[h0]
   rw[if_neg h0]
   have bm:(R.map Ex.c).length+1≤maxLen:=by rw[List.length_map,lR];exact Nat.le_trans tot3 (by rw[maxL];decide)
   have bb:((R.map Ex.c).length+1)*104≤225000000000000:=by rw[List.length_map,lR];exact Nat.le_trans tot2 (by decide)
   (repeat' (first|(refine LW.is ?_;first|(apply s_append;exact rfl;exact rfl;exact rfl;exact rfl;exact lenE _;exact len_cons rfl len_nil;exact bm;exact bb;exact rfl;exact rfl))|(refine DR.is ?_;first|(apply d_append;exact rfl;exact rfl;exact rfl;exact rfl;exact lenE _;exact len_cons rfl len_nil;exact bm;exact bb;exact rfl;exact rfl))|refine wk1 ?_|refine wk2 (fun hb hp=> ?_) (fun hb hp=> ?_)|fail))
   all_goals refine wkf ?_
   all_goals(rw[List.map_append];exact congrArg AV.iv (congrArg IV.sl (congrArg (R.map Ex.c++ ·) (congrArg (· :: []) (Ex.c_cs wh).symm))))
end Go.Proofs.YthcjohcakdnmmaaGreatDoor
namespace Go.Proofs.YthcjohcakdnmmaaGreatDoor
open Go.Abs
set_option maxRecDepth 100000
attribute [local irreducible] L Code.wp bodyPost Exit.then Exit.inBlock
set_option linter.unusedVariables false
set_option linter.unusedSimpArgs false
theorem errT_at{α:Type}{l:List α}{g:α→Int}{i:Nat}{x:α}(h: ∀y∈l.take i,g y=0)(hx:l[i]?=some x)(hp:g x≠0):errM (l.map g)=g x:=by
 have hi:=(List.getElem?_eq_some_iff.1 hx).1
 have e:l.map g=(l.take i).map g++g x::(l.drop (i+1)).map g:=by
  rw[←List.map_cons,←List.map_append,←(List.getElem?_eq_some_iff.1 hx).2,←List.drop_eq_getElem_cons hi,List.take_append_drop]
 have hn:((l.take i).map g).find? (fun f=>f !=0)=none:=List.find?_eq_none.2 (fun y hy=>by obtain⟨z,hz,rfl⟩:=List.mem_map.1 hy;simp[h z hz])
 have hq:(g x !=0)=true:=by simpa using hp
 rw[errM,e,List.find?_append,hn,List.find?_cons,hq];rfl
theorem errT_no{α:Type}{l:List α}{g:α→Int}(h: ∀y∈l,g y=0):errM (l.map g)=0:=by
 have hn:(l.map g).find? (fun f=>f !=0)=none:=List.find?_eq_none.2 (fun y hy=>by obtain⟨z,hz,rfl⟩:=List.mem_map.1 hy;simp[h z hz])
 rw[errM,hn];rfl
theorem takeT_snoc{α:Type}{g:α→Int}{l:List α}{i:Nat}{x:α}(h: ∀y∈l.take i,g y=0)(hx:l[i]?=some x)(hp:g x=0): ∀y∈l.take (i+1),g y=0:=fun y hy=>by
 rw[List.take_add_one,hx] at hy
 rcases List.mem_append.1 hy with hy|hy
 · exact h y hy
 · simp at hy;subst hy;exact hp
theorem zip_at{α:Type}{l:List α}{i:Nat}{x:α}(h:l[i]?=some x):l.zipIdx[i]?=some (x,i):=by simp[List.getElem?_zipIdx,h]
theorem zip_none{α:Type}{l:List α}{i:Nat}(h:l[i]?=none):l.zipIdx[i]?=none:=by simpa[List.getElem?_zipIdx] using h
def nilStA:List AV:= [.iv (I 0),.iv (S []),.iv (S []),.iv (S []),.nils,.nils,.nils,.nils,.nils,.iv (I 0),.iv (I 0),.iv (I 0),.iv (S []),.iv (S []),.iv (S []),.iv (I 0),.nils,.nils,.iv (.im (.bool false)),.iv (I 0)]
def valE(t:Tab)(p:Ex×Nat):Ex×Int:=mustM [] p.1 (colTy t (p.2:Int))
def rowM(t:Tab)(r:List Ex):List Ex×Int:=
 if r.length≠t.cols.length then([],5) else(r.zipIdx.map fun p=>(valE t p).1,errM (r.zipIdx.map fun p=>(valE t p).2))
def setM(t:Tab)(l:List Ast)(p:Ast×Nat):Ast×Int:=
 if colM t p.1.co<0 then(p.1,3)
 else if(l.take p.2).any (fun y=>y.co==p.1.co) then(p.1,4)
 else(⟨p.1.co,(mustM [t] p.1.e (colTy t (colM t p.1.co))).1⟩,(mustM [t] p.1.e (colTy t (colM t p.1.co))).2)
def rowsE(s:Stm)(t:Tab):Int:=errM (s.rows.map fun r=>(rowM t r).2)
def setsE(s:Stm)(t:Tab):Int:=errM (s.sets.zipIdx.map fun p=>(setM t s.sets p).2)
def changeM(s:Stm)(t:Tab):Stm×Int:=
 if rowsE s t≠0 then(s,rowsE s t)
 else if setsE s t≠0 then(s,setsE s t)
 else({s with rows:=s.rows.map fun r=>(rowM t r).1,sets:=s.sets.zipIdx.map fun p=>(setM t s.sets p).1,wh:=(whereM [t] s.wh).1},(whereM [t] s.wh).2)
theorem Ex.OkS.ok: ∀{e:Ex},e.OkS→e.Ok
 | .mk op v s name n l,.mk hl _ _ h=> .mk hl (fun x hx=>Ex.OkS.ok (h x hx))
 termination_by e=>SizeOf.sizeOf e
 decreasing_by
  have:=List.sizeOf_lt_of_mem hx
  simp;omega
theorem change1_any{gs:Globs}(y x:Ast):
 CallG gs Tryz.prog 62 [.agg (y.c.map .iv),.ptr 1000 0] [(1000,⟨56,.l (x.c.map .iv)⟩)] [(1000,⟨56,.l (x.c.map .iv)⟩)] [] (aB (y.co==x.co)):=by
 refine CallG.intro _ Tryz.func62 rfl Tryz.ntmps62 rfl (fun w0 E0 hG=> ?_)
 (repeat' (first|refine wk1 ?_|refine wk2 (fun hb hp=> ?_) (fun hb hp=> ?_)|fail))
 all_goals(apply L.ends;exact rfl;exact rfl;exact Sub.refl _;exact Wk.mk' (by intro id h;simp[keys] at h;subst h;rfl) .nil (.cons rfl rfl (Subs.refl _) .nil) .nil)
set_option maxHeartbeats 16000000 in
theorem change_any(s:Stm)(hok:s.Ok)(t:Tab)(ht:t.cols.length≤1000)(hw:s.wh.Ok):
 CallA Tryz.prog 29 [.agg (s.cs.map .iv),.agg (t.c.map .iv)] [] [] [] (.tup [.agg ((changeM s t).1.cs.map .iv),.iv (I (changeM s t).2)]):=by
 have kw:=where_any [t] ⟨by simp,by simpa using ht⟩ s.wh hw
 have htot:=hok.tot
 have hrl:=hok.rows
 have hall:=hok.all
 have hsl:=hok.sets
 clear hok hw
 obtain⟨kind,name,table,col,cols,rows,sets,frm,out,wh,ord,down,n⟩:=s
 dsimp only at htot hrl kw hsl
 have hrl2:rows.length≤5864062014806:=by clear htot;omega
 clear htot
 have hre: ∀r∈rows,∀x∈r,x.Ok:=fun r hr x hx=>(hall x (by unfold exprsM;simp only[List.mem_append,List.mem_flatten];exact .inl (.inl (.inr ⟨r,hr,hx⟩)))).ok
 have hse: ∀x∈sets,x.e.Ok:=fun x hx=>(hall x.e (by unfold exprsM;simp only[List.mem_append,List.mem_map];exact .inl (.inr ⟨x,hx,rfl⟩))).ok
 clear hall
 have htl:(t.cols.map Col.c).length=t.cols.length:=List.length_map _
 unfold changeM
 dsimp only
 generalize whereM [t] wh=W at*
 obtain⟨W1,W2⟩:=W
 refine CallG.toA (CallG.intro _ Tryz.func29 rfl Tryz.ntmps29 rfl (fun w0 E0 hG=> ?_))
 (repeat' (first|refine wk1 ?_|refine wk2 (fun hb hp=> ?_) (fun hb hp=> ?_)|fail))
 refine L.adopt 6 (s:=6) (t:=30) (k:=1) rfl rfl rfl ?_
 refine L.loopP (ι:=Nat) (fun i=>⟨[(25,aI (i:Int)),(24,aI ((rows.map exRow).length:Int)),(23,.iv (.sl (rows.map exRow))),(6,.row 6 (((rows.take i).map fun r=>(rowM t r).1).map exRow)),(2,.ptr 2 0),(3,.ptr 3 0),(4,.ptr 4 0),(5,aI 0)],
  [(2,⟨36,.l ((Stm.cs ⟨kind,name,table,col,cols,rows,sets,frm,out,wh,ord,down,n⟩).map .iv)⟩),(3,⟨47,.l (t.c.map .iv)⟩),(4,⟨36,.l nilStA⟩)],[(6,⟨30,1⟩)]⟩) (fun i=>rows.length - i) (fun i=> ∀r∈rows.take i,(rowM t r).2=0) (i0:=0) ?_ (by simp) ?_
 · exact wkk
 intro i hI K hK
 cases hx:rows[i]? with
 |some r=>
  have hlt:=ltT (l:=rows.map exRow) (getF (f:=exRow) hx)
  have hlt':=ltN hx
  have g1:(rows.map exRow)[((i:Nat):Int).toNat]?=some [.sl (r.map Ex.c)]:=by rw[Int.toNat_natCast,List.getElem?_map,hx];rfl
  by_cases hlen:r.length=t.cols.length
  case neg=>
   have hr:rowM t r=([],5):=by rw[rowM,if_pos hlen]
   have he:rowsE ⟨kind,name,table,col,cols,rows,sets,frm,out,wh,ord,down,n⟩ t=5:=by
    have:=errT_at (g:=fun r=>(rowM t r).2) hI hx (by rw[hr];decide)
    rw[rowsE,this,hr]
   rw[he,if_pos (by decide)]
   have q:(((r.map Ex.c).length:Int) !=((t.cols.map Col.c).length:Int))=true:=by simp;omega
   (repeat' (first|refine wk1 ?_|refine wk2 (fun hb hp=> ?_) (fun hb hp=> ?_)|fail))
   all_goals refine wkf ?_
   all_goals rfl
  have hlen':(((r.map Ex.c).length:Int) !=((t.cols.map Col.c).length:Int))=false:=by simp;omega
  have hrE:rowM t r=(r.zipIdx.map fun p=>(valE t p).1,errM (r.zipIdx.map fun p=>(valE t p).2)):=by rw[rowM,if_neg (by omega)]
  have hxr:=hre r (List.mem_of_getElem? hx)
  have hrt:r.length≤1000:=by omega
  (repeat' (first|refine wk1 ?_|refine wk2 (fun hb hp=> ?_) (fun hb hp=> ?_)|fail))
  refine L.adopt 9 (s:=9) (t:=34) (k:=8) rfl rfl rfl ?_
  refine L.loopP (ι:=Nat) (fun j=>⟨[(38,aI (j:Int)),(37,aI ((r.map Ex.c).length:Int)),(36,.iv (.sl (r.map Ex.c))),(9,.row 9 (((r.zipIdx.take j).map fun p=>(valE t p).1).map Ex.c)),(25,aI (i:Int)),(24,aI ((rows.map exRow).length:Int)),(23,.iv (.sl (rows.map exRow))),(6,.row 6 (((rows.take i).map fun r=>(rowM t r).1).map exRow)),(2,.ptr 2 0),(3,.ptr 3 0),(4,.ptr 4 0),(5,aI 0)],
   [(2,⟨36,.l ((Stm.cs ⟨kind,name,table,col,cols,rows,sets,frm,out,wh,ord,down,n⟩).map .iv)⟩),(3,⟨47,.l (t.c.map .iv)⟩),(4,⟨36,.l nilStA⟩)],[(9,⟨34,8⟩),(6,⟨30,1⟩)]⟩) (fun j=>r.length - j) (fun j=> ∀p∈r.zipIdx.take j,(valE t p).2=0) (i0:=0) ?_ (by simp) ?_
  · exact wkk
  intro j hJ K2 hK2
  cases hy:r[j]? with
  |some x=>
   have jlt:=ltT (l:=r.map Ex.c) (getF (f:=Ex.c) hy)
   have jlt':=ltN hy
   have hz:=zip_at hy
   have kx:=must_any [] Sc.nil x (hxr x (List.mem_of_getElem? hy)) (colTy t (j:Int))
   have hct:colTy t (j:Int)=(t.cols.getD j ⟨[],0,false⟩).t:=by rw[colTy,Int.toNat_natCast]
   have g2:(r.map Ex.c)[((j:Nat):Int).toNat]?=some [I x.op,I x.v.k,I x.v.n,S x.v.s,S x.s,S x.name,I x.n,.sl (x.l.map Ex.c)]:=by rw[Int.toNat_natCast,List.getElem?_map,hy];exact congrArg some (Ex.c_cs x)
   have g3:(t.cols.map Col.c)[((j:Nat):Int).toNat]?=some [S (t.cols.getD j ⟨[],0,false⟩).n,I (t.cols.getD j ⟨[],0,false⟩).t,.im (.bool (t.cols.getD j ⟨[],0,false⟩).m)]:=by rw[Int.toNat_natCast,List.getElem?_map,getD_some ⟨[],0,false⟩ (show j<t.cols.length by omega)];rfl
   have hv:valE t (x,j)=mustM [] x (colTy t (j:Int)):=rfl
   have n1:(((r.zipIdx.take (j+1)).map fun p=>(valE t p).1).map Ex.c)=((r.zipIdx.take j).map fun p=>(valE t p).1).map Ex.c++ [(valE t (x,j)).1.cs]:=by rw[takeC hz,List.map_append,List.map_append];exact congrArg _ (by simp[Ex.c_cs])
   have l1:(((r.zipIdx.take j).map fun p=>(valE t p).1).map Ex.c).length≤1000:=by simp;omega
   have bm:(((r.zipIdx.take j).map fun p=>(valE t p).1).map Ex.c).length+1≤maxLen:=Nat.le_trans (Nat.succ_le_succ l1) (by rw[maxL];decide)
   have bb:((((r.zipIdx.take j).map fun p=>(valE t p).1).map Ex.c).length+1)*104≤225000000000000:=Nat.le_trans (Nat.mul_le_mul_right 104 (Nat.succ_le_succ l1)) (by decide)
   by_cases hf:(valE t (x,j)).2=0
   · have hJ':=takeT_snoc (g:=fun p=>(valE t p).2) hJ hz hf
     rw[hv] at hf n1
     rw[hct] at kx hf n1
     generalize mustM [] x (t.cols.getD j ⟨[],0,false⟩).t=m at*
     obtain⟨e,f⟩:=m
     dsimp only at hf kx n1
     subst hf
     generalize t.cols.getD j ⟨[],0,false⟩=cc at*
     have k1:=lenE ((r.zipIdx.take j).map fun p=>(valE t p).1)
     generalize ((r.zipIdx.take j).map fun p=>(valE t p).1).map Ex.c=es at*
     (repeat' (first|(refine LW.is ?_;first|(apply s_append;exact rfl;exact rfl;exact rfl;exact rfl;exact k1;exact len_cons rfl len_nil;exact bm;exact bb;exact rfl;exact rfl))|(refine DR.is ?_;first|(apply d_append;exact rfl;exact rfl;exact rfl;exact rfl;exact k1;exact len_cons rfl len_nil;exact bm;exact bb;exact rfl;exact rfl))|refine wk1 ?_|refine wk2 (fun hb hp=> ?_) (fun hb hp=> ?_)|fail))
     refine L.onlyS [38,37,36,9,25,24,23,6,2,3,4,5] [2,3,4] rfl ?_
     refine L.retok 9 62 9 rfl rfl rfl rfl ?_
     refine hK2 _ (j+1) hJ' (by omega) (Wk.mk' (by intro id h;cases h) (.cons rfl (Sub.refl _) (.cons rfl (Sub.refl _) (.cons rfl (Sub.refl _) (.cons rfl (Sub.of_eq (congrArg (AV.row 9) n1.symm)) (.cons rfl (Sub.refl _) (.cons rfl (Sub.refl _) (.cons rfl (Sub.refl _) (.cons rfl (Sub.refl _) (.cons rfl (Sub.refl _) (.cons rfl (Sub.refl _) (.cons rfl (Sub.refl _) (.cons rfl (Sub.refl _) .nil)))))))))))) (.cons rfl rfl (Subs.refl _) (.cons rfl rfl (Subs.refl _) (.cons rfl rfl (Subs.refl _) .nil))) (.cons rfl (.cons rfl .nil)))
   · have he:rowsE ⟨kind,name,table,col,cols,rows,sets,frm,out,wh,ord,down,n⟩ t=(valE t (x,j)).2:=by
      have h1:=errT_at (g:=fun p=>(valE t p).2) hJ hz hf
      have h2:(rowM t r).2=(valE t (x,j)).2:=by rw[hrE];exact h1
      have:=errT_at (g:=fun r=>(rowM t r).2) hI hx (by rw[h2];exact hf)
      rw[rowsE,this,h2]
     rw[he,if_pos hf]
     rw[hv] at hf⊢
     rw[hct] at kx hf⊢
     generalize mustM [] x (t.cols.getD j ⟨[],0,false⟩).t=m at*
     obtain⟨e,f⟩:=m
     dsimp only at hf kx⊢
     generalize t.cols.getD j ⟨[],0,false⟩=cc at*
     have q:(f !=0)=true:=by simpa using hf
     (repeat' (first|refine wk1 ?_|refine wk2 (fun hb hp=> ?_) (fun hb hp=> ?_)|fail))
     all_goals refine wkf ?_
     all_goals rfl
  |none=>
   have jlt:=ltF (l:=r.map Ex.c) (getFN hy)
   have hzn:=zip_none hy
   rw[take_all hzn] at hJ⊢
   have h0:(rowM t r).2=0:=by rw[hrE];exact errT_no hJ
   have hI':=takeT_snoc (g:=fun r=>(rowM t r).2) hI hx h0
   have n1:(((rows.take (i+1)).map fun r=>(rowM t r).1).map exRow)=((rows.take i).map fun r=>(rowM t r).1).map exRow++ [exRow (r.zipIdx.map fun p=>(valE t p).1)]:=by rw[takeC hx,List.map_append,List.map_append];exact congrArg _ (by simp[hrE])
   have l1:(((rows.take i).map fun r=>(rowM t r).1).map exRow).length+1≤rows.length:=by simp;omega
   have bm:(((rows.take i).map fun r=>(rowM t r).1).map exRow).length+1≤maxLen:=Nat.le_trans l1 (Nat.le_trans hrl2 (by rw[maxL];decide))
   have bb:((((rows.take i).map fun r=>(rowM t r).1).map exRow).length+1)*24≤225000000000000:=Nat.le_trans (Nat.mul_le_mul_right 24 l1) (Nat.le_trans hrl (by decide))
   have k1: ∀e∈((rows.take i).map fun r=>(rowM t r).1).map exRow,e.length=1:=fun e he=>by obtain⟨y,_,rfl⟩:=List.mem_map.1 he;rfl
   generalize ((rows.take i).map fun r=>(rowM t r).1).map exRow=es at*
   (repeat' (first|(refine LW.is ?_;first|(apply s_append;exact rfl;exact rfl;exact rfl;exact rfl;exact k1;exact len_cons rfl len_nil;exact bm;exact bb;exact rfl;exact rfl))|(refine DR.is ?_;first|(apply d_append;exact rfl;exact rfl;exact rfl;exact rfl;exact k1;exact len_cons rfl len_nil;exact bm;exact bb;exact rfl;exact rfl))|refine wk1 ?_|refine wk2 (fun hb hp=> ?_) (fun hb hp=> ?_)|fail))
   refine L.onlyS [25,24,23,6,2,3,4,5] [2,3,4] rfl ?_
   refine L.retok 6 67 6 rfl rfl rfl rfl ?_
   refine hK _ (i+1) hI' (by omega) (Wk.mk' (by intro id h;cases h) (.cons rfl (Sub.refl _) (.cons rfl (Sub.refl _) (.cons rfl (Sub.refl _) (.cons rfl (Sub.of_eq (congrArg (AV.row 6) n1.symm)) (.cons rfl (Sub.refl _) (.cons rfl (Sub.refl _) (.cons rfl (Sub.refl _) (.cons rfl (Sub.refl _) .nil)))))))) (.cons rfl rfl (Subs.refl _) (.cons rfl rfl (Subs.refl _) (.cons rfl rfl (Subs.refl _) .nil))) (.cons rfl .nil))
 |none=>
 have hlt:=ltF (l:=rows.map exRow) (getFN hx)
 rw[take_all hx] at hI⊢
 have he0:rowsE ⟨kind,name,table,col,cols,rows,sets,frm,out,wh,ord,down,n⟩ t=0:=errT_no hI
 rw[he0,if_neg (by decide)]
 clear hK hx hI hre he0
 generalize hRW:rows.map (fun r=>(rowM t r).1)=RW at*
 clear hRW
 (repeat' (first|refine wk1 ?_|refine wk2 (fun hb hp=> ?_) (fun hb hp=> ?_)|fail))
 refine L.adopt 14 (s:=14) (t:=56) (k:=9) rfl rfl rfl ?_
 refine L.loopP (ι:=Nat) (fun j=>⟨[(72,aI (j:Int)),(71,aI ((sets.map Ast.c).length:Int)),(70,.iv (.sl (sets.map Ast.c))),(14,.row 14 (((sets.zipIdx.take j).map fun p=>(setM t sets p).1).map Ast.c)),(6,.row 6 (RW.map exRow)),(2,.ptr 2 0),(3,.ptr 3 0),(4,.ptr 4 0),(5,aI 0)],
  [(2,⟨36,.l ((Stm.cs ⟨kind,name,table,col,cols,rows,sets,frm,out,wh,ord,down,n⟩).map .iv)⟩),(3,⟨47,.l (t.c.map .iv)⟩),(4,⟨36,.l nilStA⟩)],[(14,⟨56,9⟩),(6,⟨30,1⟩)]⟩) (fun j=>sets.length - j) (fun j=> ∀p∈sets.zipIdx.take j,(setM t sets p).2=0) (i0:=0) ?_ (by simp) ?_
 · exact wkk
 intro j hJ K hK
 cases hy:sets[j]? with
 |some x=>
  have jlt:=ltT (l:=sets.map Ast.c) (getF (f:=Ast.c) hy)
  have jlt':=ltN hy
  have hz:=zip_at hy
  have hxe:=hse x (List.mem_of_getElem? hy)
  have g2:(sets.map Ast.c)[((j:Nat):Int).toNat]?=some [S x.co,I x.e.op,I x.e.v.k,I x.e.v.n,S x.e.v.s,S x.e.s,S x.e.name,I x.e.n,.sl (x.e.l.map Ex.c)]:=by rw[Int.toNat_natCast,List.getElem?_map,hy];rfl
  have kf:=findCol_any t x.co (by omega)
  have hset:setM t sets (x,j)=if colM t x.co<0 then(x,3) else if(sets.take j).any (fun y=>y.co==x.co) then(x,4) else(⟨x.co,(mustM [t] x.e (colTy t (colM t x.co))).1⟩,(mustM [t] x.e (colTy t (colM t x.co))).2):=rfl
  have hE:(setM t sets (x,j)).2≠0→setsE ⟨kind,name,table,col,cols,rows,sets,frm,out,wh,ord,down,n⟩ t=(setM t sets (x,j)).2:=fun h=>errT_at (g:=fun p=>(setM t sets p).2) hJ hz h
  by_cases hc0:colM t x.co<0
  · have q:decide (colM t x.co<0)=true:=decide_eq_true hc0
    have h1:setM t sets (x,j)=(x,3):=by rw[hset,if_pos hc0]
    rw[hE (by rw[h1];exact(by decide:(3:Int)≠0)),h1,if_pos (show(3:Int)≠0 by decide)]
    (repeat' (first|refine wk1 ?_|refine wk2 (fun hb hp=> ?_) (fun hb hp=> ?_)|fail))
    all_goals refine wkf ?_
    all_goals rfl
  have q:decide (colM t x.co<0)=false:=decide_eq_false hc0
  rw[if_neg hc0] at hset
  have kc:=containsT_any (gs:= []) (f:=62) (b:=⟨56,.l (x.c.map .iv)⟩) (fun y=>y.co==x.co) (sets.take j) (by rw[List.length_take];omega) rfl rfl (fun y _=>change1_any y x)
  have k9: ∀e∈sets.map Ast.c,e.length=9:=fun e he=>by obtain⟨y,_,rfl⟩:=List.mem_map.1 he;rfl
  have hsl2:(sets.map Ast.c).take ((j:Nat):Int).toNat=(sets.take j).map Ast.c:=by rw[Int.toNat_natCast,List.map_take]
  have ljs:((j:Nat):Int)≤(sets.map Ast.c).length:=by rw[List.length_map];omega
  cases hm:(sets.take j).any (fun y=>y.co==x.co) with
  |true=>
   rw[hm] at kc
   rw[hm,if_pos rfl] at hset
   rw[hE (by rw[hset];exact(by decide:(4:Int)≠0)),hset,if_pos (show(4:Int)≠0 by decide)]
   (repeat' (first|(refine LW.is ?_;first|(apply s_vr;exact rfl;apply v_sliceVh;exact rfl;exact rfl;exact k9;omega;exact ljs;exact hsl2)|(apply s_vr;exact rfl;apply v_makeFunc;exact rfl)|(apply s_callG1 (q:=16);exact rfl;exact hG;exact kc;exact rfl;exact rfl;exact rfl;exact rfl;exact rfl;exact rfl;exact rfl))|(refine DR.is ?_;first|(apply d_vr;exact rfl;apply v_sliceVh;exact rfl;exact rfl;exact k9;omega;exact ljs;exact hsl2)|(apply d_vr;exact rfl;apply v_makeFunc;exact rfl)|(apply d_callG1 (q:=16);exact rfl;exact hG;exact kc;exact rfl;exact rfl;exact rfl;exact rfl;exact rfl;exact rfl;exact rfl))|refine wk1 ?_|refine wk2 (fun hb hp=> ?_) (fun hb hp=> ?_)|fail))
   all_goals refine wkf ?_
   all_goals rfl
  |false=>
  rw[hm] at kc
  rw[hm,if_neg (by decide)] at hset
  have hran:=idx_ran (fun c:Col=>c.n==x.co) t.cols
  have hcm:colM t x.co=idxM (fun c:Col=>c.n==x.co) t.cols:=rfl
  have hki:(colM t x.co).toNat<t.cols.length:=by
   rw[hcm] at hc0⊢
   unfold idxM at hc0⊢
   cases hf:t.cols.findIdx? (fun c:Col=>c.n==x.co) with
   |none=>rw[hf] at hc0;simp only at hc0;omega
   |some j=>have:=(List.findIdx?_eq_some_iff_getElem.1 hf).1;simpa using this
  have g3:(t.cols.map Col.c)[(colM t x.co).toNat]?=some [S (t.cols.getD (colM t x.co).toNat ⟨[],0,false⟩).n,I (t.cols.getD (colM t x.co).toNat ⟨[],0,false⟩).t,.im (.bool (t.cols.getD (colM t x.co).toNat ⟨[],0,false⟩).m)]:=by rw[List.getElem?_map,getD_some ⟨[],0,false⟩ hki];rfl
  have kx:=must_any [t] ⟨by simp,by simpa using ht⟩ x.e hxe (colTy t (colM t x.co))
  have n1:(((sets.zipIdx.take (j+1)).map fun p=>(setM t sets p).1).map Ast.c)=((sets.zipIdx.take j).map fun p=>(setM t sets p).1).map Ast.c++ [(setM t sets (x,j)).1.c]:=by rw[takeC hz,List.map_append,List.map_append];rfl
  have hct:colTy t (colM t x.co)=(t.cols.getD (colM t x.co).toNat ⟨[],0,false⟩).t:=rfl
  have hJ':=takeT_snoc (g:=fun p=>(setM t sets p).2) hJ hz
  rw[hset] at hE hJ' n1
  rw[hct] at kx hE hJ' n1
  generalize t.cols.getD (colM t x.co).toNat ⟨[],0,false⟩=cc at*
  clear hset hcm hct hran
  generalize colM t x.co=kk at*
  generalize mustM [t] x.e cc.t=m at*
  obtain⟨e,f⟩:=m
  dsimp only at hE hJ' n1 kx
  by_cases hf:f=0
  · subst hf
    have l1:(((sets.zipIdx.take j).map fun p=>(setM t sets p).1).map Ast.c).length+1≤sets.length:=by rw[List.length_map,List.length_map,List.length_take,List.length_zipIdx];omega
    have hsl3:sets.length≤1172812402962:=by omega
    have bm:(((sets.zipIdx.take j).map fun p=>(setM t sets p).1).map Ast.c).length+1≤maxLen:=Nat.le_trans l1 (Nat.le_trans hsl3 (by rw[maxL];decide))
    have bb:((((sets.zipIdx.take j).map fun p=>(setM t sets p).1).map Ast.c).length+1)*120≤225000000000000:=Nat.le_trans (Nat.mul_le_mul_right 120 l1) (Nat.le_trans hsl (by decide))
    have k1: ∀e∈((sets.zipIdx.take j).map fun p=>(setM t sets p).1).map Ast.c,e.length=9:=fun e he=>by obtain⟨y,_,rfl⟩:=List.mem_map.1 he;rfl
    have hJ':=hJ' rfl
    generalize ((sets.zipIdx.take j).map fun p=>(setM t sets p).1).map Ast.c=es at*
    (repeat' (first|(refine LW.is ?_;first|(apply s_vr;exact rfl;apply v_sliceVh;exact rfl;exact rfl;exact k9;omega;exact ljs;exact hsl2)|(apply s_vr;exact rfl;apply v_makeFunc;exact rfl)|(apply s_callG1 (q:=16);exact rfl;exact hG;exact kc;exact rfl;exact rfl;exact rfl;exact rfl;exact rfl;exact rfl;exact rfl)|(apply s_append;exact rfl;exact rfl;exact rfl;exact rfl;exact k1;exact len_cons rfl len_nil;exact bm;exact bb;exact rfl;exact rfl))|(refine DR.is ?_;first|(apply d_vr;exact rfl;apply v_sliceVh;exact rfl;exact rfl;exact k9;omega;exact ljs;exact hsl2)|(apply d_vr;exact rfl;apply v_makeFunc;exact rfl)|(apply d_callG1 (q:=16);exact rfl;exact hG;exact kc;exact rfl;exact rfl;exact rfl;exact rfl;exact rfl;exact rfl;exact rfl)|(apply d_append;exact rfl;exact rfl;exact rfl;exact rfl;exact k1;exact len_cons rfl len_nil;exact bm;exact bb;exact rfl;exact rfl))|refine wk1 ?_|refine wk2 (fun hb hp=> ?_) (fun hb hp=> ?_)|fail))
    refine L.onlyS [72,71,70,14,6,2,3,4,5] [2,3,4] rfl ?_
    refine L.retok 14 115 14 rfl rfl rfl rfl ?_
    refine hK _ (j+1) hJ' (by omega) (Wk.mk' (by intro id h;cases h) (.cons rfl (Sub.refl _) (.cons rfl (Sub.refl _) (.cons rfl (Sub.refl _) (.cons rfl (Sub.of_eq (congrArg (AV.row 14) n1.symm)) (.cons rfl (Sub.refl _) (.cons rfl (Sub.refl _) (.cons rfl (Sub.refl _) (.cons rfl (Sub.refl _) (.cons rfl (Sub.refl _) .nil))))))))) (.cons rfl rfl (Subs.refl _) (.cons rfl rfl (Subs.refl _) (.cons rfl rfl (Subs.refl _) .nil))) (.cons rfl (.cons rfl .nil)))
  · rw[hE hf,if_pos hf]
    have q2:(f !=0)=true:=by simpa using hf
    (repeat' (first|(refine LW.is ?_;first|(apply s_vr;exact rfl;apply v_sliceVh;exact rfl;exact rfl;exact k9;omega;exact ljs;exact hsl2)|(apply s_vr;exact rfl;apply v_makeFunc;exact rfl)|(apply s_callG1 (q:=16);exact rfl;exact hG;exact kc;exact rfl;exact rfl;exact rfl;exact rfl;exact rfl;exact rfl;exact rfl))|(refine DR.is ?_;first|(apply d_vr;exact rfl;apply v_sliceVh;exact rfl;exact rfl;exact k9;omega;exact ljs;exact hsl2)|(apply d_vr;exact rfl;apply v_makeFunc;exact rfl)|(apply d_callG1 (q:=16);exact rfl;exact hG;exact kc;exact rfl;exact rfl;exact rfl;exact rfl;exact rfl;exact rfl;exact rfl))|refine wk1 ?_|refine wk2 (fun hb hp=> ?_) (fun hb hp=> ?_)|fail))
    all_goals refine wkf ?_
    all_goals rfl
 |none=>
  have jlt:=ltF (l:=sets.map Ast.c) (getFN hy)
  have hzn:=zip_none hy
  rw[take_all hzn] at hJ⊢
  have he:setsE ⟨kind,name,table,col,cols,rows,sets,frm,out,wh,ord,down,n⟩ t=0:=errT_no hJ
  rw[he,if_neg (by decide)]
  clear hK hJ hy hzn he
  generalize (sets.zipIdx.map fun p=>(setM t sets p).1)=SS at*
  (repeat' (first|refine wk1 ?_|refine wk2 (fun hb hp=> ?_) (fun hb hp=> ?_)|fail))
  all_goals refine wkf ?_
  all_goals rfl
end Go.Proofs.YthcjohcakdnmmaaGreatDoor
