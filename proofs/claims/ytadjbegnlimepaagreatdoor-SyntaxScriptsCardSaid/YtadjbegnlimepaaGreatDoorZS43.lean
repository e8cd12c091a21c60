/- Several texts in one, each with its own sentence ahead of it. Conditions: each one says its own. -/
import Derived.Test.YtadjbegnlimepaaGreatDoorZS42
set_option linter.all false
namespace Go.Proofs.YtadjbegnlimepaaGreatDoor
open Go.Abs
set_option maxRecDepth 100000
attribute [local irreducible] L Code.wp bodyPost Exit.then Exit.inBlock
set_option linter.unusedVariables false
set_option linter.unusedSimpArgs false
theorem lenE(es:List Ex): ∀e∈es.map Ex.c,e.length=8:=fun e he=>by
 obtain⟨x,_,rfl⟩:=List.mem_map.1 he;rw[Ex.c_cs];rfl
theorem lenR(rs:List (List Ex)): ∀e∈rs.map exRow,e.length=1:=fun e he=>by
 obtain⟨x,_,rfl⟩:=List.mem_map.1 he;rfl
def exV(x:List Str):Ex:=(refO x 6).1
def exB(x:List Str):Bool:=(refO x 6).2
theorem all_ex: ∀xs:List (List Str),allM exM xs=if xs.all exB=true then some (xs.map exV) else none
 | [] =>rfl
 |x::xs=>by
  rw[allM,all_ex xs,List.all_cons]
  have:exM x=if exB x=true then some (exV x) else none:=rfl
  rw[this]
  cases exB x with
  |false=>simp
  |true=>
   simp only[if_true,Bool.true_and]
   by_cases h:xs.all exB=true
   · rw[if_pos h,if_pos h];rfl
   · rw[if_neg h,if_neg h]
def rowV(p:List Str):List Ex:=(partsM (insR p).1).map exV
def rowOk(p:List Str):Bool:=(partsM (insR p).1).all exB
theorem rowM_eq{p:List Str}(h:(insR p).2=true):rowM p=if rowOk p=true then some (rowV p) else none:=by
 unfold rowM
 rw[insR_eq,if_pos h]
 exact all_ex _
theorem rowM_no{p:List Str}(h:(insR p).2=false):rowM p=none:=by
 unfold rowM
 rw[insR_eq,if_neg (by rw[h];exact Bool.false_ne_true)]
theorem all_rows: ∀ps:List (List Str),(∀p∈ps,(insR p).2=true)→allM rowM ps=if ps.all rowOk=true then some (ps.map rowV) else none
 | [],_=>rfl
 |p::ps,h=>by
  rw[allM,rowM_eq (h p (by simp)),all_rows ps (fun x hx=>h x (by simp[hx])),List.all_cons]
  cases rowOk p with
  |false=>simp
  |true=>
   simp only[if_true,Bool.true_and]
   by_cases k:ps.all rowOk=true
   · rw[if_pos k,if_pos k];rfl
   · rw[if_neg k,if_neg k]
set_option maxHeartbeats 64000000 in
theorem doc_insert{gs:Globs}(m:Int)(hgm:maxG m∈gs)(hsp:(1,spTab)∈gs){l:List Str}(hl:l.length≤1000000)(ht:TokA l)(n0:hdW [wCREATE,wTABLE] l=false)(n1:hdW [wCREATE,wINDEX] l=false)(n2:hdW [wDROP,wTABLE] l=false)(hy:hdW [wINSERT,wINTO] l=true):CallG gs Tryz.prog 14 [.iv (.sl (l.map Str.c))] [] [] [] (SR (dcIns (l.drop 2))):=by
 have k0:=head_no hsp hCT (l:=l) hl ht n0
 have k1:=head_no hsp hCI (l:=l) hl ht n1
 have k2:=head_no hsp hDT (l:=l) hl ht n2
 have k3:=head_yes hsp hII (l:=l) hl ht hy
 have t2:=ht.drop 2
 have hl2:(l.drop 2).length≤1000000:=by rw[List.length_drop];omega
 dsimp only[List.length_cons,List.length_nil] at k3
 refine CallG.intro _ Tryz.func14 rfl Tryz.ntmps14 rfl (fun w0 E0 hG=> ?_)
 generalize hq:l.drop 2=q at*
 have em:(q.map Str.c).length=q.length:=List.length_map _
 have no: ¬(3≤q.length∧namedM (q.headD [])=true∧q.getD 1 [] =wVALUES)→dcIns q=none:=fun h=>by unfold dcIns;rw[if_neg h]
 by_cases h0:q.length<3
 · have q1:decide (((q.map Str.c).length:Int)<3)=true:=decide_eq_true (by rw[em];omega)
   rw[no (fun k=>by omega)]
   (repeat' (first|(apply s_callFnW [] (f:=36) (avs:= [aS (wCREATE++32::wTABLE)]) (caps:= [.ptr 1 0]) (bxi:= [(1,rowB l)]);exact rfl;exact hG;exact rfl;exact k0;exact Subs.of_eq rfl;exact .cons rfl rfl (Subs.of_eq rfl) .nil;exact rfl;exact rfl;exact rfl;exact rfl)|(apply s_callFnW [] (f:=36) (avs:= [aS (wCREATE++32::wINDEX)]) (caps:= [.ptr 1 0]) (bxi:= [(1,rowB l)]);exact rfl;exact hG;exact rfl;exact k1;exact Subs.of_eq rfl;exact .cons rfl rfl (Subs.of_eq rfl) .nil;exact rfl;exact rfl;exact rfl;exact rfl)|(apply s_callFnW [] (f:=36) (avs:= [aS (wDROP++32::wTABLE)]) (caps:= [.ptr 1 0]) (bxi:= [(1,rowB l)]);exact rfl;exact hG;exact rfl;exact k2;exact Subs.of_eq rfl;exact .cons rfl rfl (Subs.of_eq rfl) .nil;exact rfl;exact rfl;exact rfl;exact rfl)|(apply s_callFnW [] (f:=36) (avs:= [aS (wINSERT++32::wINTO)]) (caps:= [.ptr 1 0]) (bxi:= [(1,rowB l)]);exact rfl;exact hG;exact rfl;exact k3;exact Subs.of_eq rfl;exact .cons rfl rfl (Subs.of_eq rfl) .nil;exact rfl;exact rfl;exact rfl;exact rfl)|refine wk1 ?_|refine wk2 (fun hb hp=> ?_) (fun hb hp=> ?_)|fail))
   all_goals(apply L.ends;exact rfl;exact rfl;exact Sub.tup (.cons (Sub.agg anyS) (.cons (Sub.of_eq rfl) .nil));exact Wk.mk' (by intro id h;cases h) .nil .nil .nil)
 have q1:decide (((q.map Str.c).length:Int)<3)=false:=decide_eq_false (by rw[em];omega)
 have g0:(q.map Str.c)[(0:Int).toNat]?=some [S (q.headD [])]:=at_nat (get0 (by omega)) rfl
 have g1:(q.map Str.c)[(1:Int).toNat]?=some [S (q.getD 1 [])]:=at_nat (i:=1) (getE (by omega)) rfl
 have hmem:q.headD [] ∈q:=by cases q with
  |nil=>simp at h0
  |cons a b=>simp
 have ki:=isName_any m hgm (q.headD []) (by have:=(t2 _ hmem).1.1;omega)
 cases hn:namedM (q.headD []) with
 |false=>
  rw[hn] at ki
  rw[no (fun k=>by rw[hn] at k;cases k.2.1)]
  (repeat' (first|(apply s_callFnW [] (f:=36) (avs:= [aS (wCREATE++32::wTABLE)]) (caps:= [.ptr 1 0]) (bxi:= [(1,rowB l)]);exact rfl;exact hG;exact rfl;exact k0;exact Subs.of_eq rfl;exact .cons rfl rfl (Subs.of_eq rfl) .nil;exact rfl;exact rfl;exact rfl;exact rfl)|(apply s_callFnW [] (f:=36) (avs:= [aS (wCREATE++32::wINDEX)]) (caps:= [.ptr 1 0]) (bxi:= [(1,rowB l)]);exact rfl;exact hG;exact rfl;exact k1;exact Subs.of_eq rfl;exact .cons rfl rfl (Subs.of_eq rfl) .nil;exact rfl;exact rfl;exact rfl;exact rfl)|(apply s_callFnW [] (f:=36) (avs:= [aS (wDROP++32::wTABLE)]) (caps:= [.ptr 1 0]) (bxi:= [(1,rowB l)]);exact rfl;exact hG;exact rfl;exact k2;exact Subs.of_eq rfl;exact .cons rfl rfl (Subs.of_eq rfl) .nil;exact rfl;exact rfl;exact rfl;exact rfl)|(apply s_callFnW [] (f:=36) (avs:= [aS (wINSERT++32::wINTO)]) (caps:= [.ptr 1 0]) (bxi:= [(1,rowB l)]);exact rfl;exact hG;exact rfl;exact k3;exact Subs.of_eq rfl;exact .cons rfl rfl (Subs.of_eq rfl) .nil;exact rfl;exact rfl;exact rfl;exact rfl)|refine wk1 ?_|refine wk2 (fun hb hp=> ?_) (fun hb hp=> ?_)|fail))
  all_goals(apply L.ends;exact rfl;exact rfl;exact Sub.tup (.cons (Sub.agg anyS) (.cons (Sub.of_eq rfl) .nil));exact Wk.mk' (by intro id h;cases h) .nil .nil .nil)
 |true=>
 rw[hn] at ki
 by_cases h1:q.getD 1 [] =wVALUES
 · have yes:dcIns q=(lsM rowM (q.drop 2)).map fun rs=>{stm0 with kind:=4,table:=q.headD [],rows:=rs}:=by unfold dcIns;rw[if_pos ⟨by omega,hn,h1⟩]
   rw[yes]
   clear no yes
   rw[h1] at g1
   have kP:=parts_any (q.drop 2) (by rw[List.length_drop];omega)
   have b1:(2:Int)≤((q.map Str.c).length:Int):=by rw[em];omega
   have s1:(q.map Str.c).drop (2:Int).toNat=(q.drop 2).map Str.c:=by rw[List.map_drop];rfl
   have hpt:=parts_tok _ (Nat.le_refl _) (t2.drop 2)
   have hpl:=parts_len _ (Nat.le_refl (q.drop 2).length)
   rw[List.length_drop] at hpl
   unfold lsM
   generalize partsM (q.drop 2)=ps at*
   generalize q.headD [] =nm at*
   have ep:(ps.map Ws.c).length=ps.length:=List.length_map _
   (repeat' (first|(apply s_callFnW [] (f:=36) (avs:= [aS (wCREATE++32::wTABLE)]) (caps:= [.ptr 1 0]) (bxi:= [(1,rowB l)]);exact rfl;exact hG;exact rfl;exact k0;exact Subs.of_eq rfl;exact .cons rfl rfl (Subs.of_eq rfl) .nil;exact rfl;exact rfl;exact rfl;exact rfl)|(apply s_callFnW [] (f:=36) (avs:= [aS (wCREATE++32::wINDEX)]) (caps:= [.ptr 1 0]) (bxi:= [(1,rowB l)]);exact rfl;exact hG;exact rfl;exact k1;exact Subs.of_eq rfl;exact .cons rfl rfl (Subs.of_eq rfl) .nil;exact rfl;exact rfl;exact rfl;exact rfl)|(apply s_callFnW [] (f:=36) (avs:= [aS (wDROP++32::wTABLE)]) (caps:= [.ptr 1 0]) (bxi:= [(1,rowB l)]);exact rfl;exact hG;exact rfl;exact k2;exact Subs.of_eq rfl;exact .cons rfl rfl (Subs.of_eq rfl) .nil;exact rfl;exact rfl;exact rfl;exact rfl)|(apply s_callFnW [] (f:=36) (avs:= [aS (wINSERT++32::wINTO)]) (caps:= [.ptr 1 0]) (bxi:= [(1,rowB l)]);exact rfl;exact hG;exact rfl;exact k3;exact Subs.of_eq rfl;exact .cons rfl rfl (Subs.of_eq rfl) .nil;exact rfl;exact rfl;exact rfl;exact rfl)|(refine LW.is ?_;first|(apply s_vr;exact rfl;apply v_sliceVl;exact rfl;exact rfl;exact lenS1 _;decide;exact b1;exact s1))|(refine DR.is ?_;first|(apply d_vr;exact rfl;apply v_sliceVl;exact rfl;exact rfl;exact lenS1 _;decide;exact b1;exact s1))|refine wk1 ?_|refine wk2 (fun hb hp=> ?_) (fun hb hp=> ?_)|fail))
   refine L.adoptB 4 901 33 1 rfl (by simp) rfl rfl (.cons .same (.cons .same (.cons .same (.cons .same (.cons .same (.cons .here (.cons .same (.cons .same (.cons .same (.cons .same (.cons .same (.cons .same (.cons .same (.cons .same (.cons .same (.cons .same (.cons .same (.cons .same (.cons .same (.cons .same .nil)))))))))))))))))))) ?_
   refine L.loopP (ι:=Nat) (fun i=>⟨[(244,aI (i:Int)),(243,aI ((ps.map Ws.c).length:Int)),(242,.iv (.sl (ps.map Ws.c))),(2,.ptr 2 0),(4,.ptr 4 0),(7,aB ((ps.take i).all rowOk))],[(2,⟨39,.l [aI 0,aS [],aS [],aS [],.nils,.nils,.nils,.nils,.nils,aI 0,aI 0,aI 0,aS [],aS [],aS [],aI 0,.nils,.nils,aB false,aI 0]⟩),(4,⟨39,.l [aI 4,aS [],aS nm,aS [],.nils,.row 901 (((ps.take i).map rowV).map exRow),.nils,.nils,.nils,aI 0,aI 0,aI 0,aS [],aS [],aS [],aI 0,.nils,.nils,aB false,aI (-1)]⟩)],[(901,⟨33,1⟩)]⟩) (fun i=>ps.length - i) (fun i=> ∀p∈ps.take i,(insR p).2=true) (i0:=0) ?_ (by simp) ?_
   · (refine Wk.mk' (keys_all rfl) ?_ ?_ ?_<;>repeat' (first|exact WkF.nil|exact WkB.nil|exact WkT.nil|(refine WkF.cons rfl (Sub.refl _) ?_)|(refine WkF.cons rfl (Sub.of_eq rfl) ?_)|(refine WkB.cons rfl rfl (Subs.refl _) ?_)|(refine WkT.cons rfl ?_)))
   clear g0 g1 q1 b1 s1 kP k0 k1 k2 k3 hmem em ki h0 h1
   intro i hI K hK
   cases hx:ps[i]? with
   |none=>
    have hlt:=ltF (l:=ps.map Ws.c) (getFN hx)
    rw[List.take_of_length_le (List.getElem?_eq_none_iff.1 hx)] at hI⊢
    rw[all_rows ps hI]
    clear hK
    cases ho:ps.all rowOk with
    |true=>
     rw[if_pos rfl]
     (repeat' (first|refine wk1 ?_|refine wk2 (fun hb hp=> ?_) (fun hb hp=> ?_)|fail))
     all_goals refine wkf ?_
     all_goals rfl
    |false=>
     rw[if_neg Bool.false_ne_true]
     (repeat' (first|refine wk1 ?_|refine wk2 (fun hb hp=> ?_) (fun hb hp=> ?_)|fail))
     all_goals(apply L.ends;exact rfl;exact rfl;exact Sub.tup (.cons (Sub.agg anyS) (.cons (Sub.of_eq rfl) .nil));exact Wk.mk' (by intro id h;cases h) .nil .nil .nil)
   |some p=>
    have hlt:=ltT (l:=ps.map Ws.c) (getF (f:=Ws.c) hx)
    have hlt':=ltN hx
    have gp:=at_w hx
    have hpm:=List.mem_of_getElem? hx
    obtain⟨tp,lp⟩:=hpt p hpm
    rw[List.length_drop] at lp
    have kI:=inside_any p (by omega)
    cases hb:(insR p).2 with
    |false=>
     rw[hb] at kI
     rw[all_bad hpm (rowM_no hb)]
     clear hK hpt
     (repeat' (first|refine wk1 ?_|refine wk2 (fun hb hp=> ?_) (fun hb hp=> ?_)|fail))
     all_goals(apply L.ends;exact rfl;exact rfl;exact Sub.tup (.cons (Sub.agg anyS) (.cons (Sub.of_eq rfl) .nil));exact Wk.mk' (by intro id h;cases h) .nil .nil .nil)
    |true=>
    rw[hb] at kI
    obtain⟨tx,lx⟩:=ins_tok tp
    have hxt:=parts_tok _ (Nat.le_refl _) tx
    have hxl:=parts_len _ (Nat.le_refl (insR p).1.length)
    have kQ:=parts_any (insR p).1 (by omega)
    have er:rowV p=(partsM (insR p).1).map exV:=rfl
    have eo:rowOk p=(partsM (insR p).1).all exB:=rfl
    have nI: ∀y∈ps.take (i+1),(insR y).2=true:=fun y hy=>by
     rw[takeC hx] at hy
     rcases List.mem_append.1 hy with hy|hy
     · exact hI y hy
     · rw[List.mem_singleton.1 hy];exact hb
    generalize partsM (insR p).1=xs at*
    generalize hok:(ps.take i).all rowOk=ok at*
    have ex:(xs.map Ws.c).length=xs.length:=List.length_map _
    clear hpt
    (repeat' (first|refine wk1 ?_|refine wk2 (fun hb hp=> ?_) (fun hb hp=> ?_)|fail))
    refine L.adopt 902 (s:=18) (t:=37) (k:=8) rfl rfl rfl ?_
    refine L.loopP (ι:=Nat) (fun j=>⟨[(259,aI (j:Int)),(258,aI ((xs.map Ws.c).length:Int)),(257,.iv (.sl (xs.map Ws.c))),(18,.row 902 (((xs.take j).map exV).map Ex.c)),(244,aI (i:Int)),(243,aI ((ps.map Ws.c).length:Int)),(242,.iv (.sl (ps.map Ws.c))),(2,.ptr 2 0),(4,.ptr 4 0),(7,aB (ok && (xs.take j).all exB))],[(2,⟨39,.l [aI 0,aS [],aS [],aS [],.nils,.nils,.nils,.nils,.nils,aI 0,aI 0,aI 0,aS [],aS [],aS [],aI 0,.nils,.nils,aB false,aI 0]⟩),(4,⟨39,.l [aI 4,aS [],aS nm,aS [],.nils,.row 901 (((ps.take i).map rowV).map exRow),.nils,.nils,.nils,aI 0,aI 0,aI 0,aS [],aS [],aS [],aI 0,.nils,.nils,aB false,aI (-1)]⟩)],[(902,⟨37,8⟩),(901,⟨33,1⟩)]⟩) (fun j=>xs.length - j) (fun j=>True) (i0:=0) ?_ trivial ?_
    · (refine Wk.mk' (keys_all rfl) ?_ ?_ ?_<;>repeat' (first|exact WkF.nil|exact WkB.nil|exact WkT.nil|(refine WkF.cons rfl (Sub.refl _) ?_)|(refine WkF.cons rfl (Sub.of_eq rfl) ?_)|(refine WkF.cons rfl (Sub.of_eq (congrArg aB (by simp))) ?_)|(refine WkB.cons rfl rfl (Subs.refl _) ?_)|(refine WkT.cons rfl ?_)))
    clear kI kQ gp hlt
    intro j _ K2 hK2
    cases hz:xs[j]? with
    |none=>
     have hlt:=ltF (l:=xs.map Ws.c) (getFN hz)
     rw[List.take_of_length_le (List.getElem?_eq_none_iff.1 hz)]
     have lr:(((ps.take i).map rowV).map exRow).length=i:=by simp;omega
     have bm:(((ps.take i).map rowV).map exRow).length+1≤maxLen:=by rw[lr];simp only[maxLen];omega
     have bb:((((ps.take i).map rowV).map exRow).length+1)*24≤225000000000000:=by rw[lr];omega
     have n1:((ps.take (i+1)).map rowV).map exRow=((ps.take i).map rowV).map exRow++ [[.sl ((xs.map exV).map Ex.c)]]:=by rw[takeC hx,List.map_append,List.map_append,List.map_cons,List.map_nil,er];rfl
     have n2:(ps.take (i+1)).all rowOk=(ok && xs.all exB):=by rw[takeC hx,List.all_append,hok];simp[eo]
     clear hK2
     (repeat' (first|(refine LW.is ?_;first|(apply s_append;exact rfl;exact rfl;exact rfl;exact rfl;exact lenR _;(exact len_cons rfl len_nil);exact bm;exact bb;exact rfl;exact rfl))|(refine DR.is ?_;first|(apply d_append;exact rfl;exact rfl;exact rfl;exact rfl;exact lenR _;(exact len_cons rfl len_nil);exact bm;exact bb;exact rfl;exact rfl))|refine wk1 ?_|refine wk2 (fun hb hp=> ?_) (fun hb hp=> ?_)|fail))
     refine L.onlyS [244,243,242,2,4,7] [2,4] rfl ?_
     refine L.retokB 4 281 901 rfl (by simp) rfl rfl rfl (.cons .same (.cons .same (.cons .same (.cons .same (.cons .same (.cons .row (.cons .same (.cons .same (.cons .same (.cons .same (.cons .same (.cons .same (.cons .same (.cons .same (.cons .same (.cons .same (.cons .same (.cons .same (.cons .same (.cons .same .nil)))))))))))))))))))) ?_
     refine hK _ (i+1) nI (by omega) (Wk.mk' (keys_all rfl) (.cons rfl (Sub.refl _) (.cons rfl (Sub.refl _) (.cons rfl (Sub.refl _) (.cons rfl (Sub.refl _) (.cons rfl (Sub.refl _) (.cons rfl (Sub.of_eq (congrArg aB n2.symm)) .nil)))))) (.cons rfl rfl (Subs.refl _) (.cons rfl rfl (.cons (Sub.refl _) (.cons (Sub.refl _) (.cons (Sub.refl _) (.cons (Sub.refl _) (.cons (Sub.refl _) (.cons (Sub.of_eq (congrArg (AV.row 901) n1.symm)) (.cons (Sub.refl _) (.cons (Sub.refl _) (.cons (Sub.refl _) (.cons (Sub.refl _) (.cons (Sub.refl _) (.cons (Sub.refl _) (.cons (Sub.refl _) (.cons (Sub.refl _) (.cons (Sub.refl _) (.cons (Sub.refl _) (.cons (Sub.refl _) (.cons (Sub.refl _) (.cons (Sub.refl _) (.cons (Sub.refl _) .nil)))))))))))))))))))) .nil)) (.cons rfl .nil))
    |some x=>
     have hlt:=ltT (l:=xs.map Ws.c) (getF (f:=Ws.c) hz)
     have hlt2:=ltN hz
     have gx:=at_w hz
     obtain⟨tz,lz⟩:=hxt x (List.mem_of_getElem? hz)
     have ke:=expr_rc m hgm (k:=6) tz (by omega) (by decide)
     unfold RC at ke
     have lr:(((xs.take j).map exV).map Ex.c).length=j:=by simp;omega
     have bm: ∀e:List IV,(((xs.take j).map exV).map Ex.c).length+ [e].length≤maxLen:=fun e=>by rw[lr];simp only[maxLen,List.length_cons,List.length_nil];omega
     have bb: ∀e:List IV,((((xs.take j).map exV).map Ex.c).length+ [e].length)*104≤225000000000000:=fun e=>by rw[lr,List.length_cons,List.length_nil];omega
     have n1:((xs.take (j+1)).map exV).map Ex.c=((xs.take j).map exV).map Ex.c++ [(refO x 6).1.cs]:=by rw[takeC hz,List.map_append,List.map_append,List.map_cons,List.map_nil,List.map_cons,List.map_nil,Ex.c_cs];rfl
     have n2:(ok && (xs.take (j+1)).all exB)=((ok && (xs.take j).all exB) && (refO x 6).2):=by rw[takeC hz,List.all_append,←Bool.and_assoc];simp[exB]
     generalize (ok && (xs.take j).all exB)=ok2 at*
     generalize refO x 6=r at*
     obtain⟨y,b⟩:=r
     dsimp only at ke n1 n2
     clear hK
     cases ok2<;>(
      (repeat' (first|(refine LW.is ?_;first|(apply s_append;exact rfl;exact rfl;exact rfl;exact rfl;exact lenE _;(exact len_cons rfl len_nil);exact bm _;exact bb _;exact rfl;exact rfl))|(refine DR.is ?_;first|(apply d_append;exact rfl;exact rfl;exact rfl;exact rfl;exact lenE _;(exact len_cons rfl len_nil);exact bm _;exact bb _;exact rfl;exact rfl))|refine wk1 ?_|refine wk2 (fun hb hp=> ?_) (fun hb hp=> ?_)|fail))
      refine L.onlyS [259,258,257,18,244,243,242,2,4,7] [2,4] rfl ?_
      refine L.retok 18 275 902 rfl rfl rfl rfl ?_
      refine hK2 _ (j+1) trivial (by omega) (Wk.mk' (keys_all rfl) (.cons rfl (Sub.refl _) (.cons rfl (Sub.refl _) (.cons rfl (Sub.refl _) (.cons rfl (Sub.of_eq (congrArg (AV.row 902) n1.symm)) (.cons rfl (Sub.refl _) (.cons rfl (Sub.refl _) (.cons rfl (Sub.refl _) (.cons rfl (Sub.refl _) (.cons rfl (Sub.refl _) (.cons rfl (Sub.of_eq (congrArg aB n2.symm)) .nil)))))))))) (.cons rfl rfl (Subs.refl _) (.cons rfl rfl (Subs.refl _) .nil)) (.cons rfl (.cons rfl .nil))))
 · have q2:(!(q.getD 1 [] == [118,97,108,117,101,115]))=true:=by rw[show(q.getD 1 [] == [118,97,108,117,101,115])=false from beqF h1];rfl
   rw[no (fun k=>h1 k.2.2)]
   (repeat' (first|(apply s_callFnW [] (f:=36) (avs:= [aS (wCREATE++32::wTABLE)]) (caps:= [.ptr 1 0]) (bxi:= [(1,rowB l)]);exact rfl;exact hG;exact rfl;exact k0;exact Subs.of_eq rfl;exact .cons rfl rfl (Subs.of_eq rfl) .nil;exact rfl;exact rfl;exact rfl;exact rfl)|(apply s_callFnW [] (f:=36) (avs:= [aS (wCREATE++32::wINDEX)]) (caps:= [.ptr 1 0]) (bxi:= [(1,rowB l)]);exact rfl;exact hG;exact rfl;exact k1;exact Subs.of_eq rfl;exact .cons rfl rfl (Subs.of_eq rfl) .nil;exact rfl;exact rfl;exact rfl;exact rfl)|(apply s_callFnW [] (f:=36) (avs:= [aS (wDROP++32::wTABLE)]) (caps:= [.ptr 1 0]) (bxi:= [(1,rowB l)]);exact rfl;exact hG;exact rfl;exact k2;exact Subs.of_eq rfl;exact .cons rfl rfl (Subs.of_eq rfl) .nil;exact rfl;exact rfl;exact rfl;exact rfl)|(apply s_callFnW [] (f:=36) (avs:= [aS (wINSERT++32::wINTO)]) (caps:= [.ptr 1 0]) (bxi:= [(1,rowB l)]);exact rfl;exact hG;exact rfl;exact k3;exact Subs.of_eq rfl;exact .cons rfl rfl (Subs.of_eq rfl) .nil;exact rfl;exact rfl;exact rfl;exact rfl)|refine wk1 ?_|refine wk2 (fun hb hp=> ?_) (fun hb hp=> ?_)|fail))
   all_goals(apply L.ends;exact rfl;exact rfl;exact Sub.tup (.cons (Sub.agg anyS) (.cons (Sub.of_eq rfl) .nil));exact Wk.mk' (by intro id h;cases h) .nil .nil .nil)
end Go.Proofs.YtadjbegnlimepaaGreatDoor
