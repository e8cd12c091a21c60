/- Several texts in one, each with its own sentence ahead of it. Conditions: each one says its own. -/
import Derived.Test.YtadjbegnlimepaaGreatDoorZS43
import Derived.Test.YtadjbegnlimepaaGreatDoorZS44
set_option linter.all false
namespace Go.Proofs.YtadjbegnlimepaaGreatDoor
open Go.Abs
set_option maxRecDepth 100000
attribute [local irreducible] L Code.wp bodyPost Exit.then Exit.inBlock
set_option linter.unusedVariables false
set_option linter.unusedSimpArgs false
theorem lenA(cs:List Ast): ∀e∈cs.map Ast.c,e.length=9:=fun e he=>by
 obtain⟨x,_,rfl⟩:=List.mem_map.1 he;rfl
def setI(p:List Str):Prop:=3≤p.length∧namedM (p.headD [])=true∧p.getD 1 [] = [61]
instance (p:List Str):Decidable (setI p):=by unfold setI;infer_instance
def setV(p:List Str):Ast:=⟨p.headD [],exV (p.drop 2)⟩
def setB(p:List Str):Bool:=exB (p.drop 2)
theorem setM_eq{p:List Str}(h:setI p):setM p=if setB p=true then some (setV p) else none:=by
 unfold setI at h
 unfold setM
 rw[if_pos h]
 have:exM (p.drop 2)=if exB (p.drop 2)=true then some (exV (p.drop 2)) else none:=rfl
 rw[this]
 unfold setB setV
 cases exB (p.drop 2)<;>rfl
theorem setM_no{p:List Str}(h: ¬setI p):setM p=none:=by unfold setI at h;unfold setM;rw[if_neg h]
theorem all_sets: ∀ps:List (List Str),(∀p∈ps,setI p)→allM setM ps=if ps.all setB=true then some (ps.map setV) else none
 | [],_=>rfl
 |p::ps,h=>by
  rw[allM,setM_eq (h p (by simp)),all_sets ps (fun x hx=>h x (by simp[hx])),List.all_cons]
  cases setB p with
  |false=>simp
  |true=>
   simp only[if_true,Bool.true_and]
   by_cases k:ps.all setB=true
   · rw[if_pos k,if_pos k];rfl
   · rw[if_neg k,if_neg k]
set_option maxHeartbeats 64000000 in
theorem doc_update{gs:Globs}(m:Int)(hgm:maxG m∈gs)(hsp:(1,spTab)∈gs){l:List Str}(hl:l.length≤1000000)(ht:TokA l)(n0:hdW [wCREATE,wTABLE] l=false)(n1:hdW [wCREATE,wINDEX] l=false)(n2:hdW [wDROP,wTABLE] l=false)(n3:hdW [wINSERT,wINTO] l=false)(n4:hdW [wDELETE,wFROM] l=false)(hy:hdW [wUPDATE] l=true):CallG gs Tryz.prog 14 [.iv (.sl (l.map Str.c))] [] [] [] (SR (dcUpd (l.drop 1))):=by
 have k0:=head_no hsp hCT (l:=l) hl ht n0
 have k1:=head_no hsp hCI (l:=l) hl ht n1
 have k2:=head_no hsp hDT (l:=l) hl ht n2
 have k3:=head_no hsp hII (l:=l) hl ht n3
 have k4:=head_no hsp hDF (l:=l) hl ht n4
 have k5:=head_yes hsp hUP (l:=l) hl ht hy
 have t2:=ht.drop 1
 have hl2:(l.drop 1).length≤1000000:=by rw[List.length_drop];omega
 dsimp only[List.length_cons,List.length_nil] at k5
 refine CallG.intro _ Tryz.func14 rfl Tryz.ntmps14 rfl (fun w0 E0 hG=> ?_)
 generalize hq:l.drop 1=q at*
 have kw:=where2_at m hgm hl2 t2 6 (.sl []) false (-1)
 obtain⟨t3,h3⟩:=dcWh_tok t2
 have no: ¬(2≤(dcWh q).1.length∧namedM ((dcWh q).1.headD [])=true∧(dcWh q).1.getD 1 [] =wSET)→dcUpd q=none:=fun h=>by unfold dcUpd;rw[if_neg h]
 have yes:(2≤(dcWh q).1.length∧namedM ((dcWh q).1.headD [])=true∧(dcWh q).1.getD 1 [] =wSET)→dcUpd q=match lsM setM ((dcWh q).1.drop 2) with
  |none=>none
  |some m=>if(dcWh q).2.2=true then some {stm0 with kind:=6,table:=(dcWh q).1.headD [],sets:=m,wh:=(dcWh q).2.1} else none:=fun h=>by unfold dcUpd;rw[if_pos h];rfl
 generalize dcWh q=w at*
 obtain⟨a,x,b⟩:=w
 dsimp only at kw no yes t3 h3
 have em:(a.map Str.c).length=a.length:=List.length_map _
 by_cases h0:a.length<2
 · have q1:decide (((a.map Str.c).length:Int)<2)=true:=decide_eq_true (by rw[em];omega)
   rw[no (fun k=>by omega)]
   (repeat' (first|(apply s_callFnW [] (f:=36) (avs:= [aS (wCREATE++32::wTABLE)]) (caps:= [.ptr 1 0]) (bxi:= [(1,rowB l)]);exact rfl;exact hG;exact rfl;exact k0;exact Subs.of_eq rfl;exact .cons rfl rfl (Subs.of_eq rfl) .nil;exact rfl;exact rfl;exact rfl;exact rfl)|(apply s_callFnW [] (f:=36) (avs:= [aS (wCREATE++32::wINDEX)]) (caps:= [.ptr 1 0]) (bxi:= [(1,rowB l)]);exact rfl;exact hG;exact rfl;exact k1;exact Subs.of_eq rfl;exact .cons rfl rfl (Subs.of_eq rfl) .nil;exact rfl;exact rfl;exact rfl;exact rfl)|(apply s_callFnW [] (f:=36) (avs:= [aS (wDROP++32::wTABLE)]) (caps:= [.ptr 1 0]) (bxi:= [(1,rowB l)]);exact rfl;exact hG;exact rfl;exact k2;exact Subs.of_eq rfl;exact .cons rfl rfl (Subs.of_eq rfl) .nil;exact rfl;exact rfl;exact rfl;exact rfl)|(apply s_callFnW [] (f:=36) (avs:= [aS (wINSERT++32::wINTO)]) (caps:= [.ptr 1 0]) (bxi:= [(1,rowB l)]);exact rfl;exact hG;exact rfl;exact k3;exact Subs.of_eq rfl;exact .cons rfl rfl (Subs.of_eq rfl) .nil;exact rfl;exact rfl;exact rfl;exact rfl)|(apply s_callFnW [] (f:=36) (avs:= [aS (wDELETE++32::wFROM)]) (caps:= [.ptr 1 0]) (bxi:= [(1,rowB l)]);exact rfl;exact hG;exact rfl;exact k4;exact Subs.of_eq rfl;exact .cons rfl rfl (Subs.of_eq rfl) .nil;exact rfl;exact rfl;exact rfl;exact rfl)|(apply s_callFnW [] (f:=36) (avs:= [aS wUPDATE]) (caps:= [.ptr 1 0]) (bxi:= [(1,rowB l)]);exact rfl;exact hG;exact rfl;exact k5;exact Subs.of_eq rfl;exact .cons rfl rfl (Subs.of_eq rfl) .nil;exact rfl;exact rfl;exact rfl;exact rfl)|(apply s_callFnW [] (f:=39) (avs:= []) (caps:= [.ptr 1 0,.ptr 4 0]) (bxi:= [(1,rowB q),(4,⟨39,.l (sX 6 nilE (.sl []) false (-1))⟩)]);exact rfl;exact hG;exact rfl;exact kw;exact Subs.of_eq rfl;exact .cons rfl rfl (Subs.of_eq rfl) (.cons rfl rfl (.cons (Sub.refl _) (.cons (Sub.refl _) (.cons (Sub.refl _) (.cons (Sub.refl _) (.cons (Sub.refl _) (.cons (Sub.refl _) (.cons (Sub.refl _) (.cons (Sub.refl _) (.cons (Sub.refl _) (.cons (Sub.refl _) (.cons (Sub.refl _) (.cons (Sub.refl _) (.cons (Sub.refl _) (.cons (Sub.refl _) (.cons (Sub.refl _) (.cons (Sub.refl _) (.cons Sub.nils (.cons Sub.nils (.cons (Sub.refl _) (.cons (Sub.refl _) .nil)))))))))))))))))))) .nil);exact rfl;exact rfl;exact rfl;exact rfl)|refine wk1 ?_|refine wk2 (fun hb hp=> ?_) (fun hb hp=> ?_)|fail))
   all_goals(apply L.ends;exact rfl;exact rfl;exact Sub.tup (.cons (Sub.agg anyS) (.cons (Sub.of_eq rfl) .nil));exact Wk.mk' (by intro id h;cases h) .nil .nil .nil)
 have q1:decide (((a.map Str.c).length:Int)<2)=false:=decide_eq_false (by rw[em];omega)
 have g0:(a.map Str.c)[(0:Int).toNat]?=some [S (a.headD [])]:=at_nat (get0 (by omega)) rfl
 have g1:(a.map Str.c)[(1:Int).toNat]?=some [S (a.getD 1 [])]:=at_nat (i:=1) (getE (by omega)) rfl
 have hmem:a.headD [] ∈a:=by cases a with
  |nil=>simp at h0
  |cons a b=>simp
 have ki:=isName_any m hgm (a.headD []) (by have:=(t3 _ hmem).1.1;omega)
 cases hn:namedM (a.headD []) with
 |false=>
  rw[hn] at ki
  rw[no (fun k=>by rw[hn] at k;cases k.2.1)]
  (repeat' (first|(apply s_callFnW [] (f:=36) (avs:= [aS (wCREATE++32::wTABLE)]) (caps:= [.ptr 1 0]) (bxi:= [(1,rowB l)]);exact rfl;exact hG;exact rfl;exact k0;exact Subs.of_eq rfl;exact .cons rfl rfl (Subs.of_eq rfl) .nil;exact rfl;exact rfl;exact rfl;exact rfl)|(apply s_callFnW [] (f:=36) (avs:= [aS (wCREATE++32::wINDEX)]) (caps:= [.ptr 1 0]) (bxi:= [(1,rowB l)]);exact rfl;exact hG;exact rfl;exact k1;exact Subs.of_eq rfl;exact .cons rfl rfl (Subs.of_eq rfl) .nil;exact rfl;exact rfl;exact rfl;exact rfl)|(apply s_callFnW [] (f:=36) (avs:= [aS (wDROP++32::wTABLE)]) (caps:= [.ptr 1 0]) (bxi:= [(1,rowB l)]);exact rfl;exact hG;exact rfl;exact k2;exact Subs.of_eq rfl;exact .cons rfl rfl (Subs.of_eq rfl) .nil;exact rfl;exact rfl;exact rfl;exact rfl)|(apply s_callFnW [] (f:=36) (avs:= [aS (wINSERT++32::wINTO)]) (caps:= [.ptr 1 0]) (bxi:= [(1,rowB l)]);exact rfl;exact hG;exact rfl;exact k3;exact Subs.of_eq rfl;exact .cons rfl rfl (Subs.of_eq rfl) .nil;exact rfl;exact rfl;exact rfl;exact rfl)|(apply s_callFnW [] (f:=36) (avs:= [aS (wDELETE++32::wFROM)]) (caps:= [.ptr 1 0]) (bxi:= [(1,rowB l)]);exact rfl;exact hG;exact rfl;exact k4;exact Subs.of_eq rfl;exact .cons rfl rfl (Subs.of_eq rfl) .nil;exact rfl;exact rfl;exact rfl;exact rfl)|(apply s_callFnW [] (f:=36) (avs:= [aS wUPDATE]) (caps:= [.ptr 1 0]) (bxi:= [(1,rowB l)]);exact rfl;exact hG;exact rfl;exact k5;exact Subs.of_eq rfl;exact .cons rfl rfl (Subs.of_eq rfl) .nil;exact rfl;exact rfl;exact rfl;exact rfl)|(apply s_callFnW [] (f:=39) (avs:= []) (caps:= [.ptr 1 0,.ptr 4 0]) (bxi:= [(1,rowB q),(4,⟨39,.l (sX 6 nilE (.sl []) false (-1))⟩)]);exact rfl;exact hG;exact rfl;exact kw;exact Subs.of_eq rfl;exact .cons rfl rfl (Subs.of_eq rfl) (.cons rfl rfl (.cons (Sub.refl _) (.cons (Sub.refl _) (.cons (Sub.refl _) (.cons (Sub.refl _) (.cons (Sub.refl _) (.cons (Sub.refl _) (.cons (Sub.refl _) (.cons (Sub.refl _) (.cons (Sub.refl _) (.cons (Sub.refl _) (.cons (Sub.refl _) (.cons (Sub.refl _) (.cons (Sub.refl _) (.cons (Sub.refl _) (.cons (Sub.refl _) (.cons (Sub.refl _) (.cons Sub.nils (.cons Sub.nils (.cons (Sub.refl _) (.cons (Sub.refl _) .nil)))))))))))))))))))) .nil);exact rfl;exact rfl;exact rfl;exact rfl)|refine wk1 ?_|refine wk2 (fun hb hp=> ?_) (fun hb hp=> ?_)|fail))
  all_goals(apply L.ends;exact rfl;exact rfl;exact Sub.tup (.cons (Sub.agg anyS) (.cons (Sub.of_eq rfl) .nil));exact Wk.mk' (by intro id h;cases h) .nil .nil .nil)
 |true=>
 rw[hn] at ki
 by_cases h1:a.getD 1 [] =wSET
 · rw[yes ⟨by omega,hn,h1⟩]
   clear no yes
   rw[h1] at g1
   have kP:=parts_any (a.drop 2) (by rw[List.length_drop];omega)
   have b1:(2:Int)≤((a.map Str.c).length:Int):=by rw[em];omega
   have s1:(a.map Str.c).drop (2:Int).toNat=(a.drop 2).map Str.c:=by rw[List.map_drop];rfl
   have hpt:=parts_tok _ (Nat.le_refl _) (t3.drop 2)
   have hpl:=parts_len _ (Nat.le_refl (a.drop 2).length)
   rw[List.length_drop] at hpl
   unfold lsM
   generalize partsM (a.drop 2)=ps at*
   generalize a.headD [] =nm at*
   have ep:(ps.map Ws.c).length=ps.length:=List.length_map _
   (repeat' (first|(apply s_callFnW [] (f:=36) (avs:= [aS (wCREATE++32::wTABLE)]) (caps:= [.ptr 1 0]) (bxi:= [(1,rowB l)]);exact rfl;exact hG;exact rfl;exact k0;exact Subs.of_eq rfl;exact .cons rfl rfl (Subs.of_eq rfl) .nil;exact rfl;exact rfl;exact rfl;exact rfl)|(apply s_callFnW [] (f:=36) (avs:= [aS (wCREATE++32::wINDEX)]) (caps:= [.ptr 1 0]) (bxi:= [(1,rowB l)]);exact rfl;exact hG;exact rfl;exact k1;exact Subs.of_eq rfl;exact .cons rfl rfl (Subs.of_eq rfl) .nil;exact rfl;exact rfl;exact rfl;exact rfl)|(apply s_callFnW [] (f:=36) (avs:= [aS (wDROP++32::wTABLE)]) (caps:= [.ptr 1 0]) (bxi:= [(1,rowB l)]);exact rfl;exact hG;exact rfl;exact k2;exact Subs.of_eq rfl;exact .cons rfl rfl (Subs.of_eq rfl) .nil;exact rfl;exact rfl;exact rfl;exact rfl)|(apply s_callFnW [] (f:=36) (avs:= [aS (wINSERT++32::wINTO)]) (caps:= [.ptr 1 0]) (bxi:= [(1,rowB l)]);exact rfl;exact hG;exact rfl;exact k3;exact Subs.of_eq rfl;exact .cons rfl rfl (Subs.of_eq rfl) .nil;exact rfl;exact rfl;exact rfl;exact rfl)|(apply s_callFnW [] (f:=36) (avs:= [aS (wDELETE++32::wFROM)]) (caps:= [.ptr 1 0]) (bxi:= [(1,rowB l)]);exact rfl;exact hG;exact rfl;exact k4;exact Subs.of_eq rfl;exact .cons rfl rfl (Subs.of_eq rfl) .nil;exact rfl;exact rfl;exact rfl;exact rfl)|(apply s_callFnW [] (f:=36) (avs:= [aS wUPDATE]) (caps:= [.ptr 1 0]) (bxi:= [(1,rowB l)]);exact rfl;exact hG;exact rfl;exact k5;exact Subs.of_eq rfl;exact .cons rfl rfl (Subs.of_eq rfl) .nil;exact rfl;exact rfl;exact rfl;exact rfl)|(apply s_callFnW [] (f:=39) (avs:= []) (caps:= [.ptr 1 0,.ptr 4 0]) (bxi:= [(1,rowB q),(4,⟨39,.l (sX 6 nilE (.sl []) false (-1))⟩)]);exact rfl;exact hG;exact rfl;exact kw;exact Subs.of_eq rfl;exact .cons rfl rfl (Subs.of_eq rfl) (.cons rfl rfl (.cons (Sub.refl _) (.cons (Sub.refl _) (.cons (Sub.refl _) (.cons (Sub.refl _) (.cons (Sub.refl _) (.cons (Sub.refl _) (.cons (Sub.refl _) (.cons (Sub.refl _) (.cons (Sub.refl _) (.cons (Sub.refl _) (.cons (Sub.refl _) (.cons (Sub.refl _) (.cons (Sub.refl _) (.cons (Sub.refl _) (.cons (Sub.refl _) (.cons (Sub.refl _) (.cons Sub.nils (.cons Sub.nils (.cons (Sub.refl _) (.cons (Sub.refl _) .nil)))))))))))))))))))) .nil);exact rfl;exact rfl;exact rfl;exact rfl)|(refine LW.is ?_;first|(apply s_vr;exact rfl;apply v_sliceVl;exact rfl;exact rfl;exact lenS1 _;decide;exact b1;exact s1))|(refine DR.is ?_;first|(apply d_vr;exact rfl;apply v_sliceVl;exact rfl;exact rfl;exact lenS1 _;decide;exact b1;exact s1))|refine wk1 ?_|refine wk2 (fun hb hp=> ?_) (fun hb hp=> ?_)|fail))
   refine L.adoptB 4 903 57 9 rfl (by simp) rfl rfl (.cons .same (.cons .same (.cons .same (.cons .same (.cons .same (.cons .same (.cons .here (.cons .same (.cons .same (.cons .same (.cons .same (.cons .same (.cons .same (.cons .same (.cons .same (.cons .same (.cons .same (.cons .same (.cons .same (.cons .same .nil)))))))))))))))))))) ?_
   refine L.loopP (ι:=Nat) (fun i=>⟨[(336,aI (i:Int)),(335,aI ((ps.map Ws.c).length:Int)),(334,.iv (.sl (ps.map Ws.c))),(2,.ptr 2 0),(4,.ptr 4 0),(7,aB (b && (ps.take i).all setB))],[(2,⟨39,.l [aI 0,aS [],aS [],aS [],.nils,.nils,.nils,.nils,.nils,aI 0,aI 0,aI 0,aS [],aS [],aS [],aI 0,.nils,.nils,aB false,aI 0]⟩),(4,⟨39,.l [aI 6,aS [],aS nm,aS [],.nils,.nils,.row 903 (((ps.take i).map setV).map Ast.c),.nils,.nils,aI x.op,aI x.v.k,aI x.v.n,aS x.v.s,aS x.s,aS x.name,aI x.n,.iv (.sl (x.l.map Ex.c)),.iv (.sl []),aB false,aI (-1)]⟩)],[(903,⟨57,9⟩)]⟩) (fun i=>ps.length - i) (fun i=> ∀p∈ps.take i,setI p) (i0:=0) ?_ (by simp) ?_
   · (refine Wk.mk' (keys_all rfl) ?_ ?_ ?_<;>repeat' (first|exact WkF.nil|exact WkB.nil|exact WkT.nil|(refine WkF.cons rfl (Sub.refl _) ?_)|(refine WkF.cons rfl (Sub.of_eq rfl) ?_)|(refine WkF.cons rfl (Sub.of_eq (congrArg aB (by simp))) ?_)|(refine WkB.cons rfl rfl (Subs.refl _) ?_)|(refine WkT.cons rfl ?_)))
   clear g0 g1 q1 b1 s1 kP k0 k1 k2 k3 k4 k5 kw hmem em ki h0 h1
   intro i hI K hK
   cases hx:ps[i]? with
   |none=>
    have hlt:=ltF (l:=ps.map Ws.c) (getFN hx)
    rw[List.take_of_length_le (List.getElem?_eq_none_iff.1 hx)] at hI⊢
    rw[all_sets ps hI]
    clear hK
    cases ho:ps.all setB with
    |true=>
     rw[if_pos rfl]
     cases b with
     |true=>
      (repeat' (first|refine wk1 ?_|refine wk2 (fun hb hp=> ?_) (fun hb hp=> ?_)|fail))
      all_goals refine wkf ?_
      all_goals rfl
     |false=>
      (repeat' (first|refine wk1 ?_|refine wk2 (fun hb hp=> ?_) (fun hb hp=> ?_)|fail))
      all_goals(apply L.ends;exact rfl;exact rfl;exact Sub.tup (.cons (Sub.agg anyS) (.cons (Sub.of_eq rfl) .nil));exact Wk.mk' (by intro id h;cases h) .nil .nil .nil)
    |false=>
     rw[if_neg Bool.false_ne_true]
     cases b<;>(
      (repeat' (first|refine wk1 ?_|refine wk2 (fun hb hp=> ?_) (fun hb hp=> ?_)|fail))
      all_goals(apply L.ends;exact rfl;exact rfl;exact Sub.tup (.cons (Sub.agg anyS) (.cons (Sub.of_eq rfl) .nil));exact Wk.mk' (by intro id h;cases h) .nil .nil .nil))
   |some p=>
    have hlt:=ltT (l:=ps.map Ws.c) (getF (f:=Ws.c) hx)
    have hlt':=ltN hx
    have gp:=at_w hx
    have hpm:=List.mem_of_getElem? hx
    obtain⟨tp,lp⟩:=hpt p hpm
    rw[List.length_drop] at lp
    have epm:(p.map Str.c).length=p.length:=List.length_map _
    clear hpt
    by_cases c1:p.length<3
    · have q2:decide (((p.map Str.c).length:Int)<3)=true:=decide_eq_true (by rw[epm];omega)
      rw[all_bad hpm (setM_no (fun k=>by have:=k.1;omega))]
      clear hK
      (repeat' (first|refine wk1 ?_|refine wk2 (fun hb hp=> ?_) (fun hb hp=> ?_)|fail))
      all_goals(apply L.ends;exact rfl;exact rfl;exact Sub.tup (.cons (Sub.agg anyS) (.cons (Sub.of_eq rfl) .nil));exact Wk.mk' (by intro id h;cases h) .nil .nil .nil)
    have q2:decide (((p.map Str.c).length:Int)<3)=false:=decide_eq_false (by rw[epm];omega)
    have g0:(p.map Str.c)[(0:Int).toNat]?=some [S (p.headD [])]:=at_nat (get0 (by omega)) rfl
    have g1:(p.map Str.c)[(1:Int).toNat]?=some [S (p.getD 1 [])]:=at_nat (i:=1) (getE (by omega)) rfl
    have hmem:p.headD [] ∈p:=by cases p with
     |nil=>simp at c1
     |cons a b=>simp
    have ki:=isName_any m hgm (p.headD []) (by have:=(tp _ hmem).1.1;omega)
    cases n0:namedM (p.headD []) with
    |false=>
     rw[n0] at ki
     rw[all_bad hpm (setM_no (fun k=>by have:=k.2.1;rw[n0] at this;cases this))]
     clear hK
     (repeat' (first|refine wk1 ?_|refine wk2 (fun hb hp=> ?_) (fun hb hp=> ?_)|fail))
     all_goals(apply L.ends;exact rfl;exact rfl;exact Sub.tup (.cons (Sub.agg anyS) (.cons (Sub.of_eq rfl) .nil));exact Wk.mk' (by intro id h;cases h) .nil .nil .nil)
    |true=>
    rw[n0] at ki
    by_cases c2:p.getD 1 [] = [61]
    · have hs:setI p:=⟨by omega,n0,c2⟩
      rw[c2] at g1
      have ke:=expr_rc m hgm (k:=6) (tp.drop 2) (by rw[List.length_drop];omega) (by decide)
      unfold RC at ke
      have b1:(2:Int)≤((p.map Str.c).length:Int):=by rw[epm];omega
      have s1:(p.map Str.c).drop (2:Int).toNat=(p.drop 2).map Str.c:=by rw[List.map_drop];rfl
      have lr:(((ps.take i).map setV).map Ast.c).length=i:=by simp;omega
      have bm: ∀e:List IV,(((ps.take i).map setV).map Ast.c).length+ [e].length≤maxLen:=fun e=>by rw[lr];simp only[maxLen,List.length_cons,List.length_nil];omega
      have bb: ∀e:List IV,((((ps.take i).map setV).map Ast.c).length+ [e].length)*120≤225000000000000:=fun e=>by rw[lr,List.length_cons,List.length_nil];omega
      have n1:((ps.take (i+1)).map setV).map Ast.c=((ps.take i).map setV).map Ast.c++ [S (p.headD [])::(refO (p.drop 2) 6).1.cs]:=by rw[takeC hx,List.map_append,List.map_append];rfl
      have n2:(b && (ps.take (i+1)).all setB)=((b && (ps.take i).all setB) && (refO (p.drop 2) 6).2):=by rw[takeC hx,List.all_append,←Bool.and_assoc];simp[setB,exB]
      have nI: ∀y∈ps.take (i+1),setI y:=fun y hy=>by
       rw[takeC hx] at hy
       rcases List.mem_append.1 hy with hy|hy
       · exact hI y hy
       · rw[List.mem_singleton.1 hy];exact hs
      generalize (b && (ps.take i).all setB)=ok2 at*
      generalize refO (p.drop 2) 6=r at*
      obtain⟨y,b2⟩:=r
      dsimp only at ke n1 n2
      cases ok2<;>(
       (repeat' (first|(refine LW.is ?_;first|(apply s_append;exact rfl;exact rfl;exact rfl;exact rfl;exact lenA _;(exact len_cons rfl len_nil);exact bm _;exact bb _;exact rfl;exact rfl)|(apply s_vr;exact rfl;apply v_sliceVl;exact rfl;exact rfl;exact lenS1 _;decide;exact b1;exact s1))|(refine DR.is ?_;first|(apply d_append;exact rfl;exact rfl;exact rfl;exact rfl;exact lenA _;(exact len_cons rfl len_nil);exact bm _;exact bb _;exact rfl;exact rfl)|(apply d_vr;exact rfl;apply v_sliceVl;exact rfl;exact rfl;exact lenS1 _;decide;exact b1;exact s1))|refine wk1 ?_|refine wk2 (fun hb hp=> ?_) (fun hb hp=> ?_)|fail))
       refine L.onlyS [336,335,334,2,4,7] [2,4] rfl ?_
       refine L.retokB 4 375 903 rfl (by simp) rfl rfl rfl (.cons .same (.cons .same (.cons .same (.cons .same (.cons .same (.cons .same (.cons .row (.cons .same (.cons .same (.cons .same (.cons .same (.cons .same (.cons .same (.cons .same (.cons .same (.cons .same (.cons .same (.cons .same (.cons .same (.cons .same .nil)))))))))))))))))))) ?_
       refine hK _ (i+1) nI (by omega) (Wk.mk' (keys_all rfl) (.cons rfl (Sub.refl _) (.cons rfl (Sub.refl _) (.cons rfl (Sub.refl _) (.cons rfl (Sub.refl _) (.cons rfl (Sub.refl _) (.cons rfl (Sub.of_eq (congrArg aB n2.symm)) .nil)))))) (.cons rfl rfl (Subs.refl _) (.cons rfl rfl (.cons (Sub.refl _) (.cons (Sub.refl _) (.cons (Sub.refl _) (.cons (Sub.refl _) (.cons (Sub.refl _) (.cons (Sub.refl _) (.cons (Sub.of_eq (congrArg (AV.row 903) n1.symm)) (.cons (Sub.refl _) (.cons (Sub.refl _) (.cons (Sub.refl _) (.cons (Sub.refl _) (.cons (Sub.refl _) (.cons (Sub.refl _) (.cons (Sub.refl _) (.cons (Sub.refl _) (.cons (Sub.refl _) (.cons (Sub.refl _) (.cons (Sub.refl _) (.cons (Sub.refl _) (.cons (Sub.refl _) .nil)))))))))))))))))))) .nil)) (.cons rfl .nil)))
    · have q5:(!(p.getD 1 [] == [61]))=true:=by rw[beqF c2];rfl
      rw[all_bad hpm (setM_no (fun k=>c2 k.2.2))]
      clear hK
      (repeat' (first|refine wk1 ?_|refine wk2 (fun hb hp=> ?_) (fun hb hp=> ?_)|fail))
      all_goals(apply L.ends;exact rfl;exact rfl;exact Sub.tup (.cons (Sub.agg anyS) (.cons (Sub.of_eq rfl) .nil));exact Wk.mk' (by intro id h;cases h) .nil .nil .nil)
 · have q2:(!(a.getD 1 [] == [115,101,116]))=true:=by rw[show(a.getD 1 [] == [115,101,116])=false from beqF h1];rfl
   rw[no (fun k=>h1 k.2.2)]
   (repeat' (first|(apply s_callFnW [] (f:=36) (avs:= [aS (wCREATE++32::wTABLE)]) (caps:= [.ptr 1 0]) (bxi:= [(1,rowB l)]);exact rfl;exact hG;exact rfl;exact k0;exact Subs.of_eq rfl;exact .cons rfl rfl (Subs.of_eq rfl) .nil;exact rfl;exact rfl;exact rfl;exact rfl)|(apply s_callFnW [] (f:=36) (avs:= [aS (wCREATE++32::wINDEX)]) (caps:= [.ptr 1 0]) (bxi:= [(1,rowB l)]);exact rfl;exact hG;exact rfl;exact k1;exact Subs.of_eq rfl;exact .cons rfl rfl (Subs.of_eq rfl) .nil;exact rfl;exact rfl;exact rfl;exact rfl)|(apply s_callFnW [] (f:=36) (avs:= [aS (wDROP++32::wTABLE)]) (caps:= [.ptr 1 0]) (bxi:= [(1,rowB l)]);exact rfl;exact hG;exact rfl;exact k2;exact Subs.of_eq rfl;exact .cons rfl rfl (Subs.of_eq rfl) .nil;exact rfl;exact rfl;exact rfl;exact rfl)|(apply s_callFnW [] (f:=36) (avs:= [aS (wINSERT++32::wINTO)]) (caps:= [.ptr 1 0]) (bxi:= [(1,rowB l)]);exact rfl;exact hG;exact rfl;exact k3;exact Subs.of_eq rfl;exact .cons rfl rfl (Subs.of_eq rfl) .nil;exact rfl;exact rfl;exact rfl;exact rfl)|(apply s_callFnW [] (f:=36) (avs:= [aS (wDELETE++32::wFROM)]) (caps:= [.ptr 1 0]) (bxi:= [(1,rowB l)]);exact rfl;exact hG;exact rfl;exact k4;exact Subs.of_eq rfl;exact .cons rfl rfl (Subs.of_eq rfl) .nil;exact rfl;exact rfl;exact rfl;exact rfl)|(apply s_callFnW [] (f:=36) (avs:= [aS wUPDATE]) (caps:= [.ptr 1 0]) (bxi:= [(1,rowB l)]);exact rfl;exact hG;exact rfl;exact k5;exact Subs.of_eq rfl;exact .cons rfl rfl (Subs.of_eq rfl) .nil;exact rfl;exact rfl;exact rfl;exact rfl)|(apply s_callFnW [] (f:=39) (avs:= []) (caps:= [.ptr 1 0,.ptr 4 0]) (bxi:= [(1,rowB q),(4,⟨39,.l (sX 6 nilE (.sl []) false (-1))⟩)]);exact rfl;exact hG;exact rfl;exact kw;exact Subs.of_eq rfl;exact .cons rfl rfl (Subs.of_eq rfl) (.cons rfl rfl (.cons (Sub.refl _) (.cons (Sub.refl _) (.cons (Sub.refl _) (.cons (Sub.refl _) (.cons (Sub.refl _) (.cons (Sub.refl _) (.cons (Sub.refl _) (.cons (Sub.refl _) (.cons (Sub.refl _) (.cons (Sub.refl _) (.cons (Sub.refl _) (.cons (Sub.refl _) (.cons (Sub.refl _) (.cons (Sub.refl _) (.cons (Sub.refl _) (.cons (Sub.refl _) (.cons Sub.nils (.cons Sub.nils (.cons (Sub.refl _) (.cons (Sub.refl _) .nil)))))))))))))))))))) .nil);exact rfl;exact rfl;exact rfl;exact rfl)|refine wk1 ?_|refine wk2 (fun hb hp=> ?_) (fun hb hp=> ?_)|fail))
   all_goals(apply L.ends;exact rfl;exact rfl;exact Sub.tup (.cons (Sub.agg anyS) (.cons (Sub.of_eq rfl) .nil));exact Wk.mk' (by intro id h;cases h) .nil .nil .nil)
end Go.Proofs.YtadjbegnlimepaaGreatDoor
