/- Several texts in one, each with its own sentence ahead of it. Conditions: each one says its own. -/
import Derived.Test.YtadjbegnlimepaaGreatDoorZS40
set_option linter.all false
namespace Go.Proofs.YtadjbegnlimepaaGreatDoor
open Go.Abs
set_option maxRecDepth 100000
attribute [local irreducible] L Code.wp bodyPost Exit.then Exit.inBlock
set_option linter.unusedVariables false
set_option linter.unusedSimpArgs false
set_option maxHeartbeats 16000000 in
theorem doc_mark{gs:Globs}(m:Int)(hgm:maxG m∈gs)(hsp:(1,spTab)∈gs){l:List Str}(hl:l.length≤1000000)(ht:TokA l)(n0:hdW [wCREATE,wTABLE] l=false)(hy:hdW [wCREATE,wINDEX] l=true):CallG gs Tryz.prog 14 [.iv (.sl (l.map Str.c))] [] [] [] (SR (dcMar (l.drop 2))):=by
 have k0:=head_no hsp hCT (l:=l) hl ht n0
 have k1:=head_yes hsp hCI (l:=l) hl ht hy
 have t2:=ht.drop 2
 have hl2:(l.drop 2).length≤1000000:=by rw[List.length_drop];omega
 dsimp only[List.length_cons,List.length_nil] at k1
 refine CallG.intro _ Tryz.func14 rfl Tryz.ntmps14 rfl (fun w0 E0 hG=> ?_)
 generalize hq:l.drop 2=q at*
 have em:(q.map Str.c).length=q.length:=List.length_map _
 have no: ¬((q.length=6∧q.getD 1 [] =wON∧q.getD 3 [] = [40] ∧q.getD 5 [] = [41])∧namedM (q.headD [])=true∧namedM (q.getD 2 [])=true∧namedM (q.getD 4 [])=true)→dcMar q=none:=fun h=>by unfold dcMar;rw[if_neg h]
 by_cases h1:q.length=6
 · match q,h1,t2,no with
   | [x0,x1,x2,x3,x4,x5],_,t2,no=>
     have i0:=isName_any m hgm x0 (by have:=(t2 x0 (by simp)).1.1;omega)
     have i2:=isName_any m hgm x2 (by have:=(t2 x2 (by simp)).1.1;omega)
     have i4:=isName_any m hgm x4 (by have:=(t2 x4 (by simp)).1.1;omega)
     have g0:([x0,x1,x2,x3,x4,x5].map Str.c)[(0:Int).toNat]?=some [S x0]:=rfl
     have g1:([x0,x1,x2,x3,x4,x5].map Str.c)[(1:Int).toNat]?=some [S x1]:=rfl
     have g2:([x0,x1,x2,x3,x4,x5].map Str.c)[(2:Int).toNat]?=some [S x2]:=rfl
     have g3:([x0,x1,x2,x3,x4,x5].map Str.c)[(3:Int).toNat]?=some [S x3]:=rfl
     have g4:([x0,x1,x2,x3,x4,x5].map Str.c)[(4:Int).toNat]?=some [S x4]:=rfl
     have g5:([x0,x1,x2,x3,x4,x5].map Str.c)[(5:Int).toNat]?=some [S x5]:=rfl
     by_cases h2:x1=wON
     · subst h2
       by_cases h3:x3= [40]
       · subst h3
         by_cases h4:x5= [41]
         · subst h4
           cases n1:namedM x0 with
           |false=>
            rw[n1] at i0
            rw[no (fun k=>by have:=k.2.1;rw[show([x0,wON,x2,[40],x4,[41]]:List Str).headD [] =x0 from rfl,n1] at this;cases this)]
            (repeat' (first|(apply s_callFnW [] (f:=36) (avs:= [aS (wCREATE++32::wTABLE)]) (caps:= [.ptr 1 0]) (bxi:= [(1,rowB l)]);exact rfl;exact hG;exact rfl;exact k0;exact Subs.of_eq rfl;exact .cons rfl rfl (Subs.of_eq rfl) .nil;exact rfl;exact rfl;exact rfl;exact rfl)|(apply s_callFnW [] (f:=36) (avs:= [aS (wCREATE++32::wINDEX)]) (caps:= [.ptr 1 0]) (bxi:= [(1,rowB l)]);exact rfl;exact hG;exact rfl;exact k1;exact Subs.of_eq rfl;exact .cons rfl rfl (Subs.of_eq rfl) .nil;exact rfl;exact rfl;exact rfl;exact rfl)|refine wk1 ?_|refine wk2 (fun hb hp=> ?_) (fun hb hp=> ?_)|fail))
            all_goals(apply L.ends;exact rfl;exact rfl;exact Sub.tup (.cons (Sub.agg anyS) (.cons (Sub.of_eq rfl) .nil));exact Wk.mk' (by intro id h;cases h) .nil .nil .nil)
           |true=>
            rw[n1] at i0
            cases n2:namedM x2 with
            |false=>
             rw[n2] at i2
             rw[no (fun k=>by have:=k.2.2.1;rw[show([x0,wON,x2,[40],x4,[41]]:List Str).getD 2 [] =x2 from rfl,n2] at this;cases this)]
             (repeat' (first|(apply s_callFnW [] (f:=36) (avs:= [aS (wCREATE++32::wTABLE)]) (caps:= [.ptr 1 0]) (bxi:= [(1,rowB l)]);exact rfl;exact hG;exact rfl;exact k0;exact Subs.of_eq rfl;exact .cons rfl rfl (Subs.of_eq rfl) .nil;exact rfl;exact rfl;exact rfl;exact rfl)|(apply s_callFnW [] (f:=36) (avs:= [aS (wCREATE++32::wINDEX)]) (caps:= [.ptr 1 0]) (bxi:= [(1,rowB l)]);exact rfl;exact hG;exact rfl;exact k1;exact Subs.of_eq rfl;exact .cons rfl rfl (Subs.of_eq rfl) .nil;exact rfl;exact rfl;exact rfl;exact rfl)|refine wk1 ?_|refine wk2 (fun hb hp=> ?_) (fun hb hp=> ?_)|fail))
             all_goals(apply L.ends;exact rfl;exact rfl;exact Sub.tup (.cons (Sub.agg anyS) (.cons (Sub.of_eq rfl) .nil));exact Wk.mk' (by intro id h;cases h) .nil .nil .nil)
            |true=>
             rw[n2] at i2
             cases n3:namedM x4 with
             |false=>
              rw[n3] at i4
              rw[no (fun k=>by have:=k.2.2.2;rw[show([x0,wON,x2,[40],x4,[41]]:List Str).getD 4 [] =x4 from rfl,n3] at this;cases this)]
              (repeat' (first|(apply s_callFnW [] (f:=36) (avs:= [aS (wCREATE++32::wTABLE)]) (caps:= [.ptr 1 0]) (bxi:= [(1,rowB l)]);exact rfl;exact hG;exact rfl;exact k0;exact Subs.of_eq rfl;exact .cons rfl rfl (Subs.of_eq rfl) .nil;exact rfl;exact rfl;exact rfl;exact rfl)|(apply s_callFnW [] (f:=36) (avs:= [aS (wCREATE++32::wINDEX)]) (caps:= [.ptr 1 0]) (bxi:= [(1,rowB l)]);exact rfl;exact hG;exact rfl;exact k1;exact Subs.of_eq rfl;exact .cons rfl rfl (Subs.of_eq rfl) .nil;exact rfl;exact rfl;exact rfl;exact rfl)|refine wk1 ?_|refine wk2 (fun hb hp=> ?_) (fun hb hp=> ?_)|fail))
              all_goals(apply L.ends;exact rfl;exact rfl;exact Sub.tup (.cons (Sub.agg anyS) (.cons (Sub.of_eq rfl) .nil));exact Wk.mk' (by intro id h;cases h) .nil .nil .nil)
             |true=>
              rw[n3] at i4
              have e:dcMar [x0,wON,x2,[40],x4,[41]] =some {stm0 with kind:=2,name:=x0,table:=x2,col:=x4}:=by unfold dcMar;rw[if_pos ⟨⟨rfl,rfl,rfl,rfl⟩,n1,n2,n3⟩];rfl
              rw[e]
              (repeat' (first|(apply s_callFnW [] (f:=36) (avs:= [aS (wCREATE++32::wTABLE)]) (caps:= [.ptr 1 0]) (bxi:= [(1,rowB l)]);exact rfl;exact hG;exact rfl;exact k0;exact Subs.of_eq rfl;exact .cons rfl rfl (Subs.of_eq rfl) .nil;exact rfl;exact rfl;exact rfl;exact rfl)|(apply s_callFnW [] (f:=36) (avs:= [aS (wCREATE++32::wINDEX)]) (caps:= [.ptr 1 0]) (bxi:= [(1,rowB l)]);exact rfl;exact hG;exact rfl;exact k1;exact Subs.of_eq rfl;exact .cons rfl rfl (Subs.of_eq rfl) .nil;exact rfl;exact rfl;exact rfl;exact rfl)|refine wk1 ?_|refine wk2 (fun hb hp=> ?_) (fun hb hp=> ?_)|fail))
              all_goals refine wkf ?_
              all_goals rfl
         · rw[no (fun k=>h4 k.1.2.2.2)]
           have q4:(!(x5== [41]))=true:=by rw[beqF h4];rfl
           (repeat' (first|(apply s_callFnW [] (f:=36) (avs:= [aS (wCREATE++32::wTABLE)]) (caps:= [.ptr 1 0]) (bxi:= [(1,rowB l)]);exact rfl;exact hG;exact rfl;exact k0;exact Subs.of_eq rfl;exact .cons rfl rfl (Subs.of_eq rfl) .nil;exact rfl;exact rfl;exact rfl;exact rfl)|(apply s_callFnW [] (f:=36) (avs:= [aS (wCREATE++32::wINDEX)]) (caps:= [.ptr 1 0]) (bxi:= [(1,rowB l)]);exact rfl;exact hG;exact rfl;exact k1;exact Subs.of_eq rfl;exact .cons rfl rfl (Subs.of_eq rfl) .nil;exact rfl;exact rfl;exact rfl;exact rfl)|refine wk1 ?_|refine wk2 (fun hb hp=> ?_) (fun hb hp=> ?_)|fail))
           all_goals(apply L.ends;exact rfl;exact rfl;exact Sub.tup (.cons (Sub.agg anyS) (.cons (Sub.of_eq rfl) .nil));exact Wk.mk' (by intro id h;cases h) .nil .nil .nil)
       · rw[no (fun k=>h3 k.1.2.2.1)]
         have q3:(!(x3== [40]))=true:=by rw[beqF h3];rfl
         (repeat' (first|(apply s_callFnW [] (f:=36) (avs:= [aS (wCREATE++32::wTABLE)]) (caps:= [.ptr 1 0]) (bxi:= [(1,rowB l)]);exact rfl;exact hG;exact rfl;exact k0;exact Subs.of_eq rfl;exact .cons rfl rfl (Subs.of_eq rfl) .nil;exact rfl;exact rfl;exact rfl;exact rfl)|(apply s_callFnW [] (f:=36) (avs:= [aS (wCREATE++32::wINDEX)]) (caps:= [.ptr 1 0]) (bxi:= [(1,rowB l)]);exact rfl;exact hG;exact rfl;exact k1;exact Subs.of_eq rfl;exact .cons rfl rfl (Subs.of_eq rfl) .nil;exact rfl;exact rfl;exact rfl;exact rfl)|refine wk1 ?_|refine wk2 (fun hb hp=> ?_) (fun hb hp=> ?_)|fail))
         all_goals(apply L.ends;exact rfl;exact rfl;exact Sub.tup (.cons (Sub.agg anyS) (.cons (Sub.of_eq rfl) .nil));exact Wk.mk' (by intro id h;cases h) .nil .nil .nil)
     · rw[no (fun k=>h2 k.1.2.1)]
       have q2:(!(x1== [111,110]))=true:=by rw[show(x1== [111,110])=false from beqF h2];rfl
       (repeat' (first|(apply s_callFnW [] (f:=36) (avs:= [aS (wCREATE++32::wTABLE)]) (caps:= [.ptr 1 0]) (bxi:= [(1,rowB l)]);exact rfl;exact hG;exact rfl;exact k0;exact Subs.of_eq rfl;exact .cons rfl rfl (Subs.of_eq rfl) .nil;exact rfl;exact rfl;exact rfl;exact rfl)|(apply s_callFnW [] (f:=36) (avs:= [aS (wCREATE++32::wINDEX)]) (caps:= [.ptr 1 0]) (bxi:= [(1,rowB l)]);exact rfl;exact hG;exact rfl;exact k1;exact Subs.of_eq rfl;exact .cons rfl rfl (Subs.of_eq rfl) .nil;exact rfl;exact rfl;exact rfl;exact rfl)|refine wk1 ?_|refine wk2 (fun hb hp=> ?_) (fun hb hp=> ?_)|fail))
       all_goals(apply L.ends;exact rfl;exact rfl;exact Sub.tup (.cons (Sub.agg anyS) (.cons (Sub.of_eq rfl) .nil));exact Wk.mk' (by intro id h;cases h) .nil .nil .nil)
 · rw[no (fun k=>h1 k.1.1)]
   have q1:(!(((q.map Str.c).length:Int)==6))=true:=by rw[beqF (by rw[em];omega)];rfl
   (repeat' (first|(apply s_callFnW [] (f:=36) (avs:= [aS (wCREATE++32::wTABLE)]) (caps:= [.ptr 1 0]) (bxi:= [(1,rowB l)]);exact rfl;exact hG;exact rfl;exact k0;exact Subs.of_eq rfl;exact .cons rfl rfl (Subs.of_eq rfl) .nil;exact rfl;exact rfl;exact rfl;exact rfl)|(apply s_callFnW [] (f:=36) (avs:= [aS (wCREATE++32::wINDEX)]) (caps:= [.ptr 1 0]) (bxi:= [(1,rowB l)]);exact rfl;exact hG;exact rfl;exact k1;exact Subs.of_eq rfl;exact .cons rfl rfl (Subs.of_eq rfl) .nil;exact rfl;exact rfl;exact rfl;exact rfl)|refine wk1 ?_|refine wk2 (fun hb hp=> ?_) (fun hb hp=> ?_)|fail))
   all_goals(apply L.ends;exact rfl;exact rfl;exact Sub.tup (.cons (Sub.agg anyS) (.cons (Sub.of_eq rfl) .nil));exact Wk.mk' (by intro id h;cases h) .nil .nil .nil)
theorem where_at{gs:Globs}(m:Int)(hgm:maxG m∈gs){l:List Str}(hl:l.length≤1000000)(ht:TokA l)(s:Stm):
 CallG gs Tryz.prog 39 ([] ++ [.ptr 1 0,.ptr 4 0]) [(1,rowB l),(4,stmB s)] [(1,rowB (dcWh l).1),(4,stmB (if cutM l [wWHERE] =none then s else{s with wh:=(dcWh l).2.1}))] [] (aB (dcWh l).2.2):=
 (where_any m hgm l hl ht s).sws [(1000,1),(1001,4)] (args2:= [.ptr 1 0,.ptr 4 0]) (bx2:= [(1,rowB l),(4,stmB s)]) (bx2':= [(1,rowB (dcWh l).1),(4,stmB (if cutM l [wWHERE] =none then s else{s with wh:=(dcWh l).2.1}))]) (tk2':= []) (res2:=aB (dcWh l).2.2) rfl rfl rfl rfl rfl
theorem wh_none{l:List Str}{s:Stm}(h:s.wh=nilE):(if cutM l [wWHERE] =none then s else{s with wh:=(dcWh l).2.1})={s with wh:=(dcWh l).2.1}:=by
 by_cases e:cutM l [wWHERE] =none
 · rw[if_pos e]
   have:(dcWh l).2.1=nilE:=by unfold dcWh;rw[e]
   rw[this,←h]
 · rw[if_neg e]
theorem dcWh_tok{l:List Str}(ht:TokA l):TokA (dcWh l).1∧(dcWh l).1.length≤l.length:=by
 unfold dcWh
 cases cutM l [wWHERE] with
 |none=>exact⟨ht,Nat.le_refl _⟩
 |some p=>exact⟨ht.take _,by dsimp only;rw[List.length_take];omega⟩
set_option maxHeartbeats 16000000 in
theorem doc_delete{gs:Globs}(m:Int)(hgm:maxG m∈gs)(hsp:(1,spTab)∈gs){l:List Str}(hl:l.length≤1000000)(ht:TokA l)(n0:hdW [wCREATE,wTABLE] l=false)(n1:hdW [wCREATE,wINDEX] l=false)(n2:hdW [wDROP,wTABLE] l=false)(n3:hdW [wINSERT,wINTO] l=false)(hy:hdW [wDELETE,wFROM] l=true):CallG gs Tryz.prog 14 [.iv (.sl (l.map Str.c))] [] [] [] (SR (dcDel (l.drop 2))):=by
 have k0:=head_no hsp hCT (l:=l) hl ht n0
 have k1:=head_no hsp hCI (l:=l) hl ht n1
 have k2:=head_no hsp hDT (l:=l) hl ht n2
 have k3:=head_no hsp hII (l:=l) hl ht n3
 have k4:=head_yes hsp hDF (l:=l) hl ht hy
 have t2:=ht.drop 2
 have hl2:(l.drop 2).length≤1000000:=by rw[List.length_drop];omega
 dsimp only[List.length_cons,List.length_nil] at k4
 refine CallG.intro _ Tryz.func14 rfl Tryz.ntmps14 rfl (fun w0 E0 hG=> ?_)
 generalize hq:l.drop 2=q at*
 have kw:=where_at m hgm hl2 t2 {stm0 with kind:=5}
 rw[wh_none (rfl:({stm0 with kind:=5}:Stm).wh=nilE)] at kw
 obtain⟨t3,h3⟩:=dcWh_tok t2
 have no: ¬(((dcWh q).1.length=1∧namedM ((dcWh q).1.headD [])=true)∧(dcWh q).2.2=true)→dcDel q=none:=fun h=>by unfold dcDel;rw[if_neg h]
 have yes:(((dcWh q).1.length=1∧namedM ((dcWh q).1.headD [])=true)∧(dcWh q).2.2=true)→dcDel q=some {stm0 with kind:=5,table:=(dcWh q).1.headD [],wh:=(dcWh q).2.1}:=fun h=>by unfold dcDel;rw[if_pos h]
 generalize dcWh q=w at*
 obtain⟨a,x,b⟩:=w
 dsimp only at kw no yes t3 h3
 have em:(a.map Str.c).length=a.length:=List.length_map _
 by_cases h1:a.length=1
 · match a,h1,t3,no,yes with
   | [n],h1,t3,no,yes=>
     have ki:=isName_any m hgm n (by have:=(t3 n (by simp)).1.1;omega)
     have g0:([n].map Str.c)[(0:Int).toNat]?=some [S n]:=rfl
     cases hn:namedM n with
     |false=>
      rw[hn] at ki
      rw[no (fun k=>by have:=k.1.2;rw[show([n]:List Str).headD [] =n from rfl,hn] at this;cases this)]
      (repeat' (first|(apply s_callFnW [] (f:=36) (avs:= [aS (wCREATE++32::wTABLE)]) (caps:= [.ptr 1 0]) (bxi:= [(1,rowB l)]);exact rfl;exact hG;exact rfl;exact k0;exact Subs.of_eq rfl;exact .cons rfl rfl (Subs.of_eq rfl) .nil;exact rfl;exact rfl;exact rfl;exact rfl)|(apply s_callFnW [] (f:=36) (avs:= [aS (wCREATE++32::wINDEX)]) (caps:= [.ptr 1 0]) (bxi:= [(1,rowB l)]);exact rfl;exact hG;exact rfl;exact k1;exact Subs.of_eq rfl;exact .cons rfl rfl (Subs.of_eq rfl) .nil;exact rfl;exact rfl;exact rfl;exact rfl)|(apply s_callFnW [] (f:=36) (avs:= [aS (wDROP++32::wTABLE)]) (caps:= [.ptr 1 0]) (bxi:= [(1,rowB l)]);exact rfl;exact hG;exact rfl;exact k2;exact Subs.of_eq rfl;exact .cons rfl rfl (Subs.of_eq rfl) .nil;exact rfl;exact rfl;exact rfl;exact rfl)|(apply s_callFnW [] (f:=36) (avs:= [aS (wINSERT++32::wINTO)]) (caps:= [.ptr 1 0]) (bxi:= [(1,rowB l)]);exact rfl;exact hG;exact rfl;exact k3;exact Subs.of_eq rfl;exact .cons rfl rfl (Subs.of_eq rfl) .nil;exact rfl;exact rfl;exact rfl;exact rfl)|(apply s_callFnW [] (f:=36) (avs:= [aS (wDELETE++32::wFROM)]) (caps:= [.ptr 1 0]) (bxi:= [(1,rowB l)]);exact rfl;exact hG;exact rfl;exact k4;exact Subs.of_eq rfl;exact .cons rfl rfl (Subs.of_eq rfl) .nil;exact rfl;exact rfl;exact rfl;exact rfl)|(apply s_callFnW [] (f:=39) (avs:= []) (caps:= [.ptr 1 0,.ptr 4 0]) (bxi:= [(1,rowB q),(4,stmB {stm0 with kind:=5})]);exact rfl;exact hG;exact rfl;exact kw;exact Subs.of_eq rfl;exact .cons rfl rfl (Subs.of_eq rfl) (.cons rfl rfl (.cons (Sub.refl _) (.cons (Sub.refl _) (.cons (Sub.refl _) (.cons (Sub.refl _) (.cons Sub.nils (.cons Sub.nils (.cons Sub.nils (.cons Sub.nils (.cons Sub.nils (.cons (Sub.refl _) (.cons (Sub.refl _) (.cons (Sub.refl _) (.cons (Sub.refl _) (.cons (Sub.refl _) (.cons (Sub.refl _) (.cons (Sub.refl _) (.cons Sub.nils (.cons Sub.nils (.cons (Sub.refl _) (.cons (Sub.refl _) .nil)))))))))))))))))))) .nil);exact rfl;exact rfl;exact rfl;exact rfl)|refine wk1 ?_|refine wk2 (fun hb hp=> ?_) (fun hb hp=> ?_)|fail))
      all_goals(apply L.ends;exact rfl;exact rfl;exact Sub.tup (.cons (Sub.agg anyS) (.cons (Sub.of_eq rfl) .nil));exact Wk.mk' (by intro id h;cases h) .nil .nil .nil)
     |true=>
      rw[hn] at ki
      cases b with
      |false=>
       rw[no (fun k=>by cases k.2)]
       (repeat' (first|(apply s_callFnW [] (f:=36) (avs:= [aS (wCREATE++32::wTABLE)]) (caps:= [.ptr 1 0]) (bxi:= [(1,rowB l)]);exact rfl;exact hG;exact rfl;exact k0;exact Subs.of_eq rfl;exact .cons rfl rfl (Subs.of_eq rfl) .nil;exact rfl;exact rfl;exact rfl;exact rfl)|(apply s_callFnW [] (f:=36) (avs:= [aS (wCREATE++32::wINDEX)]) (caps:= [.ptr 1 0]) (bxi:= [(1,rowB l)]);exact rfl;exact hG;exact rfl;exact k1;exact Subs.of_eq rfl;exact .cons rfl rfl (Subs.of_eq rfl) .nil;exact rfl;exact rfl;exact rfl;exact rfl)|(apply s_callFnW [] (f:=36) (avs:= [aS (wDROP++32::wTABLE)]) (caps:= [.ptr 1 0]) (bxi:= [(1,rowB l)]);exact rfl;exact hG;exact rfl;exact k2;exact Subs.of_eq rfl;exact .cons rfl rfl (Subs.of_eq rfl) .nil;exact rfl;exact rfl;exact rfl;exact rfl)|(apply s_callFnW [] (f:=36) (avs:= [aS (wINSERT++32::wINTO)]) (caps:= [.ptr 1 0]) (bxi:= [(1,rowB l)]);exact rfl;exact hG;exact rfl;exact k3;exact Subs.of_eq rfl;exact .cons rfl rfl (Subs.of_eq rfl) .nil;exact rfl;exact rfl;exact rfl;exact rfl)|(apply s_callFnW [] (f:=36) (avs:= [aS (wDELETE++32::wFROM)]) (caps:= [.ptr 1 0]) (bxi:= [(1,rowB l)]);exact rfl;exact hG;exact rfl;exact k4;exact Subs.of_eq rfl;exact .cons rfl rfl (Subs.of_eq rfl) .nil;exact rfl;exact rfl;exact rfl;exact rfl)|(apply s_callFnW [] (f:=39) (avs:= []) (caps:= [.ptr 1 0,.ptr 4 0]) (bxi:= [(1,rowB q),(4,stmB {stm0 with kind:=5})]);exact rfl;exact hG;exact rfl;exact kw;exact Subs.of_eq rfl;exact .cons rfl rfl (Subs.of_eq rfl) (.cons rfl rfl (.cons (Sub.refl _) (.cons (Sub.refl _) (.cons (Sub.refl _) (.cons (Sub.refl _) (.cons Sub.nils (.cons Sub.nils (.cons Sub.nils (.cons Sub.nils (.cons Sub.nils (.cons (Sub.refl _) (.cons (Sub.refl _) (.cons (Sub.refl _) (.cons (Sub.refl _) (.cons (Sub.refl _) (.cons (Sub.refl _) (.cons (Sub.refl _) (.cons Sub.nils (.cons Sub.nils (.cons (Sub.refl _) (.cons (Sub.refl _) .nil)))))))))))))))))))) .nil);exact rfl;exact rfl;exact rfl;exact rfl)|refine wk1 ?_|refine wk2 (fun hb hp=> ?_) (fun hb hp=> ?_)|fail))
       all_goals(apply L.ends;exact rfl;exact rfl;exact Sub.tup (.cons (Sub.agg anyS) (.cons (Sub.of_eq rfl) .nil));exact Wk.mk' (by intro id h;cases h) .nil .nil .nil)
      |true=>
       rw[yes ⟨⟨rfl,hn⟩,rfl⟩]
       (repeat' (first|(apply s_callFnW [] (f:=36) (avs:= [aS (wCREATE++32::wTABLE)]) (caps:= [.ptr 1 0]) (bxi:= [(1,rowB l)]);exact rfl;exact hG;exact rfl;exact k0;exact Subs.of_eq rfl;exact .cons rfl rfl (Subs.of_eq rfl) .nil;exact rfl;exact rfl;exact rfl;exact rfl)|(apply s_callFnW [] (f:=36) (avs:= [aS (wCREATE++32::wINDEX)]) (caps:= [.ptr 1 0]) (bxi:= [(1,rowB l)]);exact rfl;exact hG;exact rfl;exact k1;exact Subs.of_eq rfl;exact .cons rfl rfl (Subs.of_eq rfl) .nil;exact rfl;exact rfl;exact rfl;exact rfl)|(apply s_callFnW [] (f:=36) (avs:= [aS (wDROP++32::wTABLE)]) (caps:= [.ptr 1 0]) (bxi:= [(1,rowB l)]);exact rfl;exact hG;exact rfl;exact k2;exact Subs.of_eq rfl;exact .cons rfl rfl (Subs.of_eq rfl) .nil;exact rfl;exact rfl;exact rfl;exact rfl)|(apply s_callFnW [] (f:=36) (avs:= [aS (wINSERT++32::wINTO)]) (caps:= [.ptr 1 0]) (bxi:= [(1,rowB l)]);exact rfl;exact hG;exact rfl;exact k3;exact Subs.of_eq rfl;exact .cons rfl rfl (Subs.of_eq rfl) .nil;exact rfl;exact rfl;exact rfl;exact rfl)|(apply s_callFnW [] (f:=36) (avs:= [aS (wDELETE++32::wFROM)]) (caps:= [.ptr 1 0]) (bxi:= [(1,rowB l)]);exact rfl;exact hG;exact rfl;exact k4;exact Subs.of_eq rfl;exact .cons rfl rfl (Subs.of_eq rfl) .nil;exact rfl;exact rfl;exact rfl;exact rfl)|(apply s_callFnW [] (f:=39) (avs:= []) (caps:= [.ptr 1 0,.ptr 4 0]) (bxi:= [(1,rowB q),(4,stmB {stm0 with kind:=5})]);exact rfl;exact hG;exact rfl;exact kw;exact Subs.of_eq rfl;exact .cons rfl rfl (Subs.of_eq rfl) (.cons rfl rfl (.cons (Sub.refl _) (.cons (Sub.refl _) (.cons (Sub.refl _) (.cons (Sub.refl _) (.cons Sub.nils (.cons Sub.nils (.cons Sub.nils (.cons Sub.nils (.cons Sub.nils (.cons (Sub.refl _) (.cons (Sub.refl _) (.cons (Sub.refl _) (.cons (Sub.refl _) (.cons (Sub.refl _) (.cons (Sub.refl _) (.cons (Sub.refl _) (.cons Sub.nils (.cons Sub.nils (.cons (Sub.refl _) (.cons (Sub.refl _) .nil)))))))))))))))))))) .nil);exact rfl;exact rfl;exact rfl;exact rfl)|refine wk1 ?_|refine wk2 (fun hb hp=> ?_) (fun hb hp=> ?_)|fail))
       all_goals refine wkf ?_
       all_goals rfl
 · rw[no (fun k=>h1 k.1.1)]
   have q1:(!(((a.map Str.c).length:Int)==1))=true:=by rw[beqF (by rw[em];omega)];rfl
   (repeat' (first|(apply s_callFnW [] (f:=36) (avs:= [aS (wCREATE++32::wTABLE)]) (caps:= [.ptr 1 0]) (bxi:= [(1,rowB l)]);exact rfl;exact hG;exact rfl;exact k0;exact Subs.of_eq rfl;exact .cons rfl rfl (Subs.of_eq rfl) .nil;exact rfl;exact rfl;exact rfl;exact rfl)|(apply s_callFnW [] (f:=36) (avs:= [aS (wCREATE++32::wINDEX)]) (caps:= [.ptr 1 0]) (bxi:= [(1,rowB l)]);exact rfl;exact hG;exact rfl;exact k1;exact Subs.of_eq rfl;exact .cons rfl rfl (Subs.of_eq rfl) .nil;exact rfl;exact rfl;exact rfl;exact rfl)|(apply s_callFnW [] (f:=36) (avs:= [aS (wDROP++32::wTABLE)]) (caps:= [.ptr 1 0]) (bxi:= [(1,rowB l)]);exact rfl;exact hG;exact rfl;exact k2;exact Subs.of_eq rfl;exact .cons rfl rfl (Subs.of_eq rfl) .nil;exact rfl;exact rfl;exact rfl;exact rfl)|(apply s_callFnW [] (f:=36) (avs:= [aS (wINSERT++32::wINTO)]) (caps:= [.ptr 1 0]) (bxi:= [(1,rowB l)]);exact rfl;exact hG;exact rfl;exact k3;exact Subs.of_eq rfl;exact .cons rfl rfl (Subs.of_eq rfl) .nil;exact rfl;exact rfl;exact rfl;exact rfl)|(apply s_callFnW [] (f:=36) (avs:= [aS (wDELETE++32::wFROM)]) (caps:= [.ptr 1 0]) (bxi:= [(1,rowB l)]);exact rfl;exact hG;exact rfl;exact k4;exact Subs.of_eq rfl;exact .cons rfl rfl (Subs.of_eq rfl) .nil;exact rfl;exact rfl;exact rfl;exact rfl)|(apply s_callFnW [] (f:=39) (avs:= []) (caps:= [.ptr 1 0,.ptr 4 0]) (bxi:= [(1,rowB q),(4,stmB {stm0 with kind:=5})]);exact rfl;exact hG;exact rfl;exact kw;exact Subs.of_eq rfl;exact .cons rfl rfl (Subs.of_eq rfl) (.cons rfl rfl (.cons (Sub.refl _) (.cons (Sub.refl _) (.cons (Sub.refl _) (.cons (Sub.refl _) (.cons Sub.nils (.cons Sub.nils (.cons Sub.nils (.cons Sub.nils (.cons Sub.nils (.cons (Sub.refl _) (.cons (Sub.refl _) (.cons (Sub.refl _) (.cons (Sub.refl _) (.cons (Sub.refl _) (.cons (Sub.refl _) (.cons (Sub.refl _) (.cons Sub.nils (.cons Sub.nils (.cons (Sub.refl _) (.cons (Sub.refl _) .nil)))))))))))))))))))) .nil);exact rfl;exact rfl;exact rfl;exact rfl)|refine wk1 ?_|refine wk2 (fun hb hp=> ?_) (fun hb hp=> ?_)|fail))
   all_goals(apply L.ends;exact rfl;exact rfl;exact Sub.tup (.cons (Sub.agg anyS) (.cons (Sub.of_eq rfl) .nil));exact Wk.mk' (by intro id h;cases h) .nil .nil .nil)
end Go.Proofs.YtadjbegnlimepaaGreatDoor
