/- Several texts in one, each with its own sentence ahead of it. Conditions: each one says its own. -/
import Derived.Test.YtadjbegnlimepaaGreatDoorZS41
set_option linter.all false
namespace Go.Proofs.YtadjbegnlimepaaGreatDoor
open Go.Abs
set_option maxRecDepth 100000
attribute [local irreducible] L Code.wp bodyPost Exit.then Exit.inBlock
set_option linter.unusedVariables false
set_option linter.unusedSimpArgs false
theorem all_snoc{α:Type}{f:List Str→Option α}: ∀{ps:List (List Str)} {m:List α} {p:List Str} {a:α},allM f ps=some m→f p=some a→allM f (ps++ [p])=some (m++ [a])
 | [],m,p,a,h,hp=>by
   rw[allM] at h
   injection h with h
   subst h
   rw[List.nil_append,all_cons]
   exact⟨a,[],hp,rfl,rfl⟩
 |q::ps,m,p,a,h,hp=>by
  rw[all_cons] at h
  obtain⟨b,m',h1,h2,rfl⟩:=h
  rw[List.cons_append,all_cons]
  exact⟨b,m'++ [a],h1,all_snoc h2 hp,rfl⟩
theorem all_bad{α:Type}{f:List Str→Option α}: ∀{ps:List (List Str)} {p:List Str},p∈ps→f p=none→allM f ps=none
 |q::ps,p,h,hp=>by
  cases e:allM f (q::ps) with
  |none=>rfl
  |some m=>
   rw[all_cons] at e
   obtain⟨b,m',h1,h2,_⟩:=e
   rcases List.mem_cons.1 h with rfl|h
   · rw[hp] at h1;cases h1
   · rw[all_bad h hp] at h2;cases h2
theorem all_len{α:Type}{f:List Str→Option α}: ∀{ps:List (List Str)} {m:List α},allM f ps=some m→m.length=ps.length
 | [],m,h=>by rw[allM] at h;injection h with h;rw[←h];rfl
 |q::ps,m,h=>by
  rw[all_cons] at h
  obtain⟨b,m',h1,h2,rfl⟩:=h
  rw[List.length_cons,List.length_cons,all_len h2]
theorem all_nxt{α:Type}{f:List Str→Option α}{ps:List (List Str)}{i:Nat}{p:List Str}{m:List α}{a:α}(h:allM f (ps.take i)=some m)(hx:ps[i]?=some p)(hp:f p=some a):allM f (ps.take (i+1))=some (m++ [a]):=by
 rw[takeC hx];exact all_snoc h hp
theorem parts_tok: ∀(n:Nat) {l:List Str},l.length≤n→TokA l→ ∀p∈partsM l,TokA p∧p.length≤l.length
 |n,l,hn,ht,p,hp=>by
  cases e:cutM l [[44]] with
  |none=>
   rw[parts_none e] at hp
   have:=List.mem_singleton.1 hp
   rw[this];exact⟨ht,Nat.le_refl _⟩
  |some x=>
   rw[parts_some e] at hp
   rcases List.mem_cons.1 hp with rfl|hp
   · exact⟨ht.take _,by rw[List.length_take];omega⟩
   · have hx:=cut_len e
     match n,hn with
     |0,hn=>omega
     |n+1,hn=>
      obtain⟨h1,h2⟩:=parts_tok n (l:=l.drop (x.1+1)) (by rw[List.length_drop];omega) (ht.drop _) p hp
      exact⟨h1,by rw[List.length_drop] at h2;omega⟩
theorem parts_len: ∀(n:Nat) {l:List Str},l.length≤n→(partsM l).length≤l.length+1
 |n,l,hn=>by
  cases e:cutM l [[44]] with
  |none=>rw[parts_none e];simp
  |some x=>
   rw[parts_some e,List.length_cons]
   have hx:=cut_len e
   match n,hn with
   |0,hn=>omega
   |n+1,hn=>
    have:=parts_len n (l:=l.drop (x.1+1)) (by rw[List.length_drop];omega)
    rw[List.length_drop] at this
    omega
theorem ins_tok{l:List Str}(ht:TokA l):TokA (insR l).1∧(insR l).1.length≤l.length:=by
 unfold insR
 split
 · exact⟨(ht.drop 1).take _,by dsimp only;rw[List.length_take];omega⟩
 · exact⟨fun w hw=>(by cases hw),Nat.zero_le _⟩
theorem at_w{ps:List (List Str)}{i:Nat}{p:List Str}(hx:ps[i]?=some p):(ps.map Ws.c)[((i:Nat):Int).toNat]?=some [.sl (p.map Str.c)]:=by rw[Int.toNat_natCast,List.getElem?_map,hx];rfl
theorem lenC(cs:List Col): ∀e∈cs.map Col.c,e.length=3:=fun e he=>by
 obtain⟨x,_,rfl⟩:=List.mem_map.1 he;rfl
set_option maxHeartbeats 64000000 in
theorem doc_create{gs:Globs}(m:Int)(hgm:maxG m∈gs)(hsp:(1,spTab)∈gs){l:List Str}(hl:l.length≤1000000)(ht:TokA l)(hy:hdW [wCREATE,wTABLE] l=true):CallG gs Tryz.prog 14 [.iv (.sl (l.map Str.c))] [] [] [] (SR (dcCre (l.drop 2))):=by
 have k0:=head_yes hsp hCT (l:=l) hl ht hy
 have t2:=ht.drop 2
 have hl2:(l.drop 2).length≤1000000:=by rw[List.length_drop];omega
 dsimp only[List.length_cons,List.length_nil] at k0
 refine CallG.intro _ Tryz.func14 rfl Tryz.ntmps14 rfl (fun w0 E0 hG=> ?_)
 generalize hq:l.drop 2=q at*
 have em:(q.map Str.c).length=q.length:=List.length_map _
 have no: ¬(q≠ [] ∧namedM (q.headD [])=true)→dcCre q=none:=fun h=>by unfold dcCre;rw[if_neg h]
 by_cases h0:q= []
 · have q1:(((q.map Str.c).length:Int)==0)=true:=by rw[h0];rfl
   rw[no (fun k=>k.1 h0)]
   (repeat' (first|(apply s_callFnW [] (f:=36) (avs:= [aS (wCREATE++32::wTABLE)]) (caps:= [.ptr 1 0]) (bxi:= [(1,rowB l)]);exact rfl;exact hG;exact rfl;exact k0;exact Subs.of_eq rfl;exact .cons rfl rfl (Subs.of_eq rfl) .nil;exact rfl;exact rfl;exact rfl;exact rfl)|refine wk1 ?_|refine wk2 (fun hb hp=> ?_) (fun hb hp=> ?_)|fail))
   all_goals(apply L.ends;exact rfl;exact rfl;exact Sub.tup (.cons (Sub.agg anyS) (.cons (Sub.of_eq rfl) .nil));exact Wk.mk' (by intro id h;cases h) .nil .nil .nil)
 have hlp:=List.length_pos_iff.2 h0
 have q1:(((q.map Str.c).length:Int)==0)=false:=beqF (by rw[em];omega)
 have g0:(q.map Str.c)[(0:Int).toNat]?=some [S (q.headD [])]:=at_nat (get0 hlp) rfl
 have hmem:q.headD [] ∈q:=by cases q with
  |nil=>exact absurd rfl h0
  |cons a b=>simp
 have ki:=isName_any m hgm (q.headD []) (by have:=(t2 _ hmem).1.1;omega)
 cases hn:namedM (q.headD []) with
 |false=>
  rw[hn] at ki
  rw[no (fun k=>by rw[hn] at k;cases k.2)]
  (repeat' (first|(apply s_callFnW [] (f:=36) (avs:= [aS (wCREATE++32::wTABLE)]) (caps:= [.ptr 1 0]) (bxi:= [(1,rowB l)]);exact rfl;exact hG;exact rfl;exact k0;exact Subs.of_eq rfl;exact .cons rfl rfl (Subs.of_eq rfl) .nil;exact rfl;exact rfl;exact rfl;exact rfl)|refine wk1 ?_|refine wk2 (fun hb hp=> ?_) (fun hb hp=> ?_)|fail))
  all_goals(apply L.ends;exact rfl;exact rfl;exact Sub.tup (.cons (Sub.agg anyS) (.cons (Sub.of_eq rfl) .nil));exact Wk.mk' (by intro id h;cases h) .nil .nil .nil)
 |true=>
 rw[hn] at ki
 have yes:dcCre q=match insM (q.drop 1) with
  |none=>none
  |some d=>(lsM dcCol d).map fun cs=>{stm0 with kind:=1,name:=q.headD [],cols:=cs}:=by unfold dcCre;rw[if_pos ⟨h0,hn⟩];rfl
 rw[yes]
 clear no yes
 have kI:=inside_any (q.drop 1) (by rw[List.length_drop];omega)
 have b1:(1:Int)≤((q.map Str.c).length:Int):=by rw[em];omega
 have s1:(q.map Str.c).drop (1:Int).toNat=(q.drop 1).map Str.c:=by rw[List.map_drop];rfl
 rw[insR_eq]
 obtain⟨ti,li⟩:=ins_tok (t2.drop 1)
 rw[List.length_drop] at li
 generalize insR (q.drop 1)=w at*
 obtain⟨d,b⟩:=w
 dsimp only at kI ti li⊢
 generalize q.headD [] =nm at*
 cases b with
 |false=>
  rw[if_neg Bool.false_ne_true]
  (repeat' (first|(apply s_callFnW [] (f:=36) (avs:= [aS (wCREATE++32::wTABLE)]) (caps:= [.ptr 1 0]) (bxi:= [(1,rowB l)]);exact rfl;exact hG;exact rfl;exact k0;exact Subs.of_eq rfl;exact .cons rfl rfl (Subs.of_eq rfl) .nil;exact rfl;exact rfl;exact rfl;exact rfl)|(refine LW.is ?_;first|(apply s_vr;exact rfl;apply v_sliceVl;exact rfl;exact rfl;exact lenS1 _;decide;exact b1;exact s1))|(refine DR.is ?_;first|(apply d_vr;exact rfl;apply v_sliceVl;exact rfl;exact rfl;exact lenS1 _;decide;exact b1;exact s1))|refine wk1 ?_|refine wk2 (fun hb hp=> ?_) (fun hb hp=> ?_)|fail))
  all_goals(apply L.ends;exact rfl;exact rfl;exact Sub.tup (.cons (Sub.agg anyS) (.cons (Sub.of_eq rfl) .nil));exact Wk.mk' (by intro id h;cases h) .nil .nil .nil)
 |true=>
 rw[if_pos rfl]
 dsimp only
 have kP:=parts_any d (by omega)
 have hpt:=parts_tok _ (Nat.le_refl _) ti
 have hpl:=parts_len _ (Nat.le_refl d.length)
 unfold lsM
 generalize partsM d=ps at*
 have ep:(ps.map Ws.c).length=ps.length:=List.length_map _
 (repeat' (first|(apply s_callFnW [] (f:=36) (avs:= [aS (wCREATE++32::wTABLE)]) (caps:= [.ptr 1 0]) (bxi:= [(1,rowB l)]);exact rfl;exact hG;exact rfl;exact k0;exact Subs.of_eq rfl;exact .cons rfl rfl (Subs.of_eq rfl) .nil;exact rfl;exact rfl;exact rfl;exact rfl)|(refine LW.is ?_;first|(apply s_vr;exact rfl;apply v_sliceVl;exact rfl;exact rfl;exact lenS1 _;decide;exact b1;exact s1))|(refine DR.is ?_;first|(apply d_vr;exact rfl;apply v_sliceVl;exact rfl;exact rfl;exact lenS1 _;decide;exact b1;exact s1))|refine wk1 ?_|refine wk2 (fun hb hp=> ?_) (fun hb hp=> ?_)|fail))
 refine L.adoptB 4 900 54 3 rfl (by simp) rfl rfl (.cons .same (.cons .same (.cons .same (.cons .same (.cons .here (.cons .same (.cons .same (.cons .same (.cons .same (.cons .same (.cons .same (.cons .same (.cons .same (.cons .same (.cons .same (.cons .same (.cons .same (.cons .same (.cons .same (.cons .same .nil)))))))))))))))))))) ?_
 refine L.loopP (ι:=Nat×List Col) (fun i=>⟨[(77,aI (i.1:Int)),(76,aI ((ps.map Ws.c).length:Int)),(75,.iv (.sl (ps.map Ws.c))),(1,.ptr 1 0),(2,.ptr 2 0),(4,.ptr 4 0),(7,aB true)],[(2,⟨39,.l [aI 0,aS [],aS [],aS [],.nils,.nils,.nils,.nils,.nils,aI 0,aI 0,aI 0,aS [],aS [],aS [],aI 0,.nils,.nils,aB false,aI 0]⟩),(4,⟨39,.l [aI 1,aS nm,aS [],aS [],.row 900 (i.2.map Col.c),.nils,.nils,.nils,.nils,aI 0,aI 0,aI 0,aS [],aS [],aS [],aI 0,.nils,.nils,aB false,aI (-1)]⟩)],[(900,⟨54,3⟩)]⟩) (fun i=>ps.length - i.1) (fun i=>allM dcCol (ps.take i.1)=some i.2) (i0:=(0,[])) ?_ rfl ?_
 · (refine Wk.mk' (keys_all rfl) ?_ ?_ ?_<;>repeat' (first|exact WkF.nil|exact WkB.nil|exact WkT.nil|(refine WkF.cons rfl (Sub.refl _) ?_)|(refine WkF.cons rfl (Sub.of_eq rfl) ?_)|(refine WkB.cons rfl rfl (Subs.refl _) ?_)|(refine WkT.cons rfl ?_)))
 clear g0 q1 b1 s1 kI kP k0 h0 hmem hlp em ki
 rintro ⟨i,cs⟩ hI K hK
 dsimp only at hI hK⊢
 cases hx:ps[i]? with
 |none=>
  have hlt:=ltF (l:=ps.map Ws.c) (getFN hx)
  rw[List.take_of_length_le (List.getElem?_eq_none_iff.1 hx)] at hI
  rw[hI]
  clear hK
  (repeat' (first|refine wk1 ?_|refine wk2 (fun hb hp=> ?_) (fun hb hp=> ?_)|fail))
  all_goals refine wkf ?_
  all_goals rfl
 |some p=>
  have hlt:=ltT (l:=ps.map Ws.c) (getF (f:=Ws.c) hx)
  have hlt':=ltN hx
  have gp:=at_w hx
  have hpm:=List.mem_of_getElem? hx
  obtain⟨tp,lp⟩:=hpt p hpm
  have epm:(p.map Str.c).length=p.length:=List.length_map _
  have lcs:cs.length=i:=by have:=all_len hI;rw[List.length_take] at this;omega
  have bm:(cs.map Col.c).length+1≤maxLen:=by rw[List.length_map];simp only[maxLen];omega
  have bb:((cs.map Col.c).length+1)*32≤140737488355328:=by rw[List.length_map];omega
  have bad:dcCol p=none→SR ((allM dcCol ps).map fun cs=>({stm0 with kind:=1,name:=nm,cols:=cs}:Stm))=SR none:=fun h=>by rw[all_bad hpm h];rfl
  clear hpt
  by_cases c1:p.length<2
  · have q2:decide (((p.map Str.c).length:Int)<2)=true:=decide_eq_true (by rw[epm];omega)
    rw[bad (by unfold dcCol;rw[if_neg (fun k=>by omega)])]
    clear hK
    (repeat' (first|refine wk1 ?_|refine wk2 (fun hb hp=> ?_) (fun hb hp=> ?_)|fail))
    all_goals(apply L.ends;exact rfl;exact rfl;exact Sub.tup (.cons (Sub.agg anyS) (.cons (Sub.of_eq rfl) .nil));exact Wk.mk' (by intro id h;cases h) .nil .nil .nil)
  have q2:decide (((p.map Str.c).length:Int)<2)=false:=decide_eq_false (by rw[epm];omega)
  by_cases c2:3<p.length
  · have q3:decide (3<((p.map Str.c).length:Int))=true:=decide_eq_true (by rw[epm];omega)
    rw[bad (by unfold dcCol;rw[if_neg (fun k=>by omega)])]
    clear hK
    (repeat' (first|refine wk1 ?_|refine wk2 (fun hb hp=> ?_) (fun hb hp=> ?_)|fail))
    all_goals(apply L.ends;exact rfl;exact rfl;exact Sub.tup (.cons (Sub.agg anyS) (.cons (Sub.of_eq rfl) .nil));exact Wk.mk' (by intro id h;cases h) .nil .nil .nil)
  have q3:decide (3<((p.map Str.c).length:Int))=false:=decide_eq_false (by rw[epm];omega)
  have hpl2:p.length=2∨p.length=3:=by omega
  have g0:(p.map Str.c)[(0:Int).toNat]?=some [S (p.getD 0 [])]:=at_nat (i:=0) (getE (by omega)) rfl
  have g1:(p.map Str.c)[(1:Int).toNat]?=some [S (p.getD 1 [])]:=at_nat (i:=1) (getE (by omega)) rfl
  have hm0:p.getD 0 [] ∈p:=by have:=getE (l:=p) (i:=0) (by omega);exact List.mem_of_getElem? this
  have kj:=isName_any m hgm (p.getD 0 []) (by have:=(tp _ hm0).1.1;omega)
  have hh0:p.headD [] =p.getD 0 []:=by cases p<;>rfl
  cases n0:namedM (p.getD 0 []) with
  |false=>
   rw[n0] at kj
   rw[bad (by unfold dcCol;rw[if_neg (fun k=>by rw[hh0,n0] at k;cases k.2.1)])]
   clear hK
   (repeat' (first|refine wk1 ?_|refine wk2 (fun hb hp=> ?_) (fun hb hp=> ?_)|fail))
   all_goals(apply L.ends;exact rfl;exact rfl;exact Sub.tup (.cons (Sub.agg anyS) (.cons (Sub.of_eq rfl) .nil));exact Wk.mk' (by intro id h;cases h) .nil .nil .nil)
  |true=>
  rw[n0] at kj
  by_cases c3:p.getD 1 [] =wINT∨p.getD 1 [] =wTEXT
  · rcases hpl2 with e2|e3
    · have q4:(((p.map Str.c).length:Int)==3)=false:=beqF (by rw[epm];omega)
      have e:dcCol p=some ⟨p.getD 0 [],if p.getD 1 [] =wTEXT then 2 else 1,false⟩:=by
       unfold dcCol
       rw[if_pos ⟨⟨by omega,by omega⟩,by rw[hh0];exact n0,c3,fun k=>by omega⟩,hh0,show decide (p.length=3)=false from decide_eq_false (by omega)]
      rcases c3 with c3|c3
      · rw[c3,if_neg (by decide)] at e
        rw[c3] at g1
        (repeat' (first|(refine LW.is ?_;first|(apply s_append;exact rfl;exact rfl;exact rfl;exact rfl;exact lenC _;(exact len_cons rfl len_nil);exact bm;exact bb;exact rfl;exact rfl))|(refine DR.is ?_;first|(apply d_append;exact rfl;exact rfl;exact rfl;exact rfl;exact lenC _;(exact len_cons rfl len_nil);exact bm;exact bb;exact rfl;exact rfl))|refine wk1 ?_|refine wk2 (fun hb hp=> ?_) (fun hb hp=> ?_)|fail))
        refine L.onlyS [77,76,75,1,2,4,7] [2,4] rfl ?_
        refine L.retokB 4 134 900 rfl (by simp) rfl rfl rfl (.cons .same (.cons .same (.cons .same (.cons .same (.cons .row (.cons .same (.cons .same (.cons .same (.cons .same (.cons .same (.cons .same (.cons .same (.cons .same (.cons .same (.cons .same (.cons .same (.cons .same (.cons .same (.cons .same (.cons .same .nil)))))))))))))))))))) ?_
        refine hK _ (i+1,cs++ [⟨p.getD 0 [],1,false⟩]) (all_nxt hI hx e) (by dsimp only;omega) (Wk.mk' (keys_all rfl) (.cons rfl (Sub.refl _) (.cons rfl (Sub.refl _) (.cons rfl (Sub.refl _) (.cons rfl (Sub.refl _) (.cons rfl (Sub.refl _) (.cons rfl (Sub.refl _) (.cons rfl (Sub.refl _) .nil))))))) (.cons rfl rfl (Subs.refl _) (.cons rfl rfl (.cons (Sub.refl _) (.cons (Sub.refl _) (.cons (Sub.refl _) (.cons (Sub.refl _) (.cons (Sub.of_eq (congrArg (AV.row 900) (by rw[List.map_append,q4];rfl))) (.cons (Sub.refl _) (.cons (Sub.refl _) (.cons (Sub.refl _) (.cons (Sub.refl _) (.cons (Sub.refl _) (.cons (Sub.refl _) (.cons (Sub.refl _) (.cons (Sub.refl _) (.cons (Sub.refl _) (.cons (Sub.refl _) (.cons (Sub.refl _) (.cons (Sub.refl _) (.cons (Sub.refl _) (.cons (Sub.refl _) (.cons (Sub.refl _) .nil)))))))))))))))))))) .nil)) (.cons rfl .nil))
      · rw[c3,if_pos rfl] at e
        rw[c3] at g1
        (repeat' (first|(refine LW.is ?_;first|(apply s_append;exact rfl;exact rfl;exact rfl;exact rfl;exact lenC _;(exact len_cons rfl len_nil);exact bm;exact bb;exact rfl;exact rfl))|(refine DR.is ?_;first|(apply d_append;exact rfl;exact rfl;exact rfl;exact rfl;exact lenC _;(exact len_cons rfl len_nil);exact bm;exact bb;exact rfl;exact rfl))|refine wk1 ?_|refine wk2 (fun hb hp=> ?_) (fun hb hp=> ?_)|fail))
        refine L.onlyS [77,76,75,1,2,4,7] [2,4] rfl ?_
        refine L.retokB 4 134 900 rfl (by simp) rfl rfl rfl (.cons .same (.cons .same (.cons .same (.cons .same (.cons .row (.cons .same (.cons .same (.cons .same (.cons .same (.cons .same (.cons .same (.cons .same (.cons .same (.cons .same (.cons .same (.cons .same (.cons .same (.cons .same (.cons .same (.cons .same .nil)))))))))))))))))))) ?_
        refine hK _ (i+1,cs++ [⟨p.getD 0 [],2,false⟩]) (all_nxt hI hx e) (by dsimp only;omega) (Wk.mk' (keys_all rfl) (.cons rfl (Sub.refl _) (.cons rfl (Sub.refl _) (.cons rfl (Sub.refl _) (.cons rfl (Sub.refl _) (.cons rfl (Sub.refl _) (.cons rfl (Sub.refl _) (.cons rfl (Sub.refl _) .nil))))))) (.cons rfl rfl (Subs.refl _) (.cons rfl rfl (.cons (Sub.refl _) (.cons (Sub.refl _) (.cons (Sub.refl _) (.cons (Sub.refl _) (.cons (Sub.of_eq (congrArg (AV.row 900) (by rw[List.map_append,q4];rfl))) (.cons (Sub.refl _) (.cons (Sub.refl _) (.cons (Sub.refl _) (.cons (Sub.refl _) (.cons (Sub.refl _) (.cons (Sub.refl _) (.cons (Sub.refl _) (.cons (Sub.refl _) (.cons (Sub.refl _) (.cons (Sub.refl _) (.cons (Sub.refl _) (.cons (Sub.refl _) (.cons (Sub.refl _) (.cons (Sub.refl _) (.cons (Sub.refl _) .nil)))))))))))))))))))) .nil)) (.cons rfl .nil))
    · have q4:(((p.map Str.c).length:Int)==3)=true:=by rw[epm,e3];rfl
      have g2:(p.map Str.c)[(2:Int).toNat]?=some [S (p.getD 2 [])]:=at_nat (i:=2) (getE (by omega)) rfl
      by_cases c4:p.getD 2 [] =wMUST
      · have e:dcCol p=some ⟨p.getD 0 [],if p.getD 1 [] =wTEXT then 2 else 1,true⟩:=by
         unfold dcCol
         rw[if_pos ⟨⟨by omega,by omega⟩,by rw[hh0];exact n0,c3,fun _=>c4⟩,hh0,show decide (p.length=3)=true from decide_eq_true e3]
        rw[c4] at g2
        rcases c3 with c3|c3
        · rw[c3,if_neg (by decide)] at e
          rw[c3] at g1
          (repeat' (first|(refine LW.is ?_;first|(apply s_append;exact rfl;exact rfl;exact rfl;exact rfl;exact lenC _;(exact len_cons rfl len_nil);exact bm;exact bb;exact rfl;exact rfl))|(refine DR.is ?_;first|(apply d_append;exact rfl;exact rfl;exact rfl;exact rfl;exact lenC _;(exact len_cons rfl len_nil);exact bm;exact bb;exact rfl;exact rfl))|refine wk1 ?_|refine wk2 (fun hb hp=> ?_) (fun hb hp=> ?_)|fail))
          refine L.onlyS [77,76,75,1,2,4,7] [2,4] rfl ?_
          refine L.retokB 4 134 900 rfl (by simp) rfl rfl rfl (.cons .same (.cons .same (.cons .same (.cons .same (.cons .row (.cons .same (.cons .same (.cons .same (.cons .same (.cons .same (.cons .same (.cons .same (.cons .same (.cons .same (.cons .same (.cons .same (.cons .same (.cons .same (.cons .same (.cons .same .nil)))))))))))))))))))) ?_
          refine hK _ (i+1,cs++ [⟨p.getD 0 [],1,true⟩]) (all_nxt hI hx e) (by dsimp only;omega) (Wk.mk' (keys_all rfl) (.cons rfl (Sub.refl _) (.cons rfl (Sub.refl _) (.cons rfl (Sub.refl _) (.cons rfl (Sub.refl _) (.cons rfl (Sub.refl _) (.cons rfl (Sub.refl _) (.cons rfl (Sub.refl _) .nil))))))) (.cons rfl rfl (Subs.refl _) (.cons rfl rfl (.cons (Sub.refl _) (.cons (Sub.refl _) (.cons (Sub.refl _) (.cons (Sub.refl _) (.cons (Sub.of_eq (congrArg (AV.row 900) (by rw[List.map_append,q4];rfl))) (.cons (Sub.refl _) (.cons (Sub.refl _) (.cons (Sub.refl _) (.cons (Sub.refl _) (.cons (Sub.refl _) (.cons (Sub.refl _) (.cons (Sub.refl _) (.cons (Sub.refl _) (.cons (Sub.refl _) (.cons (Sub.refl _) (.cons (Sub.refl _) (.cons (Sub.refl _) (.cons (Sub.refl _) (.cons (Sub.refl _) (.cons (Sub.refl _) .nil)))))))))))))))))))) .nil)) (.cons rfl .nil))
        · rw[c3,if_pos rfl] at e
          rw[c3] at g1
          (repeat' (first|(refine LW.is ?_;first|(apply s_append;exact rfl;exact rfl;exact rfl;exact rfl;exact lenC _;(exact len_cons rfl len_nil);exact bm;exact bb;exact rfl;exact rfl))|(refine DR.is ?_;first|(apply d_append;exact rfl;exact rfl;exact rfl;exact rfl;exact lenC _;(exact len_cons rfl len_nil);exact bm;exact bb;exact rfl;exact rfl))|refine wk1 ?_|refine wk2 (fun hb hp=> ?_) (fun hb hp=> ?_)|fail))
          refine L.onlyS [77,76,75,1,2,4,7] [2,4] rfl ?_
          refine L.retokB 4 134 900 rfl (by simp) rfl rfl rfl (.cons .same (.cons .same (.cons .same (.cons .same (.cons .row (.cons .same (.cons .same (.cons .same (.cons .same (.cons .same (.cons .same (.cons .same (.cons .same (.cons .same (.cons .same (.cons .same (.cons .same (.cons .same (.cons .same (.cons .same .nil)))))))))))))))))))) ?_
          refine hK _ (i+1,cs++ [⟨p.getD 0 [],2,true⟩]) (all_nxt hI hx e) (by dsimp only;omega) (Wk.mk' (keys_all rfl) (.cons rfl (Sub.refl _) (.cons rfl (Sub.refl _) (.cons rfl (Sub.refl _) (.cons rfl (Sub.refl _) (.cons rfl (Sub.refl _) (.cons rfl (Sub.refl _) (.cons rfl (Sub.refl _) .nil))))))) (.cons rfl rfl (Subs.refl _) (.cons rfl rfl (.cons (Sub.refl _) (.cons (Sub.refl _) (.cons (Sub.refl _) (.cons (Sub.refl _) (.cons (Sub.of_eq (congrArg (AV.row 900) (by rw[List.map_append,q4];rfl))) (.cons (Sub.refl _) (.cons (Sub.refl _) (.cons (Sub.refl _) (.cons (Sub.refl _) (.cons (Sub.refl _) (.cons (Sub.refl _) (.cons (Sub.refl _) (.cons (Sub.refl _) (.cons (Sub.refl _) (.cons (Sub.refl _) (.cons (Sub.refl _) (.cons (Sub.refl _) (.cons (Sub.refl _) (.cons (Sub.refl _) (.cons (Sub.refl _) .nil)))))))))))))))))))) .nil)) (.cons rfl .nil))
      · have q5:(!(p.getD 2 [] == [109,117,115,116]))=true:=by rw[show(p.getD 2 [] == [109,117,115,116])=false from beqF c4];rfl
        rw[bad (by unfold dcCol;rw[if_neg (fun k=>c4 (k.2.2.2 e3))])]
        clear hK
        rcases c3 with c3|c3
        · rw[c3] at g1
          (repeat' (first|refine wk1 ?_|refine wk2 (fun hb hp=> ?_) (fun hb hp=> ?_)|fail))
          all_goals(apply L.ends;exact rfl;exact rfl;exact Sub.tup (.cons (Sub.agg anyS) (.cons (Sub.of_eq rfl) .nil));exact Wk.mk' (by intro id h;cases h) .nil .nil .nil)
        · rw[c3] at g1
          (repeat' (first|refine wk1 ?_|refine wk2 (fun hb hp=> ?_) (fun hb hp=> ?_)|fail))
          all_goals(apply L.ends;exact rfl;exact rfl;exact Sub.tup (.cons (Sub.agg anyS) (.cons (Sub.of_eq rfl) .nil));exact Wk.mk' (by intro id h;cases h) .nil .nil .nil)
  · have q5:(!(p.getD 1 [] == [105,110,116]))=true:=by rw[show(p.getD 1 [] == [105,110,116])=false from beqF (fun h=>c3 (.inl h))];rfl
    have q6:(!(p.getD 1 [] == [116,101,120,116]))=true:=by rw[show(p.getD 1 [] == [116,101,120,116])=false from beqF (fun h=>c3 (.inr h))];rfl
    rw[bad (by unfold dcCol;rw[if_neg (fun k=>c3 k.2.2.1)])]
    clear hK
    (repeat' (first|refine wk1 ?_|refine wk2 (fun hb hp=> ?_) (fun hb hp=> ?_)|fail))
    all_goals(apply L.ends;exact rfl;exact rfl;exact Sub.tup (.cons (Sub.agg anyS) (.cons (Sub.of_eq rfl) .nil));exact Wk.mk' (by intro id h;cases h) .nil .nil .nil)
end Go.Proofs.YtadjbegnlimepaaGreatDoor
