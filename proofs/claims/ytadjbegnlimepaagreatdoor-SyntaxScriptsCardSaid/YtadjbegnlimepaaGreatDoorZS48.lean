/- Several texts in one, each with its own sentence ahead of it. Conditions: each one says its own. -/
import Derived.Test.YtadjbegnlimepaaGreatDoorZS46
import Derived.Test.YtadjbegnlimepaaGreatDoorZS47
set_option linter.all false
namespace Go.Proofs.YtadjbegnlimepaaGreatDoor
open Go.Abs
set_option maxRecDepth 100000
attribute [local irreducible] L Code.wp bodyPost Exit.then Exit.inBlock
set_option linter.unusedVariables false
set_option linter.unusedSimpArgs false
theorem doc_any{gs:Globs}(m:Int)(hgm:maxG m∈gs)(hsp:(1,spTab)∈gs){l:List Str}(hl:l.length≤1000000)(ht:TokA l):CallG gs Tryz.prog 14 [.iv (.sl (l.map Str.c))] [] [] [] (SR (dcStmt l)):=by
 unfold dcStmt
 cases n0:hdW [wCREATE,wTABLE] l with
 |true=>
  rw[if_pos rfl]
  exact doc_create m hgm hsp hl ht n0
 |false=>
 rw[if_neg Bool.false_ne_true]
 cases n1:hdW [wCREATE,wINDEX] l with
 |true=>
  rw[if_pos rfl]
  exact doc_mark m hgm hsp hl ht n0 n1
 |false=>
 rw[if_neg Bool.false_ne_true]
 cases n2:hdW [wDROP,wTABLE] l with
 |true=>
  rw[if_pos rfl]
  exact doc_drop m hgm hsp hl ht n0 n1 n2
 |false=>
 rw[if_neg Bool.false_ne_true]
 cases n3:hdW [wINSERT,wINTO] l with
 |true=>
  rw[if_pos rfl]
  exact doc_insert m hgm hsp hl ht n0 n1 n2 n3
 |false=>
 rw[if_neg Bool.false_ne_true]
 cases n4:hdW [wDELETE,wFROM] l with
 |true=>
  rw[if_pos rfl]
  exact doc_delete m hgm hsp hl ht n0 n1 n2 n3 n4
 |false=>
 rw[if_neg Bool.false_ne_true]
 cases n5:hdW [wUPDATE] l with
 |true=>
  rw[if_pos rfl]
  exact doc_update m hgm hsp hl ht n0 n1 n2 n3 n4 n5
 |false=>
 rw[if_neg Bool.false_ne_true]
 cases n6:hdW [wSELECT] l with
 |true=>
  rw[if_pos rfl]
  exact doc_select m hgm hsp hl ht n0 n1 n2 n3 n4 n5 n6
 |false=>
 rw[if_neg Bool.false_ne_true]
 exact doc_none m hgm hsp hl ht n0 n1 n2 n3 n4 n5 n6
def WB(l:List Str):Prop:= ∃l',(l=l'∨l=l'++ [[]])∧TokA l'
theorem dw_wb: ∀(k:Nat) (s:Str),s.length≤k→s.length≤1000000→WB (dcWords s)∧(dcWords s).length≤s.length
 |k,[],_,_=>⟨⟨[],.inl dw_nil,fun w hw=>by cases hw⟩,by rw[dw_nil];exact Nat.le_refl _⟩
 |0,c::r,hk,_=>by simp at hk
 |k+1,c::r,hk,hm=>by
  simp only[List.length_cons] at hk hm
  by_cases hb:c=32∨c=10
  · rw[dw_blank hb]
    obtain⟨h1,h2⟩:=dw_wb k r (by omega) (by omega)
    exact⟨h1,by rw[List.length_cons];omega⟩
  · cases ht:tokLen c r with
    |none=>
     rw[dw_none hb ht]
     exact⟨⟨[],.inr rfl,fun w hw=>by cases hw⟩,by simp⟩
    |some n=>
     rw[dw_some hb ht]
     have hp:=tok_pos ht
     have hd:((c::r).drop n).length≤r.length:=by simp;omega
     obtain⟨⟨l',h1,h2⟩,h3⟩:=dw_wb k ((c::r).drop n) (by omega) (by omega)
     refine⟨⟨(c::r).take n::l',?_,fun w hw=> ?_⟩,?_⟩
     · rcases h1 with h1|h1
       · exact .inl (by rw[h1])
       · exact .inr (by rw[h1];rfl)
     · rcases List.mem_cons.1 hw with rfl|hw
       · refine⟨tok_ok ht (by omega),fun e=> ?_⟩
         have:=congrArg List.length e
         simp only[List.length_take,List.length_cons,List.length_nil] at this
         omega
       · exact h2 w hw
     · simp only[List.length_cons];omega
theorem semi_lt: ∀{l:List Str} {k:Nat},k<semiK l→ ∃w,l[k]?=some w∧w≠ [59]
 | [],k,h=>by simp[semiK] at h
 |w::l,k,h=>by
  rw[semiK] at h
  by_cases e:w= [59]
  · rw[if_pos e] at h;omega
  · rw[if_neg e] at h
    cases k with
    |zero=>exact⟨w,rfl,e⟩
    |succ k=>
     obtain⟨v,h1,h2⟩:=semi_lt (l:=l) (k:=k) (by omega)
     exact⟨v,by simpa using h1,h2⟩
theorem semi_at: ∀{l:List Str},semiK l<l.length→l[semiK l]?=some [59]
 | [],h=>by simp at h
 |w::l,h=>by
  rw[semiK] at h⊢
  by_cases e:w= [59]
  · rw[if_pos e,e];rfl
  · rw[if_neg e] at h⊢
    simp only[List.length_cons] at h
    have:=semi_at (l:=l) (by omega)
    simpa using this
theorem WB.cut{l:List Str}(h:WB l)(hs:semiK l<l.length):TokA (l.take (semiK l))∧WB (l.drop (semiK l+1)):=by
 have h59:=semi_at hs
 obtain⟨l',h|h,ht⟩:=h
 · subst h;exact⟨ht.take _,_,.inl rfl,ht.drop _⟩
 · generalize semiK l=k at*
   subst h
   simp only[List.length_append,List.length_cons,List.length_nil] at hs
   have hk:k<l'.length:=by
    rcases Nat.lt_or_ge k l'.length with h|h
    · exact h
    · have:k=l'.length:=by omega
      subst this
      simp at h59
   rw[List.take_append_of_le_length (by omega),List.drop_append_of_le_length (by omega)]
   exact⟨ht.take _,_,.inr rfl,ht.drop _⟩
def dcFin:Option (List Stm)→List Stm×Int
 |none=>([],1)
 |some o=>if 6<o.length then([],2) else(o,0)
theorem dcScript_eq(s:Str):dcScript s=if 1500<s.length then([],2) else dcFin (dcGo ((dcWords s).length+1) (dcWords s)):=by
 unfold dcScript dcFin
 split<;>rfl
theorem rowL(l:List Stm): ∀e∈l.map Stm.cs,e.length=20:=fun e he=>by
 obtain⟨x,_,rfl⟩:=List.mem_map.1 he;rfl
set_option maxHeartbeats 32000000 in
theorem scriptOf_any{gs:Globs}(m:Int)(hgm:maxG m∈gs)(hsp:(1,spTab)∈gs)(s:Str):CallG gs Tryz.prog 5 [aS s] [] [] [] (.tup [.iv (.sl ((dcScript s).1.map Stm.cs)),.iv (I (dcScript s).2)]):=by
 rw[dcScript_eq]
 refine CallG.intro _ Tryz.func5 rfl Tryz.ntmps5 rfl (fun w0 E0 hG=> ?_)
 by_cases hl:1500<s.length
 · rw[if_pos hl]
   have q:decide ((1500:Int)<(s.length:Int))=true:=decide_eq_true (by omega)
   (repeat' (first|refine wk1 ?_|refine wk2 (fun hb hp=> ?_) (fun hb hp=> ?_)|fail))
   all_goals refine wkf ?_
   all_goals rfl
 rw[if_neg hl]
 have q:decide ((1500:Int)<(s.length:Int))=false:=decide_eq_false (by omega)
 have kw:=words_any (gs:=gs) s (by omega)
 obtain⟨hW,hn⟩:=dw_wb _ s (Nat.le_refl _) (by omega)
 replace hn:(dcWords s).length≤1500:=by omega
 obtain⟨l0,hl0⟩: ∃l,dcWords s=l:=⟨_,rfl⟩
 rw[hl0] at kw hW hn
 rw[hl0]
 clear hl0
 (repeat' (first|refine wk1 ?_|refine wk2 (fun hb hp=> ?_) (fun hb hp=> ?_)|fail))
 clear q kw
 refine L.adopt 5 (s:=5) (t:=39) (k:=20) rfl rfl rfl ?_
 refine L.loopP (ι:=Nat×List Stm×List Str) (fun i=>⟨[(4,.iv (.sl (i.2.2.map Str.c))),(5,.row 5 (i.2.1.map Stm.cs))],[],[(5,⟨39,20⟩)]⟩) (fun i=>i.1) (fun i=>dcGo (l0.length+1) l0=(dcGo i.1 i.2.2).map (i.2.1++ ·)∧WB i.2.2∧i.2.2.length<i.1∧i.2.1.length+i.2.2.length≤1500) (i0:=(l0.length+1,[],l0)) ?_ ⟨by simp,hW,Nat.lt_succ_self _,by simpa using hn⟩ ?_
 · exact wkk
 clear hW hn
 rintro ⟨n,acc,l⟩ ⟨hI,hW,hn,hs⟩ K hK
 dsimp only at hI hW hn hs hK⊢
 rw[hI]
 have em:(l.map Str.c).length=l.length:=List.length_map _
 have ea:(acc.map Stm.cs).length=acc.length:=List.length_map _
 match n,hn with
 |n+1,hn=>
 by_cases hz:l= []
 · have eg:dcGo (n+1) l=some []:=by rw[dcGo,if_pos hz]
   rw[eg]
   subst hz
   clear hK
   have eo:(some ([]:List Stm)).map (acc++ ·)=some acc:=by simp
   rw[eo]
   unfold dcFin
   dsimp only
   by_cases h6:6<acc.length
   · rw[if_pos h6]
     have q6:decide ((6:Int)<((acc.map Stm.cs).length:Int))=true:=decide_eq_true (by omega)
     (repeat' (first|refine wk1 ?_|refine wk2 (fun hb hp=> ?_) (fun hb hp=> ?_)|fail))
     all_goals refine wkf ?_
     all_goals rfl
   · rw[if_neg h6]
     have q6:decide ((6:Int)<((acc.map Stm.cs).length:Int))=false:=decide_eq_false (by omega)
     (repeat' (first|refine wk1 ?_|refine wk2 (fun hb hp=> ?_) (fun hb hp=> ?_)|fail))
     all_goals refine wkf ?_
     all_goals rfl
 have hlp:=List.length_pos_iff.2 hz
 have q1:decide ((0:Int)<((l.map Str.c).length:Int))=true:=decide_eq_true (by omega)
 have hsl:=semi_le l
 (repeat' (first|refine wk1 ?_|refine wk2 (fun hb hp=> ?_) (fun hb hp=> ?_)|fail))
 refine L.loopP (ι:=Nat) (fun k=>⟨[(6,aI (k:Int)),(4,.iv (.sl (l.map Str.c))),(5,.row 5 (acc.map Stm.cs))],[],[(5,⟨39,20⟩)]⟩) (fun k=>l.length - k) (fun k=>k≤semiK l) (i0:=0) ?_ (Nat.zero_le _) ?_
 · exact wkk
 clear q1
 intro k hk K2 hK2
 by_cases hk1:k<semiK l
 · obtain⟨w,hw,hne⟩:=semi_lt hk1
   have hlt:decide ((k:Int)<((l.map Str.c).length:Int))=true:=decide_eq_true (by omega)
   have gw:(l.map Str.c)[((k:Nat):Int).toNat]?=some [S w]:=at_nat hw rfl
   have q2:(!(w== [59]))=true:=by rw[beqF hne];rfl
   (repeat' (first|refine wk1 ?_|refine wk2 (fun hb hp=> ?_) (fun hb hp=> ?_)|fail))
   refine hK2 _ (k+1) (by omega) (by omega) ?_
   exact wkk
 have hke:k=semiK l:=by omega
 clear hK2 hk1 hk
 rw[dcGo,if_neg hz]
 by_cases hend:semiK l=l.length
 · rw[if_pos hend]
   have hlt:decide ((k:Int)<((l.map Str.c).length:Int))=false:=decide_eq_false (by omega)
   have q3:((k:Int)==((l.map Str.c).length:Int))=true:=by rw[em,hke,hend];exact beq_self_eq_true _
   clear hK hI
   (repeat' (first|refine wk1 ?_|refine wk2 (fun hb hp=> ?_) (fun hb hp=> ?_)|fail))
   all_goals refine wkf ?_
   all_goals rfl
 rw[if_neg hend]
 have hlt0:semiK l<l.length:=by omega
 have hlt:decide ((k:Int)<((l.map Str.c).length:Int))=true:=decide_eq_true (by omega)
 have q3:((k:Int)==((l.map Str.c).length:Int))=false:=beqF (by omega)
 have gw:(l.map Str.c)[((k:Nat):Int).toNat]?=some [S [59]]:=at_nat (by rw[hke];exact semi_at hlt0) rfl
 have q2:(!(([59]:Str)== [59]))=false:=by decide
 obtain⟨tc,hW2⟩:=hW.cut hlt0
 have kd:=doc_any m hgm hsp (l:=l.take (semiK l)) (by rw[List.length_take];omega) tc
 have hgo:dcGo (n+1) l=match dcStmt (l.take (semiK l)) with
  |none=>none
  |some s=>(dcGo n (l.drop (semiK l+1))).map (s:: ·):=by
  rw[dcGo,if_neg hz,if_neg hend]
  rfl
 rw[←hke] at kd hW2 hgo⊢
 have b1:(k:Int)≤((l.map Str.c).length:Int):=by omega
 have s1:(l.map Str.c).take ((k:Nat):Int).toNat=(l.take k).map Str.c:=by rw[Int.toNat_natCast,List.map_take]
 have b2:(k:Int)+1≤((l.map Str.c).length:Int):=by omega
 have s2:(l.map Str.c).drop ((k:Int)+1).toNat=(l.drop (k+1)).map Str.c:=by rw[show((k:Int)+1).toNat=k+1 by omega,List.map_drop]
 cases hd:dcStmt (l.take k) with
 |none=>
  rw[hd] at kd
  clear hK hI
  (repeat' (first|(refine LW.is ?_;first|(apply s_vr;exact rfl;apply v_sliceVh;exact rfl;exact rfl;exact lenS1 _;omega;exact b1;exact s1))|(refine DR.is ?_;first|(apply d_vr;exact rfl;apply v_sliceVh;exact rfl;exact rfl;exact lenS1 _;omega;exact b1;exact s1))|refine wk1 ?_|refine wk2 (fun hb hp=> ?_) (fun hb hp=> ?_)|fail))
  all_goals refine wkf ?_
  all_goals rfl
 |some x=>
  rw[hd] at kd hgo
  dsimp only at hgo
  rw[hgo] at hI
  have bm: ∀e:List IV,(acc.map Stm.cs).length+ [e].length≤maxLen:=fun e=>by rw[List.length_map];simp only[maxLen,List.length_cons,List.length_nil];omega
  have bb: ∀e:List IV,((acc.map Stm.cs).length+ [e].length)*320≤225000000000000:=fun e=>by rw[List.length_map,List.length_cons,List.length_nil];omega
  have hI2:dcGo (l0.length+1) l0=(dcGo n (l.drop (k+1))).map ((acc++ [x])++ ·):=by
   rw[hI]
   cases dcGo n (l.drop (k+1)) with
   |none=>rfl
   |some o=>simp
  have hl2:(l.drop (k+1)).length=l.length - (k+1):=List.length_drop
  (repeat' (first|(refine LW.is ?_;first|(apply s_vr;exact rfl;apply v_sliceVh;exact rfl;exact rfl;exact lenS1 _;omega;exact b1;exact s1)|(apply s_vr;exact rfl;apply v_sliceVl;exact rfl;exact rfl;exact lenS1 _;omega;exact b2;exact s2)|(apply s_append;exact rfl;exact rfl;exact rfl;exact rfl;exact rowL _;(exact len_cons rfl len_nil);exact bm _;exact bb _;exact rfl;exact rfl))|(refine DR.is ?_;first|(apply d_vr;exact rfl;apply v_sliceVh;exact rfl;exact rfl;exact lenS1 _;omega;exact b1;exact s1)|(apply d_vr;exact rfl;apply v_sliceVl;exact rfl;exact rfl;exact lenS1 _;omega;exact b2;exact s2)|(apply d_append;exact rfl;exact rfl;exact rfl;exact rfl;exact rowL _;(exact len_cons rfl len_nil);exact bm _;exact bb _;exact rfl;exact rfl))|refine wk1 ?_|refine wk2 (fun hb hp=> ?_) (fun hb hp=> ?_)|fail))
  refine L.only [5,4] ?_
  refine L.retok 5 46 5 rfl rfl rfl rfl ?_
  refine hK _ (n,acc++ [x],l.drop (k+1)) ⟨hI2,hW2,by dsimp only;omega,by dsimp only;rw[List.length_append,List.length_cons,List.length_nil];omega⟩ (Nat.lt_succ_self _) (Wk.mk' (by intro id h;cases h) (.cons rfl (Sub.refl _) (.cons rfl (Sub.of_eq (congrArg (AV.row 5) (by rw[List.map_append];rfl))) .nil)) .nil (.cons rfl .nil))
end Go.Proofs.YtadjbegnlimepaaGreatDoor
