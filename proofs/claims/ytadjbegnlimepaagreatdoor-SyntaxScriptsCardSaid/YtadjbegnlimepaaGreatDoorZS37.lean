/- Several texts in one, each with its own sentence ahead of it. Conditions: each one says its own. -/
import Derived.Test.YtadjbegnlimepaaGreatDoorZS24
import Derived.Test.YtadjbegnlimepaaGreatDoorZS36
set_option linter.all false
namespace Go.Proofs.YtadjbegnlimepaaGreatDoor
open Go.Abs
set_option maxRecDepth 100000
set_option linter.unusedVariables false
set_option linter.unusedSimpArgs false
def dcWords(s:Str):List Str:=
 match s with
 | [] => []
 |c::r=>if c=32∨c=10 then dcWords r else match h:tokLen c r with
  |none=> [[]]
  |some n=>(c::r).take n::dcWords ((c::r).drop n)
 termination_by s.length
 decreasing_by
  all_goals first|(simp;done)|(have:=tok_pos h;simp[List.length_drop];omega)
theorem dw_nil:dcWords [] = []:=by rw[dcWords]
theorem dw_blank{c:UInt8}{r:Str}(h:c=32∨c=10):dcWords (c::r)=dcWords r:=by rw[dcWords,if_pos h]
theorem dw_none{c:UInt8}{r:Str}(h: ¬(c=32∨c=10))(ht:tokLen c r=none):dcWords (c::r)= [[]]:=by
 rw[dcWords,if_neg h];split
 · rfl
 · rename_i h';rw[ht] at h';cases h'
theorem dw_some{c:UInt8}{r:Str}{n:Nat}(h: ¬(c=32∨c=10))(ht:tokLen c r=some n):dcWords (c::r)=(c::r).take n::dcWords ((c::r).drop n):=by
 rw[dcWords,if_neg h];split
 · rename_i h';rw[ht] at h';cases h'
 · rename_i h';rw[ht] at h';cases h';rfl
theorem dw_split: ∀(k:Nat) (s:Str),s.length≤k→(∀l,splitM s=some l→dcWords s=l∧ ∀w∈l,w≠ [])∧(splitM s=none→ ∃l,dcWords s=l++ [[]])
 |k,[],_=>by
  constructor
  · intro l h
    rw[split_nil] at h
    cases h
    exact⟨dw_nil,by simp⟩
  · intro h
    rw[split_nil] at h
    cases h
 |0,c::r,hk=>by simp at hk
 |k+1,c::r,hk=>by
  simp only[List.length_cons] at hk
  by_cases hb:c=32∨c=10
  · rw[split_blank hb,dw_blank hb]
    exact dw_split k r (by omega)
  · cases ht:tokLen c r with
    |none=>
     rw[split_none hb ht,dw_none hb ht]
     exact⟨fun l h=>(by cases h),fun _=>⟨[],rfl⟩⟩
    |some n=>
     rw[split_some hb ht,dw_some hb ht]
     have hp:=tok_pos ht
     have hd:((c::r).drop n).length≤k:=by simp;omega
     obtain⟨h1,h2⟩:=dw_split k _ hd
     refine⟨fun l h=> ?_,fun h=> ?_⟩
     · obtain⟨l',hl',rfl⟩:=Option.map_eq_some_iff.1 h
       obtain⟨h3,h4⟩:=h1 l' hl'
       refine⟨by rw[h3],fun w hw=> ?_⟩
       rcases List.mem_cons.1 hw with rfl|hw
       · intro e
         have:=congrArg List.length e
         simp only[List.length_take,List.length_cons,List.length_nil] at this
         omega
       · exact h4 w hw
     · obtain⟨l,hl⟩:=h2 (Option.map_eq_none_iff.1 h)
       exact⟨(c::r).take n::l,by rw[hl];rfl⟩
def semiK:List Str→Nat
 | [] =>0
 |w::l=>if w= [59] then 0 else semiK l+1
theorem semi_app: ∀{c r:List Str},[59] ∉c→semiK (c++ [59]::r)=c.length
 | [],r,_=>by rw[List.nil_append,semiK,if_pos rfl];rfl
 |w::c,r,h=>by
  simp only[List.mem_cons,not_or] at h
  rw[List.cons_append,semiK,if_neg (fun e=>h.1 e.symm),semi_app h.2];rfl
theorem semi_is: ∀{l:List Str},semiK l<l.length→ ∃c r,l=c++ [59]::r∧ [59] ∉c∧semiK l=c.length
 | [],h=>by simp at h
 |w::l,h=>by
  rw[semiK] at h⊢
  by_cases k:w= [59]
  · rw[if_pos k,k];exact⟨[],l,rfl,by simp,rfl⟩
  · rw[if_neg k] at h⊢
    simp only[List.length_cons] at h
    obtain⟨c,r,e,h1,h2⟩:=semi_is (l:=l) (by omega)
    exact⟨w::c,r,by rw[e];rfl,by simp only[List.mem_cons,not_or];exact⟨fun e=>k e.symm,h1⟩,by rw[h2];rfl⟩
theorem semi_le: ∀l:List Str,semiK l≤l.length
 | [] =>Nat.le_refl _
 |w::l=>by rw[semiK];split<;>simp only[List.length_cons] <;>have:=semi_le l<;>omega
def dcGo:Nat→List Str→Option (List Stm)
 |0,_=>none
 |n+1,l=>if l= [] then some [] else if semiK l=l.length then none else match dcStmt (l.take (semiK l)) with
  |none=>none
  |some s=>(dcGo n (l.drop (semiK l+1))).map (s:: ·)
def dcScript(s:Str):List Stm×Int:=
 if 1500<s.length then([],2) else match dcGo ((dcWords s).length+1) (dcWords s) with
  |none=>([],1)
  |some o=>if 6<o.length then([],2) else(o,0)
theorem go_bad: ∀(n:Nat) (l:List Str),dcGo n (l++ [[]])=none
 |0,l=>rfl
 |n+1,l=>by
  rw[dcGo,if_neg (by simp)]
  split
  · rfl
  · rename_i k
    have:=semi_le (l++ [[]])
    obtain⟨c,r,e,h1,h2⟩:=semi_is (l:=l++ [[]]) (by omega)
    rw[h2]
    conv=>lhs;rw[e]
    rw[take_at.1,take_at.2]
    have: ∃r',r=r'++ [[]]:=by
     rcases app_cases (a:=l) (b:= [[]]) (x:=c) (y:= [59]::r) e with⟨z,e1,e2⟩|⟨z,e1,e2⟩
     · cases z with
       |nil=>injection e2 with e3;cases e3
       |cons u z=>injection e2 with e3 e4;exact⟨z,e4⟩
     · exfalso
       have e3:=congrArg List.length e2
       cases z with
       |nil=>injection e2 with e4;cases e4
       |cons u z=>simp at e3
    obtain⟨r',rfl⟩:=this
    rw[go_bad n r']
    cases dcStmt c<;>rfl
theorem go_one{c r:List Str}{s:Stm}(n:Nat)(hc: [59] ∉c)(h:dcStmt c=some s):dcGo (n+1) (c++ [59]::r)=(dcGo n r).map (s:: ·):=by
 rw[dcGo,if_neg (by simp),semi_app hc,if_neg (by simp),take_at.1,take_at.2,h]
theorem go_snd: ∀(n:Nat) (l:List Str) (acc:List Stm),l.length<n→TokA l→(psScriptL n acc ⟨l,false⟩).2.bad=false→ ∃o,dcGo n l=some o∧(psScriptL n acc ⟨l,false⟩).1=acc++o
 |0,l,acc,hn,_,_=>by omega
 |n+1,l,acc,hn,ht,h=>by
  unfold psScriptL at h⊢
  by_cases k:l= []
  · subst k
    refine⟨[],by rw[dcGo,if_pos rfl],?_⟩
    rw[if_pos (.inl rfl)];simp
  · have kc: ¬((⟨l,false⟩:Rd).l= [] ∨(⟨l,false⟩:Rd).bad=true):=by simp[k]
    rw[if_neg kc] at h⊢
    cases hb:(takeM (psStmt ⟨l,false⟩).2 [[59]]).bad with
    |true=>
     exfalso
     rw[scriptL_of_bad hb,hb] at h;cases h
    |false=>
     obtain⟨h1,h2⟩:=take_l hb
     obtain⟨c,e1,e2⟩:=snd_stmt ⟨l,false⟩ h2
     rw[h1] at e1
     replace e1:l=c++ [59]::(takeM (psStmt ⟨l,false⟩).2 [[59]]).l:=e1
     have tc:TokA c:=ht.sub (fun w hw=>by rw[e1];simp[hw])
     generalize hr:takeM (psStmt ⟨l,false⟩).2 [[59]] =r at*
     obtain⟨rl,rb⟩:=r
     dsimp only at hb e1
     subst hb
     have hl:=congrArg List.length e1
     simp only[List.length_append,List.length_cons] at hl
     obtain⟨o,g1,g2⟩:=go_snd n rl _ (by omega) (ht.sub (fun w hw=>by rw[e1];simp[hw])) h
     refine⟨(psStmt ⟨l,false⟩).1::o,?_,by rw[g2];simp⟩
     have e6:=go_one (r:=rl) n (st_semi e2 tc) ((dcStmt_iff tc).2 e2)
     rw[←e1] at e6
     rw[e6,g1]
     rfl
theorem go_cpl: ∀(n:Nat) (l:List Str) (acc o:List Stm),TokA l→dcGo n l=some o→psScriptL n acc ⟨l,false⟩=(acc++o,⟨[],false⟩)
 |0,l,acc,o,_,h=>by cases h
 |n+1,l,acc,o,ht,h=>by
  rw[dcGo] at h
  unfold psScriptL
  by_cases k:l= []
  · subst k
    rw[if_pos rfl] at h
    injection h with h
    rw[if_pos (.inl rfl),←h];simp
  · rw[if_neg k] at h
    have kc: ¬((⟨l,false⟩:Rd).l= [] ∨(⟨l,false⟩:Rd).bad=true):=by simp[k]
    rw[if_neg kc]
    split at h
    · cases h
    · rename_i k2
      have:=semi_le l
      obtain⟨c,r,e,h1,h2⟩:=semi_is (l:=l) (by omega)
      rw[h2] at h
      rw[e,take_at.1,take_at.2] at h
      cases e3:dcStmt c with
      |none=>rw[e3] at h;cases h
      |some s=>
       rw[e3] at h
       obtain⟨o',h3,h4⟩:=Option.map_eq_some_iff.1 h
       have tc:TokA c:=ht.sub (fun w hw=>by rw[e];simp[hw])
       have e4:=stmt_read ((dcStmt_iff tc).1 e3) r
       rw[e,e4]
       dsimp only
       have e5:takeM ⟨[59]::r,false⟩ [[59]] =⟨r,false⟩:=by unfold takeM;rw[at_one];rfl
       rw[e5,go_cpl n r _ o' (ht.sub (fun w hw=>by rw[e];simp[hw])) h3,←h4]
       simp
theorem script_same(s:Str):psScript s=dcScript s:=by
 unfold psScript dcScript
 split
 · rfl
 rename_i hs
 obtain⟨h1,h2⟩:=dw_split _ s (Nat.le_refl _)
 unfold rdOf
 cases e:splitM s with
 |none=>
  obtain⟨l,hl⟩:=h2 e
  dsimp only
  rw[hl,go_bad,scriptL_of_bad rfl,if_pos rfl]
 |some l=>
  obtain⟨h3,h4⟩:=h1 l e
  dsimp only
  rw[h3]
  have ht:TokA l:=fun w hw=>⟨(split_ok _ s (Nat.le_refl _) (by omega) l e).2 w hw,h4 w hw⟩
  cases hb:(psScriptL (l.length+1) [] ⟨l,false⟩).2.bad with
  |true=>
   rw[if_pos rfl]
   cases hg:dcGo (l.length+1) l with
   |none=>rfl
   |some o=>
    rw[go_cpl _ l [] o ht hg] at hb
    cases hb
  |false=>
   rw[if_neg Bool.false_ne_true]
   obtain⟨o,g1,g2⟩:=go_snd _ l [] (Nat.lt_succ_self _) ht hb
   rw[g1,g2]
   rfl
end Go.Proofs.YtadjbegnlimepaaGreatDoor
namespace Go.Proofs.YtadjbegnlimepaaGreatDoor
open Go.Abs
set_option maxRecDepth 100000
attribute [local irreducible] L Code.wp bodyPost Exit.then Exit.inBlock
set_option linter.unusedVariables false
set_option linter.unusedSimpArgs false
def cutR(l ats:List Str):List Str×List Str×Int:=match cutM l ats with
 |none=>(l,[],-1)
 |some p=>(l.take p.1,l.drop (p.1+1),p.2)
theorem dropC{α:Type}{l:List α}{i:Nat}{x:α}(h:l[i]?=some x):l.drop i=x::l.drop (i+1):=by
 obtain⟨h1,h2⟩:=List.getElem?_eq_some_iff.1 h
 rw[List.drop_eq_getElem_cons h1,h2]
theorem find_of{α:Type}{p:α→Bool}{l:List α}{k:Nat}(h:idxM p l=(k:Int)):l.findIdx p=k:=by
 obtain⟨x,h1,h2,h3⟩:=idx_lt h
 have hk:=ltN h1
 refine List.findIdx_eq hk|>.2 ⟨?_,fun j hj=> ?_⟩
 · rw[(List.getElem?_eq_some_iff.1 h1).2];exact h2
 · exact h3 _ (List.mem_take_iff_getElem.2 ⟨j,by omega,rfl⟩)
set_option maxHeartbeats 4000000 in
theorem cut_any(l ats:List Str)(hl:l.length≤1000000)(ha:ats.length≤1000000):
 CallA Tryz.prog 40 [.iv (.sl (l.map Str.c)),.iv (.sl (ats.map Str.c))] [] [] [] (.tup [.iv (.sl ((cutR l ats).1.map Str.c)),.iv (.sl ((cutR l ats).2.1.map Str.c)),aI (cutR l ats).2.2]):=by
 refine CallA.intro _ Tryz.func40 rfl Tryz.ntmps40 rfl (fun w0 E0=> ?_)
 (repeat' (first|refine wk1 ?_|refine wk2 (fun hb hp=> ?_) (fun hb hp=> ?_)|fail))
 refine L.loopP (ι:=Nat×Int) (fun i=>⟨[(14,aI (i.1:Int)),(13,aI ((l.map Str.c).length:Int)),(12,.iv (.sl (l.map Str.c))),(7,aI i.2),(0,.iv (.sl (l.map Str.c))),(1,.iv (.sl (ats.map Str.c)))],[],[]⟩) (fun i=>l.length - i.1) (fun i=>cutM l ats=cutGo ats (l.drop i.1) i.1 i.2∧ -(i.1:Int)≤i.2∧i.2≤i.1) (i0:=(0,0)) ?_ ⟨rfl,by simp,by simp⟩ ?_
 · exact wkk
 rintro ⟨i,d⟩ ⟨hI,hd1,hd2⟩ K hK
 dsimp only at hI hd1 hd2 hK⊢
 cases hx:l[i]? with
 |none=>
  have hlt:=ltF (l:=l.map Str.c) (getFN hx)
  rw[List.drop_eq_nil_of_le (List.getElem?_eq_none_iff.1 hx)] at hI
  have e:cutR l ats=(l,[],-1):=by unfold cutR;rw[hI];rfl
  rw[e]
  (repeat' (first|refine wk1 ?_|refine wk2 (fun hb hp=> ?_) (fun hb hp=> ?_)|fail))
  all_goals refine wkf ?_
  all_goals rfl
 |some w=>
  have hlt:=ltT (l:=l.map Str.c) (getF (f:=Str.c) hx)
  have hlt':=ltN hx
  have g1:(l.map Str.c)[((i:Nat):Int).toNat]?=some [S w]:=by rw[Int.toNat_natCast,List.getElem?_map,hx];rfl
  rw[dropC hx,cutGo] at hI
  (repeat' (first|refine wk1 ?_|refine wk2 (fun hb hp=> ?_) (fun hb hp=> ?_)|fail))
  refine L.loopP (ι:=Nat) (fun k=>⟨[(21,aI (k:Int)),(20,aI ((ats.map Str.c).length:Int)),(19,.iv (.sl (ats.map Str.c))),(14,aI (i:Int)),(13,aI ((l.map Str.c).length:Int)),(12,.iv (.sl (l.map Str.c))),(7,aI d),(0,.iv (.sl (l.map Str.c))),(1,.iv (.sl (ats.map Str.c))),(8,aI (i:Int)),(9,aS w)],[],[]⟩) (fun k=>ats.length - k) (fun k=>d=0→ ∀y∈ats.take k,(y==w)=false) (i0:=0) ?_ (by simp) ?_
  · exact wkk
  clear hlt g1
  intro k hk K2 hK2
  cases hy:ats[k]? with
  |none=>
   have hlt:=ltF (l:=ats.map Str.c) (getFN hy)
   have hn: ¬(d=0∧w∈ats):=by
    rintro ⟨h1,h2⟩
    have:=take_full (hk h1) hy w h2
    simp at this
   rw[if_neg hn] at hI
   by_cases w1:w= [40]
   · have dp:depW d w=d+1:=by unfold depW;rw[if_pos w1]
     subst w1
     (repeat' (first|refine wk1 ?_|refine wk2 (fun hb hp=> ?_) (fun hb hp=> ?_)|fail))
     refine hK _ (i+1,d+1) ⟨by dsimp only;rw[hI,dp],by dsimp only;omega,by dsimp only;omega⟩ (by dsimp only;omega) ?_
     exact wkk
   · have q1:(w== [40])=false:=by simpa using w1
     by_cases w2:w= [41]
     · have dp:depW d w=d - 1:=by unfold depW;rw[if_neg w1,if_pos w2]
       subst w2
       (repeat' (first|refine wk1 ?_|refine wk2 (fun hb hp=> ?_) (fun hb hp=> ?_)|fail))
       refine hK _ (i+1,d - 1) ⟨by dsimp only;rw[hI,dp],by dsimp only;omega,by dsimp only;omega⟩ (by dsimp only;omega) ?_
       exact wkk
     · have q2:(w== [41])=false:=by simpa using w2
       have dp:depW d w=d:=by unfold depW;rw[if_neg w1,if_neg w2]
       (repeat' (first|refine wk1 ?_|refine wk2 (fun hb hp=> ?_) (fun hb hp=> ?_)|fail))
       refine hK _ (i+1,d) ⟨by dsimp only;rw[hI,dp],by dsimp only;omega,by dsimp only;omega⟩ (by dsimp only;omega) ?_
       exact wkk
  |some y=>
   have hlt:=ltT (l:=ats.map Str.c) (getF (f:=Str.c) hy)
   have hlt2:=ltN hy
   have g1:(ats.map Str.c)[((k:Nat):Int).toNat]?=some [S y]:=by rw[Int.toNat_natCast,List.getElem?_map,hy];rfl
   have nx:(d=0→(y==w)=false)→d=0→ ∀z∈ats.take (k+1),(z==w)=false:=fun h h0=>take_snoc (p:=fun z=>z==w) (hk h0) hy (h h0)
   by_cases d0:d=0
   · have q0:(d==0)=true:=by simpa using d0
     by_cases e:w=y
     · have q1:(w==y)=true:=by simpa using e
       have hm:w∈ats:=by rw[e];exact List.mem_of_getElem? hy
       have hf:ats.findIdx (fun x=>x==w)=k:=by
        have:=idx_at (p:=fun z:Str=>z==w) (hk d0) hy (by simpa using e.symm)
        exact find_of this
       have hc:cutR l ats=(l.take i,l.drop (i+1),(k:Int)):=by
        unfold cutR
        rw[hI,if_pos ⟨d0,hm⟩]
        dsimp only
        rw[hf]
       rw[hc]
       have b1:(i:Int)≤((l.map Str.c).length:Int):=by rw[List.length_map];omega
       have b2:(i:Int)+1≤((l.map Str.c).length:Int):=by rw[List.length_map];omega
       (repeat' (first|(refine LW.is ?_;first|(apply s_vr;exact rfl;apply v_sliceVl;exact rfl;exact rfl;exact lenS1 _;omega;exact b2;exact rfl)|(apply s_vr;exact rfl;apply v_sliceVh;exact rfl;exact rfl;exact lenS1 _;omega;exact b1;exact rfl))|(refine DR.is ?_;first|(apply d_vr;exact rfl;apply v_sliceVl;exact rfl;exact rfl;exact lenS1 _;omega;exact b2;exact rfl)|(apply d_vr;exact rfl;apply v_sliceVh;exact rfl;exact rfl;exact lenS1 _;omega;exact b1;exact rfl))|refine wk1 ?_|refine wk2 (fun hb hp=> ?_) (fun hb hp=> ?_)|fail))
       all_goals refine wkf ?_
       all_goals rw[show((i:Int)+1).toNat=i+1 by omega,Int.toNat_natCast,←List.map_take,←List.map_drop]
     · have q1:(w==y)=false:=by simpa using e
       (repeat' (first|refine wk1 ?_|refine wk2 (fun hb hp=> ?_) (fun hb hp=> ?_)|fail))
       refine hK2 _ (k+1) (nx (fun _=>by simpa using fun h=>e h.symm)) (by omega) ?_
       exact wkk
   · have q0:(d==0)=false:=by simpa using d0
     (repeat' (first|refine wk1 ?_|refine wk2 (fun hb hp=> ?_) (fun hb hp=> ?_)|fail))
     refine hK2 _ (k+1) (nx (fun h=>absurd h d0)) (by omega) ?_
     exact wkk
theorem take_mem{α:Type}{l:List α}{k:Nat}{y:α}(h:l[k]?=some y)(w:α):w∈l.take (k+1)↔w∈l.take k∨w=y:=by
 rw[List.take_add_one,h,List.mem_append]
 simp
set_option maxHeartbeats 4000000 in
theorem last_any(l ats:List Str)(hl:l.length≤1000000)(ha:ats.length≤1000000):
 CallA Tryz.prog 66 [.iv (.sl (l.map Str.c)),.iv (.sl (ats.map Str.c))] [] [] [] (aI (lastW l ats)):=by
 refine CallA.intro _ Tryz.func66 rfl Tryz.ntmps66 rfl (fun w0 E0=> ?_)
 (repeat' (first|refine wk1 ?_|refine wk2 (fun hb hp=> ?_) (fun hb hp=> ?_)|fail))
 refine L.loopP (ι:=Nat×Int×Int) (fun i=>⟨[(13,aI (i.1:Int)),(12,aI ((l.map Str.c).length:Int)),(11,.iv (.sl (l.map Str.c))),(5,aI i.2.1),(6,aI i.2.2),(0,.iv (.sl (l.map Str.c))),(1,.iv (.sl (ats.map Str.c)))],[],[]⟩) (fun i=>l.length - i.1) (fun i=>lastW l ats=lastGo ats (l.drop i.1) i.1 i.2.1 i.2.2∧ -(i.1:Int)≤i.2.1∧i.2.1≤i.1) (i0:=(0,0,-1)) ?_ ⟨rfl,by simp,by simp⟩ ?_
 · exact wkk
 rintro ⟨i,d,p⟩ ⟨hI,hd1,hd2⟩ K hK
 dsimp only at hI hd1 hd2 hK⊢
 cases hx:l[i]? with
 |none=>
  have hlt:=ltF (l:=l.map Str.c) (getFN hx)
  rw[List.drop_eq_nil_of_le (List.getElem?_eq_none_iff.1 hx),lastGo] at hI
  rw[hI]
  (repeat' (first|refine wk1 ?_|refine wk2 (fun hb hp=> ?_) (fun hb hp=> ?_)|fail))
  all_goals refine wkf ?_
  all_goals rfl
 |some w=>
  have hlt:=ltT (l:=l.map Str.c) (getF (f:=Str.c) hx)
  have hlt':=ltN hx
  have g1:(l.map Str.c)[((i:Nat):Int).toNat]?=some [S w]:=by rw[Int.toNat_natCast,List.getElem?_map,hx];rfl
  rw[dropC hx,lastGo] at hI
  (repeat' (first|refine wk1 ?_|refine wk2 (fun hb hp=> ?_) (fun hb hp=> ?_)|fail))
  refine L.loopP (ι:=Nat×Int) (fun k=>⟨[(20,aI (k.1:Int)),(19,aI ((ats.map Str.c).length:Int)),(18,.iv (.sl (ats.map Str.c))),(13,aI (i:Int)),(12,aI ((l.map Str.c).length:Int)),(11,.iv (.sl (l.map Str.c))),(5,aI d),(6,aI k.2),(0,.iv (.sl (l.map Str.c))),(1,.iv (.sl (ats.map Str.c))),(7,aI (i:Int)),(8,aS w)],[],[]⟩) (fun k=>ats.length - k.1) (fun k=>k.2=if d=0∧w∈ats.take k.1 then(i:Int) else p) (i0:=(0,p)) ?_ (by simp) ?_
  · exact wkk
  clear hlt g1
  rintro ⟨k,q⟩ hk K2 hK2
  dsimp only at hk hK2⊢
  cases hy:ats[k]? with
  |none=>
   have hlt:=ltF (l:=ats.map Str.c) (getFN hy)
   rw[List.take_of_length_le (List.getElem?_eq_none_iff.1 hy)] at hk
   rw[←hk] at hI
   by_cases w1:w= [40]
   · have dp:depW d w=d+1:=by unfold depW;rw[if_pos w1]
     subst w1
     (repeat' (first|refine wk1 ?_|refine wk2 (fun hb hp=> ?_) (fun hb hp=> ?_)|fail))
     refine hK _ (i+1,d+1,q) ⟨by dsimp only;rw[hI,dp];rfl,by dsimp only;omega,by dsimp only;omega⟩ (by dsimp only;omega) ?_
     exact wkk
   · have q1:(w== [40])=false:=by simpa using w1
     by_cases w2:w= [41]
     · have dp:depW d w=d - 1:=by unfold depW;rw[if_neg w1,if_pos w2]
       subst w2
       (repeat' (first|refine wk1 ?_|refine wk2 (fun hb hp=> ?_) (fun hb hp=> ?_)|fail))
       refine hK _ (i+1,d - 1,q) ⟨by dsimp only;rw[hI,dp];rfl,by dsimp only;omega,by dsimp only;omega⟩ (by dsimp only;omega) ?_
       exact wkk
     · have q2:(w== [41])=false:=by simpa using w2
       have dp:depW d w=d:=by unfold depW;rw[if_neg w1,if_neg w2]
       (repeat' (first|refine wk1 ?_|refine wk2 (fun hb hp=> ?_) (fun hb hp=> ?_)|fail))
       refine hK _ (i+1,d,q) ⟨by dsimp only;rw[hI,dp];rfl,by dsimp only;omega,by dsimp only;omega⟩ (by dsimp only;omega) ?_
       exact wkk
  |some y=>
   have hlt:=ltT (l:=ats.map Str.c) (getF (f:=Str.c) hy)
   have hlt2:=ltN hy
   have g1:(ats.map Str.c)[((k:Nat):Int).toNat]?=some [S y]:=by rw[Int.toNat_natCast,List.getElem?_map,hy];rfl
   by_cases d0:d=0
   · have q0:(d==0)=true:=by simpa using d0
     by_cases e:w=y
     · have q1:(w==y)=true:=by simpa using e
       (repeat' (first|refine wk1 ?_|refine wk2 (fun hb hp=> ?_) (fun hb hp=> ?_)|fail))
       refine hK2 _ (k+1,(i:Int)) (by dsimp only;rw[if_pos ⟨d0,(take_mem hy w).2 (.inr e)⟩]) (by dsimp only;omega) ?_
       exact wkk
     · have q1:(w==y)=false:=by simpa using e
       (repeat' (first|refine wk1 ?_|refine wk2 (fun hb hp=> ?_) (fun hb hp=> ?_)|fail))
       refine hK2 _ (k+1,q) (by dsimp only;rw[hk];congr 1;rw[take_mem hy w];simp[e]) (by dsimp only;omega) ?_
       exact wkk
   · have q0:(d==0)=false:=by simpa using d0
     (repeat' (first|refine wk1 ?_|refine wk2 (fun hb hp=> ?_) (fun hb hp=> ?_)|fail))
     refine hK2 _ (k+1,q) (by dsimp only;rw[hk,if_neg (fun h=>d0 h.1),if_neg (fun h=>d0 h.1)]) (by dsimp only;omega) ?_
     exact wkk
end Go.Proofs.YtadjbegnlimepaaGreatDoor
namespace Go.Proofs.YtadjbegnlimepaaGreatDoor
open Go.Abs
set_option maxRecDepth 100000
attribute [local irreducible] L Code.wp bodyPost Exit.then Exit.inBlock
set_option linter.unusedVariables false
set_option linter.unusedSimpArgs false
def Ws.c(l:List Str):List IV:= [.sl (l.map Str.c)]
theorem lenW(ls:List (List Str)): ∀e∈ls.map Ws.c,e.length=1:=fun e he=>by
 obtain⟨x,_,rfl⟩:=List.mem_map.1 he;rfl
set_option maxHeartbeats 4000000 in
theorem parts_any(l:List Str)(hl:l.length≤1000000):
 CallA Tryz.prog 43 [.iv (.sl (l.map Str.c))] [] [] [] (.iv (.sl ((partsM l).map Ws.c))):=by
 refine CallA.intro _ Tryz.func43 rfl Tryz.ntmps43 rfl (fun w0 E0=> ?_)
 (repeat' (first|refine wk1 ?_|refine wk2 (fun hb hp=> ?_) (fun hb hp=> ?_)|fail))
 refine L.adopt 3 (s:=3) (t:=32) (k:=1) rfl rfl rfl ?_
 refine L.loopP (ι:=List (List Str)×List Str) (fun i=>⟨[(3,.row 3 (i.1.map Ws.c)),(0,.iv (.sl (i.2.map Str.c)))],[],[(3,⟨32,1⟩)]⟩) (fun i=>i.2.length) (fun i=>partsM l=i.1++partsM i.2∧i.1.length+i.2.length≤l.length) (i0:=([],l)) ?_ ⟨rfl,by simp⟩ ?_
 · exact wkk
 rintro ⟨o,c⟩ ⟨hI,hn⟩ K hK
 dsimp only at hI hn hK⊢
 have hcl:c.length≤1000000:=by omega
 have kc:=cut_any c [[44]] hcl (by simp)
 have bm:(o.map Ws.c).length+1≤maxLen:=by rw[List.length_map];simp only[maxLen];omega
 have bb:((o.map Ws.c).length+1)*24≤140737488355328:=by rw[List.length_map];omega
 cases e:cutM c [[44]] with
 |none=>
  have er:cutR c [[44]] =(c,[],-1):=by unfold cutR;rw[e]
  rw[er] at kc
  rw[parts_none e] at hI
  (repeat' (first|(refine LW.is ?_;first|(apply s_append;exact rfl;exact rfl;exact rfl;exact rfl;exact lenW _;(exact len_cons rfl len_nil);exact bm;exact bb;exact rfl;exact rfl))|(refine DR.is ?_;first|(apply d_append;exact rfl;exact rfl;exact rfl;exact rfl;exact lenW _;(exact len_cons rfl len_nil);exact bm;exact bb;exact rfl;exact rfl))|refine wk1 ?_|refine wk2 (fun hb hp=> ?_) (fun hb hp=> ?_)|fail))
  all_goals refine wkf ?_
  all_goals(rw[hI,List.map_append];rfl)
 |some p=>
  have er:cutR c [[44]] =(c.take p.1,c.drop (p.1+1),(p.2:Int)):=by unfold cutR;rw[e]
  have q:decide ((p.2:Int)<0)=false:=decide_eq_false (by omega)
  have hp:=cut_len e
  rw[er] at kc
  rw[parts_some e] at hI
  (repeat' (first|(refine LW.is ?_;first|(apply s_append;exact rfl;exact rfl;exact rfl;exact rfl;exact lenW _;(exact len_cons rfl len_nil);exact bm;exact bb;exact rfl;exact rfl))|(refine DR.is ?_;first|(apply d_append;exact rfl;exact rfl;exact rfl;exact rfl;exact lenW _;(exact len_cons rfl len_nil);exact bm;exact bb;exact rfl;exact rfl))|refine wk1 ?_|refine wk2 (fun hb hp=> ?_) (fun hb hp=> ?_)|fail))
  refine L.only [3,0] ?_
  refine L.retok 3 17 3 rfl rfl rfl rfl ?_
  refine hK _ (o++ [c.take p.1],c.drop (p.1+1)) ⟨by dsimp only;rw[hI,List.append_assoc];rfl,by dsimp only;rw[List.length_append,List.length_drop];simp only[List.length_cons,List.length_nil];omega⟩ (by dsimp only;rw[List.length_drop];omega) (Wk.mk' (by intro id h;cases h) (.cons rfl (Sub.of_eq (congrArg (AV.row 3) (by rw[List.map_append];rfl))) (.cons rfl (Sub.refl _) .nil)) .nil (.cons rfl .nil))
def insR(l:List Str):List Str×Bool:=
 if 2≤l.length∧l.headD [] = [40] ∧l.getD (l.length - 1) [] = [41] then((l.drop 1).take (l.length - 2),(cutM ((l.drop 1).take (l.length - 2)) [[41]]).isNone) else([],false)
theorem insR_eq(l:List Str):insM l=if(insR l).2=true then some (insR l).1 else none:=by
 unfold insM insR
 by_cases h:2≤l.length∧l.headD [] = [40] ∧l.getD (l.length - 1) [] = [41]
 · rw[if_pos h]
   cases e:cutM ((l.drop 1).take (l.length - 2)) [[41]] with
   |none=>rw[if_pos ⟨h.1,h.2.1,h.2.2,rfl⟩];rfl
   |some p=>rw[if_neg (fun k=>by cases k.2.2.2)];rfl
 · rw[if_neg h,if_neg (fun k=>h ⟨k.1,k.2.1,k.2.2.1⟩)];rfl
theorem get0{l:List Str}(h:0<l.length):l[0]?=some (l.headD []):=by
 cases l with
 |nil=>simp at h
 |cons=>rfl
theorem getE{l:List Str}{i:Nat}(h:i<l.length):l[i]?=some (l.getD i []):=by
 rw[List.getD_eq_getElem?_getD,List.getElem?_eq_getElem h];rfl
theorem at_nat{l:List Str}{i:Nat}{n:Int}{w:Str}(h:l[i]?=some w)(hn:n=(i:Int)):(l.map Str.c)[n.toNat]?=some [S w]:=by
 rw[hn,Int.toNat_natCast,List.getElem?_map,h];rfl
set_option maxHeartbeats 4000000 in
theorem inside_any(l:List Str)(hl:l.length≤1000000):
 CallA Tryz.prog 42 [.iv (.sl (l.map Str.c))] [] [] [] (.tup [.iv (.sl ((insR l).1.map Str.c)),aB (insR l).2]):=by
 refine CallA.intro _ Tryz.func42 rfl Tryz.ntmps42 rfl (fun w0 E0=> ?_)
 have em:(l.map Str.c).length=l.length:=List.length_map _
 by_cases h1:l.length<2
 · have q1:decide (((l.map Str.c).length:Int)<2)=true:=decide_eq_true (by rw[em];omega)
   have e:insR l=([],false):=by unfold insR;rw[if_neg (fun k=>by omega)]
   rw[e]
   (repeat' (first|refine wk1 ?_|refine wk2 (fun hb hp=> ?_) (fun hb hp=> ?_)|fail))
   all_goals refine wkf ?_
   all_goals rfl
 have q1:decide (((l.map Str.c).length:Int)<2)=false:=decide_eq_false (by rw[em];omega)
 have g1:(l.map Str.c)[(0:Int).toNat]?=some [S (l.headD [])]:=at_nat (get0 (by omega)) rfl
 have g2:(l.map Str.c)[((((l.map Str.c).length:Nat):Int) - 1).toNat]?=some [S (l.getD (l.length - 1) [])]:=at_nat (getE (by omega)) (by rw[em];omega)
 by_cases h2:l.headD [] = [40]
 · by_cases h3:l.getD (l.length - 1) [] = [41]
   · generalize hd:(l.drop 1).take (l.length - 2)=d
     have e:insR l=(d,(cutM d [[41]]).isNone):=by unfold insR;rw[if_pos ⟨by omega,h2,h3⟩,hd]
     have kc:=cut_any d [[41]] (by rw[←hd,List.length_take];omega) (by simp)
     have hsl:((l.map Str.c).take (((l.map Str.c).length:Int) - 1).toNat).drop (1:Int).toNat=d.map Str.c:=by
      rw[em,show((l.length:Int) - 1).toNat=l.length - 1 by omega,←List.map_take,←List.map_drop,←hd]
      congr 1
      rw[List.drop_take]
      rfl
     rw[e]
     rw[h2] at g1
     rw[h3] at g2
     cases hc:cutM d [[41]] with
     |none=>
      have er:cutR d [[41]] =(d,[],-1):=by unfold cutR;rw[hc]
      rw[er] at kc
      (repeat' (first|(refine LW.is ?_;first|(apply s_vr;exact rfl;apply v_sliceVlh;exact rfl;exact rfl;exact rfl;exact lenS1 _;decide;omega;omega;exact hsl))|(refine DR.is ?_;first|(apply d_vr;exact rfl;apply v_sliceVlh;exact rfl;exact rfl;exact rfl;exact lenS1 _;decide;omega;omega;exact hsl))|refine wk1 ?_|refine wk2 (fun hb hp=> ?_) (fun hb hp=> ?_)|fail))
      all_goals refine wkf ?_
      all_goals rfl
     |some p=>
      have er:cutR d [[41]] =(d.take p.1,d.drop (p.1+1),(p.2:Int)):=by unfold cutR;rw[hc]
      rw[er] at kc
      have q:decide ((p.2:Int)<0)=false:=decide_eq_false (by omega)
      (repeat' (first|(refine LW.is ?_;first|(apply s_vr;exact rfl;apply v_sliceVlh;exact rfl;exact rfl;exact rfl;exact lenS1 _;decide;omega;omega;exact hsl))|(refine DR.is ?_;first|(apply d_vr;exact rfl;apply v_sliceVlh;exact rfl;exact rfl;exact rfl;exact lenS1 _;decide;omega;omega;exact hsl))|refine wk1 ?_|refine wk2 (fun hb hp=> ?_) (fun hb hp=> ?_)|fail))
      all_goals refine wkf ?_
      all_goals(show AV.tup [_,.iv (.im (.bool (decide ((p.2:Int)<0))))] =_;rw[q];rfl)
   · have e:insR l=([],false):=by unfold insR;rw[if_neg (fun k=>h3 k.2.2)]
     have q3:(l.getD (l.length - 1) [] != [41])=true:=by simpa using h3
     rw[e]
     rw[h2] at g1
     (repeat' (first|refine wk1 ?_|refine wk2 (fun hb hp=> ?_) (fun hb hp=> ?_)|fail))
     all_goals refine wkf ?_
     all_goals rfl
 · have e:insR l=([],false):=by unfold insR;rw[if_neg (fun k=>h2 k.2.1)]
   have q2:(l.headD [] != [40])=true:=by simpa using h2
   rw[e]
   (repeat' (first|refine wk1 ?_|refine wk2 (fun hb hp=> ?_) (fun hb hp=> ?_)|fail))
   all_goals refine wkf ?_
   all_goals rfl
end Go.Proofs.YtadjbegnlimepaaGreatDoor
namespace Go.Abs
theorem u8_wrap(a b:UInt8):IntKind.u8.wrap ((a.toNat:Int) - (b.toNat:Int))=((a - b).toNat:Int):=by
 have h1:=a.toNat_lt
 have h2:=b.toNat_lt
 have h3:=(a - b).toNat_lt
 rw[UInt8.toNat_sub]
 simp only[IntKind.wrap,IntKind.bits,IntKind.signed]
 simp
 omega
theorem Yields.subU{P:Program}{c:Ctx}{st:St}{o:Oper}{x y:Operand}{t t':TypeId}{a b:UInt8}(ho:o.op= .binOp .sub t x y t')(hx:st.ev x= .iv (.im (.int .u8 (a.toNat:Int))))(hy:st.ev y= .iv (.im (.int .u8 (b.toNat:Int)))):
 Yields P c st o (.iv (.im (.int .u8 ((a - b).toNat:Int)))):=
 .im rfl fun E s w hi=>by
   have:=u8_wrap a b
   simp[execOp,ho,hi.im hx,hi.im hy,eqGuard,binOp,Op.intArith,this]
theorem v_subU{P:Program}{c:Ctx}{fr:List (Nat×AV)}{bx:List (Nat×Box)}{tk:List (Nat×Tok)}{d:Nat}{ty:TypeId}{pos:String}{aft:Array Edge}{x y:Operand}{t t':TypeId}(a b:UInt8)(hx:St.ev ⟨fr,bx,tk⟩ x= .iv (.im (.int .u8 (a.toNat:Int))))(hy:St.ev ⟨fr,bx,tk⟩ y= .iv (.im (.int .u8 (b.toNat:Int)))):
 VV P c ⟨fr,bx,tk⟩ ⟨some d,.binOp .sub t x y t',ty,pos,aft,none⟩ (.iv (.im (.int .u8 ((a - b).toNat:Int)))) []:=
 .mk fun st' kE kL=> .subU rfl ((kE x (by simp[Op.operands,Call.operands])).trans hx) ((kE y (by simp[Op.operands,Call.operands])).trans hy)
end Go.Abs
namespace Go.Proofs.YtadjbegnlimepaaGreatDoor
open Go.Abs
set_option maxRecDepth 100000
open Go.Shelf
attribute [local irreducible] L Code.wp bodyPost Exit.then Exit.inBlock
set_option linter.unusedVariables false
set_option linter.unusedSimpArgs false
theorem ten7:(10:Nat)^ 7=10000000:=by decide
def dgS:Str:= [48,49,50,51,52,53,54,55,56,57]
theorem trimD_any{gs:Globs}(s:Str)(hs:s.length≤9223372036854775807):
 CallG gs Tryz.prog 16 [aS s,aS dgS] [] [] [] (aS (Lib.trimS s dgS)):=by
 refine CallG.below (v:= .string ⟨(Lib.trimS s dgS).toArray⟩) rfl ?_
 intro E w us hr hG
 rw[hr.im2]
 exact Any.strings_Trim_laid Tryz.lays160 (by kernel_rfl) ⟨s.toArray⟩ ⟨dgS.toArray⟩ w hs (by decide) (ascii_of_all (by decide))
theorem dg_dig(x:UInt8):dgS.contains x=digC x:=by
 simp only[dgS,digC,List.contains_cons,List.contains_nil,Bool.or_false]
 rw[Bool.eq_iff_iff]
 simp only[Bool.or_eq_true,beq_iff_eq,Bool.and_eq_true,decide_eq_true_eq,←UInt8.toNat_inj]
 simp
 omega
theorem trim_dig(s:List UInt8):(Lib.trimS s dgS== [])=s.all digC:=by
 have e:(fun x=>dgS.contains x)=digC:=funext dg_dig
 unfold Lib.trimS Lib.trimLeftS Lib.trimRightS
 rw[e,dropWhile_nil,List.all_reverse]
 cases h:s.all digC with
 |true=>exact all_dropWhile _ (by rw[List.all_reverse];exact h)
 |false=>
  cases h2:(s.reverse.dropWhile digC).all digC with
  |false=>rfl
  |true=>have:=dropWhile_head _ h2;rw[List.all_reverse,h] at this;cases this
set_option maxHeartbeats 8000000 in
theorem dcNum_any{gs:Globs}(s:Str):CallG gs Tryz.prog 44 [aS s] [] [] [] (.tup [aI (numR s).1,aB (numR s).2]):=by
 refine CallG.intro _ Tryz.func44 rfl Tryz.ntmps44 rfl (fun w0 E0 hG=> ?_)
 have no:(s= [] ∨7<s.length∨s.all digC=false∨(s.headD 0=48∧s≠ [48]))→numR s=(0,false):=fun h=>by unfold numR;rw[if_pos h]
 cases s with
 |nil=>
  rw[no (.inl rfl)]
  (repeat' (first|refine wk1 ?_|refine wk2 (fun hb hp=> ?_) (fun hb hp=> ?_)|fail))
  all_goals refine wkf ?_
  all_goals rfl
 |cons c r=>
 have q1:(c::r==([]:List UInt8))=false:=rfl
 by_cases h7:7<(c::r).length
 · have q2:decide (((c::r).length:Int)>7)=true:=decide_eq_true (by omega)
   rw[no (.inr (.inl h7))]
   (repeat' (first|refine wk1 ?_|refine wk2 (fun hb hp=> ?_) (fun hb hp=> ?_)|fail))
   all_goals refine wkf ?_
   all_goals rfl
 have q2:decide (((c::r).length:Int)>7)=false:=decide_eq_false (by omega)
 have kt:=trimD_any (gs:=gs) (c::r) (by omega)
 have ha:=trim_dig (c::r)
 cases hd:(c::r).all digC with
 |false=>
  rw[hd] at ha
  have q3:(!(Lib.trimS (c::r) dgS== []))=true:=by rw[ha];rfl
  rw[no (.inr (.inr (.inl hd)))]
  (repeat' (first|refine wk1 ?_|refine wk2 (fun hb hp=> ?_) (fun hb hp=> ?_)|fail))
  all_goals refine wkf ?_
  all_goals rfl
 |true=>
 rw[hd] at ha
 have q3:(!(Lib.trimS (c::r) dgS== []))=false:=by rw[ha];rfl
 have g0:(c::r)[0]?=some c:=rfl
 by_cases h8:c=48∧c::r≠ [48]
 · have q4:((c.toNat:Int)==48)=true:=by rw[h8.1];rfl
   have q5:(!(c::r== [48]))=true:=by rw[show(c::r== [48])=false from beq_eq_false_iff_ne.2 h8.2];rfl
   rw[no (.inr (.inr (.inr h8)))]
   (repeat' (first|refine wk1 ?_|refine wk2 (fun hb hp=> ?_) (fun hb hp=> ?_)|fail))
   all_goals refine wkf ?_
   all_goals rfl
 have en:numR (c::r)=((valG 0 (c::r):Int),decide ((valG 0 (c::r):Int)≤1000000)):=by
  unfold numR
  rw[if_neg]
  rintro (h|h|h|h)
  · cases h
  · exact h7 h
  · rw[hd] at h;cases h
  · exact h8 h
 rw[en]
 have hdg: ∀b∈c::r,48≤b.toNat∧b.toNat≤57:=fun b hb=>dig_iff.1 (List.all_eq_true.1 hd b hb)
 have hlt7:(c::r).length≤7:=by omega
 have hcn:c::r≠ [48] →((c.toNat:Int)==48)=false:=fun h=>by
  rw[beq_eq_false_iff_ne];intro e
  exact h8 ⟨UInt8.toNat_inj.1 (by show c.toNat=48;omega),h⟩
 have hor:((c.toNat:Int)==48)=false∨(((c.toNat:Int)==48)=true∧(!(c::r== [48]))=false):=by
  by_cases h:c::r= [48]
  · refine .inr ⟨?_,by rw[h];rfl⟩
    injection h with h1 h2
    rw[h1];rfl
  · exact .inl (hcn h)
 have bl:(c::r).length≤9223372036854775807:=by omega
 clear hcn no h8 ha hd
 rcases hor with q4|⟨q4,q5⟩
 all_goals(
  (repeat' (first|refine wk1 ?_|refine wk2 (fun hb hp=> ?_) (fun hb hp=> ?_)|fail))
  refine L.loopP (ι:=Nat×Nat) (fun i=>⟨[(31,aI (i.1:Int)),(30,aI (((c::r).map cB).length:Int)),(29,.iv (.sl ((c::r).map cB))),(4,aI (i.2:Int))],[],[]⟩) (fun i=>(c::r).length - i.1) (fun i=>valG 0 (c::r)=valG i.2 ((c::r).drop i.1)∧i.2<10 ^ i.1) (i0:=(0,0)) ?_ ⟨rfl,by decide⟩ ?_
  · exact wkk
  clear kt q3 g0 q1 q2 q4 hG
  generalize hs:c::r=s at*
  rintro ⟨i,n⟩ ⟨hI,hn⟩ K hK
  dsimp only at hI hn hK⊢
  cases hx:s[i]? with
  |none=>
   have hlt:=ltF (l:=s.map cB) (getFN hx)
   rw[List.drop_eq_nil_of_le (List.getElem?_eq_none_iff.1 hx),show valG n [] =n from rfl] at hI
   rw[hI]
   (repeat' (first|refine wk1 ?_|refine wk2 (fun hb hp=> ?_) (fun hb hp=> ?_)|fail))
   all_goals refine wkf ?_
   all_goals rfl
  |some b=>
   have hlt:=ltT (l:=s.map cB) (getF (f:=cB) hx)
   have hlt':=ltN hx
   have g1:(s.map cB)[((i:Nat):Int).toNat]?=some [IV.im (.int .u8 (b.toNat:Int))]:=by rw[Int.toNat_natCast,List.getElem?_map,hx];rfl
   obtain⟨b1,b2⟩:=hdg b (List.mem_of_getElem? hx)
   have hp:10 ^(i+1)≤10 ^ 7:=Nat.pow_le_pow_right (by decide) (by omega)
   have hp2:10 ^(i+1)=10*10 ^ i:=by rw[Nat.pow_succ,Nat.mul_comm]
   have hp3:=ten7
   rw[dropC hx,show valG n (b::s.drop (i+1))=valG (10*n+(b.toNat - 48)) (s.drop (i+1)) from rfl] at hI
   have hn2:10*n+(b.toNat - 48)<10 ^(i+1):=by omega
   have eb:((b - 48:UInt8).toNat:Int)=((b.toNat - 48:Nat):Int):=by
    have h3:=(b - 48).toNat_lt
    rw[UInt8.toNat_sub]
    show(((2 ^ 8 - 48+b.toNat) % 2 ^ 8:Nat):Int)=_
    omega
   have ec:10*(n:Int)+((b - 48:UInt8).toNat:Int)=((10*n+(b.toNat - 48):Nat):Int):=by rw[eb];omega
   have eb2:((b - 48:UInt8).toNat:Int)≤9:=by rw[eb];omega
   have eb3:0≤((b - 48:UInt8).toNat:Int):=by omega
   have nb:(n:Int)<10000000:=by omega
   clear hn hp hp2 hp3 eb b1 b2
   (repeat' (first|(apply s_vr;exact rfl;apply v_subU b 48;exact rfl;exact rfl)|(apply d_vr;exact rfl;apply v_subU b 48;exact rfl;exact rfl)|refine wk1 ?_|refine wk2 (fun hb hp=> ?_) (fun hb hp=> ?_)|fail))
   refine hK _ (i+1,10*n+(b.toNat - 48)) ⟨hI,hn2⟩ (by dsimp only;omega) (Wk.mk' (by intro id h;cases h) (.cons rfl (Sub.refl _) (.cons rfl (Sub.refl _) (.cons rfl (Sub.refl _) (.cons rfl (Sub.of_eq (congrArg aI ec)) .nil)))) .nil .nil))
end Go.Proofs.YtadjbegnlimepaaGreatDoor
