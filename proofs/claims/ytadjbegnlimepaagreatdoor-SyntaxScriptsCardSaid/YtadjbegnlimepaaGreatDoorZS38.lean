/- Several texts in one, each with its own sentence ahead of it. Conditions: each one says its own. -/
import Derived.Test.YtadjbegnlimepaaGreatDoorZS21
import Derived.Test.YtadjbegnlimepaaGreatDoorZS24
import Derived.Test.YtadjbegnlimepaaGreatDoorZS37
set_option linter.all false
namespace Go.Proofs.YtadjbegnlimepaaGreatDoor
open Go.Abs
set_option maxRecDepth 100000
attribute [local irreducible] L Code.wp bodyPost Exit.then Exit.inBlock
set_option linter.unusedVariables false
set_option linter.unusedSimpArgs false
set_option maxHeartbeats 4000000 in
theorem dcLit_any{gs:Globs}(v:Val)(ok:Bool)(hv:v.s.length≤140737488355328):
 CallG gs Tryz.prog 121 [.agg (v.c.map .iv),aB ok] [] [] [] (.tup [.agg ((litR v ok).1.cs.map .iv),aB (litR v ok).2]):=by
 have kv:=isval_any v hv
 refine CallG.intro _ Tryz.func121 rfl Tryz.ntmps121 rfl (fun w0 E0 hG=> ?_)
 cases ok with
 |false=>
  (repeat' (first|refine wk1 ?_|refine wk2 (fun hb hp=> ?_) (fun hb hp=> ?_)|fail))
  all_goals refine wkf ?_
  all_goals rfl
 |true=>
  (repeat' (first|refine wk1 ?_|refine wk2 (fun hb hp=> ?_) (fun hb hp=> ?_)|fail))
  all_goals refine wkf ?_
  all_goals rfl
theorem tup_ex2(op:Int)(x y:Ex)(p q b:Bool)(hb:b=(p && q)):AV.tup [.agg [aI op,aI 0,aI 0,aS [],aS [],aS [],aI 0,.iv (.sl [x.cs,y.cs])],aB b] = .tup [.agg ((twoR op (x,p) (y,q)).1.cs.map .iv),aB (twoR op (x,p) (y,q)).2]:=by
 subst hb
 have:IV.sl [x.cs,y.cs] = .sl ([x,y].map Ex.c):=by rw[List.map_cons,List.map_cons,Ex.c_cs,Ex.c_cs];rfl
 rw[this];rfl
set_option maxHeartbeats 4000000 in
theorem two_any{gs:Globs}{f g:FuncId}[CallTy Tryz.prog f][CallTy Tryz.prog g](op:Int)(l:List Str)(i k:Nat)(a b:Ex×Bool)(hi:i<l.length)(hl:l.length≤1000000)
 (hf:CallG gs Tryz.prog f [.iv (.sl ((l.take i).map Str.c)),aI (k:Int)] [] [] [] (.tup [.agg (a.1.cs.map .iv),aB a.2]))
 (hg:CallG gs Tryz.prog g [.iv (.sl ((l.drop (i+1)).map Str.c)),aI (k:Int)] [] [] [] (.tup [.agg (b.1.cs.map .iv),aB b.2])):
 CallG gs Tryz.prog 65 [aI op,aI (i:Int),.fn f [],.fn g [],.ptr 1000 0,.ptr 1001 0]
  [(1000,⟨32,.l [.iv (.sl (l.map Str.c))]⟩),(1001,⟨3,.l [aI (k:Int)]⟩)] [(1000,⟨32,.l [.iv (.sl (l.map Str.c))]⟩),(1001,⟨3,.l [aI (k:Int)]⟩)] []
  (.tup [.agg ((twoR op a b).1.cs.map .iv),aB (twoR op a b).2]):=by
 have em:(l.map Str.c).length=l.length:=List.length_map _
 have b1:(i:Int)≤((l.map Str.c).length:Int):=by rw[em];omega
 have b2:(i:Int)+1≤((l.map Str.c).length:Int):=by rw[em];omega
 have h1:(l.map Str.c).take (i:Int).toNat=(l.take i).map Str.c:=by rw[Int.toNat_natCast,List.map_take]
 have h2:(l.map Str.c).drop ((i:Int)+1).toNat=(l.drop (i+1)).map Str.c:=by rw[show((i:Int)+1).toNat=i+1 by omega,List.map_drop]
 obtain⟨x,p⟩:=a
 obtain⟨y,q⟩:=b
 dsimp only at hf hg
 refine CallG.intro _ Tryz.func65 rfl Tryz.ntmps65 rfl (fun w0 E0 hG=> ?_)
 cases p<;>(
  (repeat' (first|(refine LW.is ?_;first|(apply s_vr;exact rfl;apply v_sliceVl;exact rfl;exact rfl;exact lenS1 _;omega;exact b2;exact h2)|(apply s_vr;exact rfl;apply v_sliceVh;exact rfl;exact rfl;exact lenS1 _;omega;exact b1;exact h1)|(apply s_callFnK (f:=f) (avs:= [.iv (.sl ((l.take i).map Str.c)),aI (k:Int)]) (caps:= []);exact rfl;exact hG;exact rfl;exact hf;exact rfl;exact .nil;exact rfl;exact rfl;exact rfl)|(apply s_callFnK (f:=g) (avs:= [.iv (.sl ((l.drop (i+1)).map Str.c)),aI (k:Int)]) (caps:= []);exact rfl;exact hG;exact rfl;exact hg;exact rfl;exact .nil;exact rfl;exact rfl;exact rfl))|(refine DR.is ?_;first|(apply d_vr;exact rfl;apply v_sliceVl;exact rfl;exact rfl;exact lenS1 _;omega;exact b2;exact h2)|(apply d_vr;exact rfl;apply v_sliceVh;exact rfl;exact rfl;exact lenS1 _;omega;exact b1;exact h1)|(apply d_callFnK (f:=f) (avs:= [.iv (.sl ((l.take i).map Str.c)),aI (k:Int)]) (caps:= []);exact rfl;exact hG;exact rfl;exact hf;exact rfl;exact .nil;exact rfl;exact rfl;exact rfl)|(apply d_callFnK (f:=g) (avs:= [.iv (.sl ((l.drop (i+1)).map Str.c)),aI (k:Int)]) (caps:= []);exact rfl;exact hG;exact rfl;exact hg;exact rfl;exact .nil;exact rfl;exact rfl;exact rfl))|refine wk1 ?_|refine wk2 (fun hb hp=> ?_) (fun hb hp=> ?_)|fail))
  all_goals(apply L.endQAI;exact rfl;exact rfl;exact Wk.mk' (by intro id h;simp[keys] at h;rcases h with rfl|rfl<;>rfl) .nil (.cons rfl rfl (Subs.refl _) (.cons rfl rfl (Subs.refl _) .nil)) .nil;exact tup_ex2 _ _ _ _ _ _ (by first|rfl|simp)))
end Go.Proofs.YtadjbegnlimepaaGreatDoor
namespace Go.Proofs.YtadjbegnlimepaaGreatDoor
open Go.Abs
set_option maxRecDepth 100000
attribute [local irreducible] L Code.wp bodyPost Exit.then Exit.inBlock
set_option linter.unusedVariables false
set_option linter.unusedSimpArgs false
def RC(gs:Globs)(f:FuncId)(r:List Str→Nat→Ex×Bool)(l:List Str)(k:Nat):Prop:=
 CallG gs Tryz.prog f [.iv (.sl (l.map Str.c)),aI (k:Int)] [] [] [] (.tup [.agg ((r l k).1.cs.map .iv),aB (r l k).2])
theorem last_at_nat{l ats:List Str}(h:0≤lastW l ats): ∃i:Nat,lastW l ats=(i:Int)∧(lastW l ats).toNat=i∧i<l.length:=⟨(lastW l ats).toNat,by omega,rfl,last_lt h⟩
set_option maxHeartbeats 4000000 in
theorem dcO_any{gs:Globs}{l:List Str}{k:Nat}(hl:l.length≤1000000)(h1: ∀i,i<l.length→RC gs 41 refO (l.take i) k)(h2: ∀i,i<l.length→RC gs 67 refA (l.drop (i+1)) k)
 (h3:RC gs 67 refA l k):RC gs 41 refO l k:=by
 have kl:=last_any l [wOR] hl (by simp)
 unfold RC at*
 refine CallG.intro _ Tryz.func41 rfl Tryz.ntmps41 rfl (fun w0 E0 hG=> ?_)
 by_cases h:0≤lastW l [wOR]
 · obtain⟨i,e1,e2,hi⟩:=last_at_nat h
   have er:refO l k=twoR 8 (refO (l.take i) k) (refA (l.drop (i+1)) k):=by rw[refO,dif_pos h,e2]
   have kt:=(two_any (f:=41) (g:=67) 8 l i k _ _ hi hl (h1 i hi) (h2 i hi)).sws [(1000,2),(1001,3)] (args2:= [aI 8,aI (i:Int),.fn 41 [],.fn 67 [],.ptr 2 0,.ptr 3 0])
    (bx2:= [(2,⟨32,.l [.iv (.sl (l.map Str.c))]⟩),(3,⟨3,.l [aI (k:Int)]⟩)]) (bx2':= [(2,⟨32,.l [.iv (.sl (l.map Str.c))]⟩),(3,⟨3,.l [aI (k:Int)]⟩)]) (tk2':= [])
    (res2:= .tup [.agg ((twoR 8 (refO (l.take i) k) (refA (l.drop (i+1)) k)).1.cs.map .iv),aB (twoR 8 (refO (l.take i) k) (refA (l.drop (i+1)) k)).2]) rfl rfl rfl rfl rfl
   rw[er]
   rw[e1] at kl
   have q:decide (0≤(i:Int))=true:=decide_eq_true (by omega)
   generalize twoR 8 (refO (l.take i) k) (refA (l.drop (i+1)) k)=res at*
   obtain⟨x,p⟩:=res
   clear h1 h2 h3
   dsimp only at kt⊢
   (repeat' (first|(refine LW.is ?_;first|(apply s_callFnK (f:=65) (avs:= [aI 8,aI (i:Int),.fn 41 [],.fn 67 []]) (caps:= [.ptr 2 0,.ptr 3 0]);exact rfl;exact hG;exact rfl;exact kt;exact rfl;exact(.cons rfl (.cons rfl .nil));exact rfl;exact rfl;exact rfl))|(refine DR.is ?_;first|(apply d_callFnK (f:=65) (avs:= [aI 8,aI (i:Int),.fn 41 [],.fn 67 []]) (caps:= [.ptr 2 0,.ptr 3 0]);exact rfl;exact hG;exact rfl;exact kt;exact rfl;exact(.cons rfl (.cons rfl .nil));exact rfl;exact rfl;exact rfl))|refine wk1 ?_|refine wk2 (fun hb hp=> ?_) (fun hb hp=> ?_)|fail))
   all_goals refine wkf ?_
   all_goals rfl
 · have er:refO l k=refA l k:=by rw[refO,dif_neg h]
   have q:decide (0≤lastW l [wOR])=false:=decide_eq_false h
   rw[er]
   generalize refA l k=res at*
   obtain⟨x,p⟩:=res
   dsimp only at h3⊢
   (repeat' (first|refine wk1 ?_|refine wk2 (fun hb hp=> ?_) (fun hb hp=> ?_)|fail))
   all_goals refine wkf ?_
   all_goals rfl
set_option maxHeartbeats 4000000 in
theorem dcA_any{gs:Globs}{l:List Str}{k:Nat}(hl:l.length≤1000000)(h1: ∀i,i<l.length→RC gs 67 refA (l.take i) k)(h2: ∀i,i<l.length→RC gs 82 refT (l.drop (i+1)) k)
 (h3:RC gs 82 refT l k):RC gs 67 refA l k:=by
 have kl:=last_any l [wAND] hl (by simp)
 have em:(l.map Str.c).length=l.length:=List.length_map _
 unfold RC at*
 refine CallG.intro _ Tryz.func67 rfl Tryz.ntmps67 rfl (fun w0 E0 hG=> ?_)
 by_cases h:0≤lastW l [wAND]
 · obtain⟨i,e1,e2,hi⟩:=last_at_nat h
   have er:refA l k=twoR 7 (refA (l.take i) k) (refT (l.drop (i+1)) k):=by rw[refA,dif_pos h,e2]
   rw[er]
   rw[e1] at kl
   have q:decide (0≤(i:Int))=true:=decide_eq_true (by omega)
   have k1:=h1 i hi
   have k2:=h2 i hi
   have b1:(i:Int)≤((l.map Str.c).length:Int):=by rw[em];omega
   have b2:(i:Int)+1≤((l.map Str.c).length:Int):=by rw[em];omega
   have s1:(l.map Str.c).take (i:Int).toNat=(l.take i).map Str.c:=by rw[Int.toNat_natCast,List.map_take]
   have s2:(l.map Str.c).drop ((i:Int)+1).toNat=(l.drop (i+1)).map Str.c:=by rw[show((i:Int)+1).toNat=i+1 by omega,List.map_drop]
   generalize refA (l.take i) k=ra at*
   generalize refT (l.drop (i+1)) k=rb at*
   obtain⟨x,p⟩:=ra
   obtain⟨y,p2⟩:=rb
   clear h1 h2 h3
   dsimp only at k1 k2
   cases p<;>(
    (repeat' (first|(refine LW.is ?_;first|(apply s_vr;exact rfl;apply v_sliceVl;exact rfl;exact rfl;exact lenS1 _;omega;exact b2;exact s2)|(apply s_vr;exact rfl;apply v_sliceVh;exact rfl;exact rfl;exact lenS1 _;omega;exact b1;exact s1))|(refine DR.is ?_;first|(apply d_vr;exact rfl;apply v_sliceVl;exact rfl;exact rfl;exact lenS1 _;omega;exact b2;exact s2)|(apply d_vr;exact rfl;apply v_sliceVh;exact rfl;exact rfl;exact lenS1 _;omega;exact b1;exact s1))|refine wk1 ?_|refine wk2 (fun hb hp=> ?_) (fun hb hp=> ?_)|fail))
    all_goals refine wkf ?_
    all_goals exact tup_ex2 _ _ _ _ _ _ (by first|rfl|simp))
 · have er:refA l k=refT l k:=by rw[refA,dif_neg h]
   have q:decide (0≤lastW l [wAND])=false:=decide_eq_false h
   rw[er]
   generalize refT l k=res at*
   obtain⟨x,p⟩:=res
   dsimp only at h3⊢
   (repeat' (first|refine wk1 ?_|refine wk2 (fun hb hp=> ?_) (fun hb hp=> ?_)|fail))
   all_goals refine wkf ?_
   all_goals rfl
end Go.Proofs.YtadjbegnlimepaaGreatDoor
namespace Go.Proofs.YtadjbegnlimepaaGreatDoor
open Go.Abs
set_option maxRecDepth 100000
attribute [local irreducible] L Code.wp bodyPost Exit.then Exit.inBlock
set_option linter.unusedVariables false
set_option linter.unusedSimpArgs false
theorem tup_ex1(op:Int)(x:Ex)(b:Bool):AV.tup [.agg [aI op,aI 0,aI 0,aS [],aS [],aS [],aI 0,.iv (.sl [x.cs])],aB b] = .tup [.agg ((ex1 op x).cs.map .iv),aB b]:=by
 have:IV.sl [x.cs] = .sl ([x].map Ex.c):=by rw[List.map_cons,Ex.c_cs];rfl
 rw[this];rfl
theorem beqF{α:Type}[BEq α][LawfulBEq α]{a b:α}(h:a≠b):(a==b)=false:=beq_eq_false_iff_ne.2 h
theorem isNull_no{l:List Str}(h: ¬isNull l):decide (2<((l.map Str.c).length:Int))=false∨(decide (2<((l.map Str.c).length:Int))=true∧2<l.length∧(l.getD (l.length - 2) [] == [105,115])=false)∨
 (decide (2<((l.map Str.c).length:Int))=true∧2<l.length∧l.getD (l.length - 2) [] = [105,115] ∧(l.getD (l.length - 1) [] == [110,117,108,108])=false):=by
 rw[List.length_map]
 by_cases h1:2<l.length
 · by_cases h2:l.getD (l.length - 2) [] =wIS
   · exact .inr (.inr ⟨decide_eq_true (by omega),h1,h2,beqF (fun h3=>h ⟨h1,h2,h3⟩)⟩)
   · exact .inr (.inl ⟨decide_eq_true (by omega),h1,beqF h2⟩)
 · exact .inl (decide_eq_false (by omega))
set_option maxHeartbeats 8000000 in
theorem dcT_any{gs:Globs}{l:List Str}{k:Nat}(hl:l.length≤1000000)(hk:k≤1000)(h1:l≠ [] →0<k→RC gs 82 refT (l.drop 1) (k - 1))
 (h2:isNull l→RC gs 100 refS (l.take (l.length - 2)) k) (h3: ∀i,i<l.length→RC gs 100 refS (l.take i) k∧RC gs 100 refS (l.drop (i+1)) k)
 (h4:RC gs 100 refS l k):RC gs 82 refT l k:=by
 have kl:=last_any l [wOR,wAND] hl (by simp)
 have kc:=cut_any l [[61],[60]] hl (by simp)
 have em:(l.map Str.c).length=l.length:=List.length_map _
 unfold RC at*
 refine CallG.intro _ Tryz.func82 rfl Tryz.ntmps82 rfl (fun w0 E0 hG=> ?_)
 have no:(k=0∨l= [] ∨0≤lastW l [wOR,wAND])→refT l k=(nilE,false):=fun h=>by rw[refT,dif_pos h]
 by_cases k0:k=0
 · have q0:((k:Int)==0)=true:=by rw[k0];rfl
   rw[no (.inl k0)]
   (repeat' (first|refine wk1 ?_|refine wk2 (fun hb hp=> ?_) (fun hb hp=> ?_)|fail))
   all_goals refine wkf ?_
   all_goals rfl
 have q0:((k:Int)==0)=false:=beqF (by omega)
 by_cases l0:l= []
 · have q1:(((l.map Str.c).length:Int)==0)=true:=by rw[l0];rfl
   rw[no (.inr (.inl l0))]
   (repeat' (first|refine wk1 ?_|refine wk2 (fun hb hp=> ?_) (fun hb hp=> ?_)|fail))
   all_goals refine wkf ?_
   all_goals rfl
 have hlp:=List.length_pos_iff.2 l0
 have q1:(((l.map Str.c).length:Int)==0)=false:=beqF (by rw[em];omega)
 by_cases hw:0≤lastW l [wOR,wAND]
 · have q2:decide (0≤lastW l [wOR,wAND])=true:=decide_eq_true hw
   rw[no (.inr (.inr hw))]
   (repeat' (first|refine wk1 ?_|refine wk2 (fun hb hp=> ?_) (fun hb hp=> ?_)|fail))
   all_goals refine wkf ?_
   all_goals rfl
 have q2:decide (0≤lastW l [wOR,wAND])=false:=decide_eq_false hw
 have hno: ¬(k=0∨l= [] ∨0≤lastW l [wOR,wAND]):=fun h=>by rcases h with h|h|h<;>contradiction
 have g0:(l.map Str.c)[(0:Int).toNat]?=some [S (l.headD [])]:=at_nat (get0 hlp) rfl
 clear no
 by_cases h9:l.headD [] =wNOT
 · have er:refT l k=(ex1 9 (refT (l.drop 1) (k - 1)).1,(refT (l.drop 1) (k - 1)).2):=by rw[refT,dif_neg hno,if_pos h9]
   rw[er]
   have k1:=h1 l0 (by omega)
   rw[show((k - 1:Nat):Int)=(k:Int) - 1 by omega] at k1
   have b1:(1:Int)≤((l.map Str.c).length:Int):=by rw[em];omega
   have s1:(l.map Str.c).drop (1:Int).toNat=(l.drop 1).map Str.c:=by rw[List.map_drop];rfl
   rw[h9] at g0
   generalize refT (l.drop 1) (k - 1)=r at*
   obtain⟨x,p⟩:=r
   clear h1 h2 h3 h4
   dsimp only at k1
   (repeat' (first|(refine LW.is ?_;first|(apply s_vr;exact rfl;apply v_sliceVl;exact rfl;exact rfl;exact lenS1 _;decide;exact b1;exact s1))|(refine DR.is ?_;first|(apply d_vr;exact rfl;apply v_sliceVl;exact rfl;exact rfl;exact lenS1 _;decide;exact b1;exact s1))|refine wk1 ?_|refine wk2 (fun hb hp=> ?_) (fun hb hp=> ?_)|fail))
   all_goals refine wkf ?_
   all_goals exact tup_ex1 _ _ _
 have q3:(l.headD [] == [110,111,116])=false:=beqF h9
 by_cases hN:isNull l
 · have er:refT l k=(ex1 10 (refS (l.take (l.length - 2)) k).1,(refS (l.take (l.length - 2)) k).2):=by rw[refT,dif_neg hno,if_neg h9,dif_pos hN]
   rw[er]
   have k1:=h2 hN
   obtain⟨n1,n2,n3⟩:=hN
   have q4:decide (2<((l.map Str.c).length:Int))=true:=decide_eq_true (by rw[em];omega)
   have g1:(l.map Str.c)[((((l.map Str.c).length:Nat):Int) - 2).toNat]?=some [S [105,115]]:=at_nat (i:=l.length - 2) (by rw[getE (by omega),n2];rfl) (by rw[em];omega)
   have g2:(l.map Str.c)[((((l.map Str.c).length:Nat):Int) - 1).toNat]?=some [S [110,117,108,108]]:=at_nat (i:=l.length - 1) (by rw[getE (by omega),n3];rfl) (by rw[em];omega)
   have s1:(l.map Str.c).take (((l.map Str.c).length:Int) - 2).toNat=(l.take (l.length - 2)).map Str.c:=by rw[em,show((l.length:Int) - 2).toNat=l.length - 2 by omega,List.map_take]
   generalize refS (l.take (l.length - 2)) k=r at*
   obtain⟨x,p⟩:=r
   clear h1 h2 h3 h4
   dsimp only at k1
   (repeat' (first|(refine LW.is ?_;first|(apply s_vr;exact rfl;apply v_sliceVh;exact rfl;exact rfl;exact lenS1 _;omega;omega;exact s1))|(refine DR.is ?_;first|(apply d_vr;exact rfl;apply v_sliceVh;exact rfl;exact rfl;exact lenS1 _;omega;omega;exact s1))|refine wk1 ?_|refine wk2 (fun hb hp=> ?_) (fun hb hp=> ?_)|fail))
   all_goals refine wkf ?_
   all_goals exact tup_ex1 _ _ _
 have gg:2<l.length→(l.map Str.c)[((((l.map Str.c).length:Nat):Int) - 2).toNat]?=some [S (l.getD (l.length - 2) [])] ∧(l.map Str.c)[((((l.map Str.c).length:Nat):Int) - 1).toNat]?=some [S (l.getD (l.length - 1) [])]:=fun h=>
  ⟨at_nat (getE (by omega)) (by rw[em];omega),at_nat (getE (by omega)) (by rw[em];omega)⟩
 cases hc:cutM l [[61],[60]] with
 |none=>
  have hcn: ¬(cutM l [[61],[60]]).isSome=true:=by rw[hc];simp
  have er:refT l k=refS l k:=by rw[refT,dif_neg hno,if_neg h9,dif_neg hN,dif_neg hcn]
  have ec:cutR l [[61],[60]] =(l,[],-1):=by unfold cutR;rw[hc]
  rw[ec] at kc
  rw[er]
  generalize refS l k=r at*
  obtain⟨x,p⟩:=r
  clear h1 h2 h3
  dsimp only at h4
  rcases isNull_no hN with q4|⟨q4,n1,q5⟩|⟨q4,n1,n2,q6⟩
  · (repeat' (first|refine wk1 ?_|refine wk2 (fun hb hp=> ?_) (fun hb hp=> ?_)|fail))
    all_goals refine wkf ?_
    all_goals rfl
  · obtain⟨g1,g2⟩:=gg n1
    (repeat' (first|refine wk1 ?_|refine wk2 (fun hb hp=> ?_) (fun hb hp=> ?_)|fail))
    all_goals refine wkf ?_
    all_goals rfl
  · obtain⟨g1,g2⟩:=gg n1
    rw[n2] at g1
    (repeat' (first|refine wk1 ?_|refine wk2 (fun hb hp=> ?_) (fun hb hp=> ?_)|fail))
    all_goals refine wkf ?_
    all_goals rfl
 |some p=>
  have hcs:(cutM l [[61],[60]]).isSome=true:=by rw[hc];rfl
  have er:refT l k=twoR (5+(p.2:Int)) (refS (l.take p.1) k) (refS (l.drop (p.1+1)) k):=by
   rw[refT,dif_neg hno,if_neg h9,dif_neg hN,dif_pos hcs]
   simp only[hc,Option.get_some]
  have ec:cutR l [[61],[60]] =(l.take p.1,l.drop (p.1+1),(p.2:Int)):=by unfold cutR;rw[hc]
  have hp:=cut_len hc
  have hp2:p.2≤2:=by
   obtain⟨a,w,b,_,_,e2⟩:=cut_is hc
   rw[e2];exact List.findIdx_le_length
  obtain⟨k1,k2⟩:=h3 _ hp
  have q7:decide ((p.2:Int)<0)=false:=decide_eq_false (by omega)
  rw[ec] at kc
  rw[er]
  generalize refS (l.take p.1) k=ra at*
  generalize refS (l.drop (p.1+1)) k=rb at*
  obtain⟨x,b1⟩:=ra
  obtain⟨y,b2⟩:=rb
  clear h1 h2 h3 h4
  dsimp only at k1 k2
  have fin: ∀b,b=(b1 && b2)→AV.tup [.agg [aI (5+(p.2:Int)),aI 0,aI 0,aS [],aS [],aS [],aI 0,.iv (.sl [x.cs,y.cs])],aB b] = .tup [.agg ((twoR (5+(p.2:Int)) (x,b1) (y,b2)).1.cs.map .iv),aB (twoR (5+(p.2:Int)) (x,b1) (y,b2)).2]:=fun b hb=>tup_ex2 _ _ _ _ _ _ hb
  rcases isNull_no hN with q4|⟨q4,n1,q5⟩|⟨q4,n1,n2,q6⟩
  · cases b1<;>(
     (repeat' (first|refine wk1 ?_|refine wk2 (fun hb hp=> ?_) (fun hb hp=> ?_)|fail))
     all_goals refine wkf ?_
     all_goals exact fin _ (by first|rfl|simp))
  · obtain⟨g1,g2⟩:=gg n1
    cases b1<;>(
     (repeat' (first|refine wk1 ?_|refine wk2 (fun hb hp=> ?_) (fun hb hp=> ?_)|fail))
     all_goals refine wkf ?_
     all_goals exact fin _ (by first|rfl|simp))
  · obtain⟨g1,g2⟩:=gg n1
    rw[n2] at g1
    cases b1<;>(
     (repeat' (first|refine wk1 ?_|refine wk2 (fun hb hp=> ?_) (fun hb hp=> ?_)|fail))
     all_goals refine wkf ?_
     all_goals exact fin _ (by first|rfl|simp))
end Go.Proofs.YtadjbegnlimepaaGreatDoor
namespace Go.Proofs.YtadjbegnlimepaaGreatDoor
open Go.Abs
set_option maxRecDepth 100000
attribute [local irreducible] L Code.wp bodyPost Exit.then Exit.inBlock
set_option linter.unusedVariables false
set_option linter.unusedSimpArgs false
theorem lastD_take{l:List Str}{i:Nat}{w:Str}(h:l[i]?=some w):(l.take (i+1)).getLastD [] =w:=by
 rw[List.take_add_one,h];simp
theorem lastD_at{l:List Str}{i:Nat}(h:0<i)(hi:i≤l.length):l[i - 1]?=some ((l.take i).getLastD []):=by
 obtain⟨j,rfl⟩: ∃j,i=j+1:=⟨i - 1,by omega⟩
 obtain⟨w,hw⟩: ∃w,l[j]?=some w:=⟨_,List.getElem?_eq_getElem (by omega)⟩
 rw[lastD_take hw];exact hw
set_option maxHeartbeats 8000000 in
theorem dcS_any{gs:Globs}{l:List Str}{k:Nat}(hl:l.length≤1000000)(h1: ∀i,i<l.length→RC gs 100 refS (l.take i) k∧RC gs 111 refN (l.drop (i+1)) k)
 (h2:RC gs 111 refN l k):RC gs 100 refS l k:=by
 have em:(l.map Str.c).length=l.length:=List.length_map _
 unfold RC at*
 refine CallG.intro _ Tryz.func100 rfl Tryz.ntmps100 rfl (fun w0 E0 hG=> ?_)
 (repeat' (first|refine wk1 ?_|refine wk2 (fun hb hp=> ?_) (fun hb hp=> ?_)|fail))
 refine L.loopP (ι:=Nat×Int×Int) (fun i=>⟨[(18,aI (i.1:Int)),(17,aI ((l.map Str.c).length:Int)),(16,.iv (.sl (l.map Str.c))),(6,aI i.2.1),(7,aI i.2.2),(0,.iv (.sl (l.map Str.c))),(1,aI (k:Int)),(4,.ptr 4 0)],[(4,zeroE)],[]⟩) (fun i=>l.length - i.1)
  (fun i=>sumAt l=sumGo (l.drop i.1) i.1 i.2.1 i.2.2 ((l.take i.1).getLastD [])∧ -(i.1:Int)≤i.2.1∧i.2.1≤i.1) (i0:=(0,0,-1)) ?_ ⟨rfl,by simp,by simp⟩ ?_
 · exact wkk
 rintro ⟨i,d,p⟩ ⟨hI,hd1,hd2⟩ K hK
 dsimp only at hI hd1 hd2 hK⊢
 cases hx:l[i]? with
 |none=>
  have hlt:=ltF (l:=l.map Str.c) (getFN hx)
  rw[List.drop_eq_nil_of_le (List.getElem?_eq_none_iff.1 hx),sumGo] at hI
  clear hK hd1 hd2
  by_cases h:0≤sumAt l
  · obtain⟨j,e1⟩: ∃j:Nat,sumAt l=(j:Int):=⟨(sumAt l).toNat,by omega⟩
    have hj:j<l.length:=by have:=sum_lt h;rw[e1] at this;simpa using this
    have er:refS l k=twoR (if l.getD j [] = [45] then 4 else 3) (refS (l.take j) k) (refN (l.drop (j+1)) k):=by rw[refS,dif_pos h,e1];rfl
    have q1:decide (p<0)=false:=decide_eq_false (by omega)
    have ep:p=(j:Int):=by omega
    subst ep
    rw[er]
    obtain⟨k1,k2⟩:=h1 j hj
    have g1:(l.map Str.c)[((j:Nat):Int).toNat]?=some [S (l.getD j [])]:=at_nat (getE hj) rfl
    have b1:(j:Int)≤((l.map Str.c).length:Int):=by rw[em];omega
    have b2:(j:Int)+1≤((l.map Str.c).length:Int):=by rw[em];omega
    have s1:(l.map Str.c).take (j:Int).toNat=(l.take j).map Str.c:=by rw[Int.toNat_natCast,List.map_take]
    have s2:(l.map Str.c).drop ((j:Int)+1).toNat=(l.drop (j+1)).map Str.c:=by rw[show((j:Int)+1).toNat=j+1 by omega,List.map_drop]
    generalize refS (l.take j) k=ra at*
    generalize refN (l.drop (j+1)) k=rb at*
    obtain⟨x,c1⟩:=ra
    obtain⟨y,c2⟩:=rb
    clear h1 h2
    dsimp only at k1 k2
    by_cases hm:l.getD j [] = [45]
    · rw[if_pos hm]
      rw[hm] at g1
      cases c1<;>(
       (repeat' (first|(refine LW.is ?_;first|(apply s_vr;exact rfl;apply v_sliceVl;exact rfl;exact rfl;exact lenS1 _;omega;exact b2;exact s2)|(apply s_vr;exact rfl;apply v_sliceVh;exact rfl;exact rfl;exact lenS1 _;omega;exact b1;exact s1))|(refine DR.is ?_;first|(apply d_vr;exact rfl;apply v_sliceVl;exact rfl;exact rfl;exact lenS1 _;omega;exact b2;exact s2)|(apply d_vr;exact rfl;apply v_sliceVh;exact rfl;exact rfl;exact lenS1 _;omega;exact b1;exact s1))|refine wk1 ?_|refine wk2 (fun hb hp=> ?_) (fun hb hp=> ?_)|fail))
       all_goals refine wkf ?_
       all_goals exact tup_ex2 _ _ _ _ _ _ (by first|rfl|simp))
    · rw[if_neg hm]
      have q3:(l.getD j [] == [45])=false:=beqF hm
      cases c1<;>(
       (repeat' (first|(refine LW.is ?_;first|(apply s_vr;exact rfl;apply v_sliceVl;exact rfl;exact rfl;exact lenS1 _;omega;exact b2;exact s2)|(apply s_vr;exact rfl;apply v_sliceVh;exact rfl;exact rfl;exact lenS1 _;omega;exact b1;exact s1))|(refine DR.is ?_;first|(apply d_vr;exact rfl;apply v_sliceVl;exact rfl;exact rfl;exact lenS1 _;omega;exact b2;exact s2)|(apply d_vr;exact rfl;apply v_sliceVh;exact rfl;exact rfl;exact lenS1 _;omega;exact b1;exact s1))|refine wk1 ?_|refine wk2 (fun hb hp=> ?_) (fun hb hp=> ?_)|fail))
       all_goals refine wkf ?_
       all_goals exact tup_ex2 _ _ _ _ _ _ (by first|rfl|simp))
  · have er:refS l k=refN l k:=by rw[refS,dif_neg h]
    have q1:decide (p<0)=true:=decide_eq_true (by omega)
    rw[er]
    generalize refN l k=r at*
    obtain⟨x,c⟩:=r
    dsimp only at h2
    (repeat' (first|refine wk1 ?_|refine wk2 (fun hb hp=> ?_) (fun hb hp=> ?_)|fail))
    all_goals refine wkf ?_
    all_goals rfl
 |some w=>
  have hlt:=ltT (l:=l.map Str.c) (getF (f:=Str.c) hx)
  have hlt':=ltN hx
  have g1:(l.map Str.c)[((i:Nat):Int).toNat]?=some [S w]:=by rw[Int.toNat_natCast,List.getElem?_map,hx];rfl
  have gv:0<i→(l.map Str.c)[((i:Int) - 1).toNat]?=some [S ((l.take i).getLastD [])]:=fun h=>at_nat (lastD_at h (by omega)) (by omega)
  rw[dropC hx,sumGo] at hI
  have nx: ∀d' p',depW d w=d'→(if(w= [43] ∨w= [45])∧d=0∧0<(i:Int)∧(l.take i).getLastD [] ≠ [43] ∧(l.take i).getLastD [] ≠ [45] then(i:Int) else p)=p'→sumAt l=sumGo (l.drop (i+1)) ((i+1:Nat):Int) d' p' ((l.take (i+1)).getLastD []):=fun d' p' e1 e2=>by
   rw[hI,e1,e2,lastD_take hx];rfl
  generalize hv:(l.take i).getLastD [] =v at*
  clear hI h1 h2
  by_cases w1:w= [40]
  · have e1:depW d w=d+1:=by unfold depW;rw[if_pos w1]
    have:=nx _ _ e1 (if_neg (fun h=>by rw[w1] at h;rcases h.1 with h|h<;>cases h))
    subst w1
    (repeat' (first|refine wk1 ?_|refine wk2 (fun hb hp=> ?_) (fun hb hp=> ?_)|fail))
    refine hK _ (i+1,d+1,p) ⟨this,by dsimp only;omega,by dsimp only;omega⟩ (by dsimp only;omega) ?_
    exact wkk
  have q1:(w== [40])=false:=beqF w1
  by_cases w2:w= [41]
  · have e1:depW d w=d - 1:=by unfold depW;rw[if_neg w1,if_pos w2]
    have:=nx _ _ e1 (if_neg (fun h=>by rw[w2] at h;rcases h.1 with h|h<;>cases h))
    subst w2
    (repeat' (first|refine wk1 ?_|refine wk2 (fun hb hp=> ?_) (fun hb hp=> ?_)|fail))
    refine hK _ (i+1,d - 1,p) ⟨this,by dsimp only;omega,by dsimp only;omega⟩ (by dsimp only;omega) ?_
    exact wkk
  have q2:(w== [41])=false:=beqF w2
  have e1:depW d w=d:=by unfold depW;rw[if_neg w1,if_neg w2]
  by_cases w3:w= [43] ∨w= [45]
  · by_cases hi0:0<i
    · have gv:=gv hi0
      have q3:decide (0<(i:Int))=true:=decide_eq_true (by omega)
      by_cases v1:v= [43]
      · have:=nx _ _ e1 (if_neg (fun h=>h.2.2.2.1 v1))
        rw[v1] at gv
        rcases w3 with rfl|rfl
        · cases d0:d==0<;>(
           (repeat' (first|refine wk1 ?_|refine wk2 (fun hb hp=> ?_) (fun hb hp=> ?_)|fail))
           refine hK _ (i+1,d,p) ⟨this,by dsimp only;omega,by dsimp only;omega⟩ (by dsimp only;omega) ?_
           exact wkk)
        · cases d0:d==0<;>(
           (repeat' (first|refine wk1 ?_|refine wk2 (fun hb hp=> ?_) (fun hb hp=> ?_)|fail))
           refine hK _ (i+1,d,p) ⟨this,by dsimp only;omega,by dsimp only;omega⟩ (by dsimp only;omega) ?_
           exact wkk)
      have q4:(!(v== [43]))=true:=by rw[beqF v1];rfl
      by_cases v2:v= [45]
      · have:=nx _ _ e1 (if_neg (fun h=>h.2.2.2.2 v2))
        have q5:(!(v== [45]))=false:=by rw[v2];rfl
        rcases w3 with rfl|rfl
        · cases d0:d==0<;>(
           (repeat' (first|refine wk1 ?_|refine wk2 (fun hb hp=> ?_) (fun hb hp=> ?_)|fail))
           refine hK _ (i+1,d,p) ⟨this,by dsimp only;omega,by dsimp only;omega⟩ (by dsimp only;omega) ?_
           exact wkk)
        · cases d0:d==0<;>(
           (repeat' (first|refine wk1 ?_|refine wk2 (fun hb hp=> ?_) (fun hb hp=> ?_)|fail))
           refine hK _ (i+1,d,p) ⟨this,by dsimp only;omega,by dsimp only;omega⟩ (by dsimp only;omega) ?_
           exact wkk)
      have q5:(!(v== [45]))=true:=by rw[beqF v2];rfl
      by_cases d0:d=0
      · have:=nx _ _ e1 (if_pos ⟨w3,d0,by omega,v1,v2⟩)
        have q6:(d==0)=true:=by rw[d0];rfl
        rcases w3 with rfl|rfl
        · (repeat' (first|refine wk1 ?_|refine wk2 (fun hb hp=> ?_) (fun hb hp=> ?_)|fail))
          refine hK _ (i+1,d,(i:Int)) ⟨this,by dsimp only;omega,by dsimp only;omega⟩ (by dsimp only;omega) ?_
          exact wkk
        · (repeat' (first|refine wk1 ?_|refine wk2 (fun hb hp=> ?_) (fun hb hp=> ?_)|fail))
          refine hK _ (i+1,d,(i:Int)) ⟨this,by dsimp only;omega,by dsimp only;omega⟩ (by dsimp only;omega) ?_
          exact wkk
      · have:=nx _ _ e1 (if_neg (fun h=>d0 h.2.1))
        have q6:(d==0)=false:=beqF d0
        rcases w3 with rfl|rfl
        · (repeat' (first|refine wk1 ?_|refine wk2 (fun hb hp=> ?_) (fun hb hp=> ?_)|fail))
          refine hK _ (i+1,d,p) ⟨this,by dsimp only;omega,by dsimp only;omega⟩ (by dsimp only;omega) ?_
          exact wkk
        · (repeat' (first|refine wk1 ?_|refine wk2 (fun hb hp=> ?_) (fun hb hp=> ?_)|fail))
          refine hK _ (i+1,d,p) ⟨this,by dsimp only;omega,by dsimp only;omega⟩ (by dsimp only;omega) ?_
          exact wkk
    · have:=nx _ _ e1 (if_neg (fun h=>hi0 (by have:=h.2.2.1;omega)))
      have q3:decide (0<(i:Int))=false:=decide_eq_false (by omega)
      rcases w3 with rfl|rfl
      · cases d0:d==0<;>(
         (repeat' (first|refine wk1 ?_|refine wk2 (fun hb hp=> ?_) (fun hb hp=> ?_)|fail))
         refine hK _ (i+1,d,p) ⟨this,by dsimp only;omega,by dsimp only;omega⟩ (by dsimp only;omega) ?_
         exact wkk)
      · cases d0:d==0<;>(
         (repeat' (first|refine wk1 ?_|refine wk2 (fun hb hp=> ?_) (fun hb hp=> ?_)|fail))
         refine hK _ (i+1,d,p) ⟨this,by dsimp only;omega,by dsimp only;omega⟩ (by dsimp only;omega) ?_
         exact wkk)
  · have:=nx _ _ e1 (if_neg (fun h=>w3 h.1))
    have q3:(w== [43])=false:=beqF (fun h=>w3 (.inl h))
    have q4:(w== [45])=false:=beqF (fun h=>w3 (.inr h))
    (repeat' (first|refine wk1 ?_|refine wk2 (fun hb hp=> ?_) (fun hb hp=> ?_)|fail))
    refine hK _ (i+1,d,p) ⟨this,by dsimp only;omega,by dsimp only;omega⟩ (by dsimp only;omega) ?_
    exact wkk
end Go.Proofs.YtadjbegnlimepaaGreatDoor
