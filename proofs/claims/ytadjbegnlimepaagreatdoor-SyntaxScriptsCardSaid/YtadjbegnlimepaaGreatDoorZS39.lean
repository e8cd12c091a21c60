/- Several texts in one, each with its own sentence ahead of it. Conditions: each one says its own. -/
import Derived.Test.YtadjbegnlimepaaGreatDoorZS38
set_option linter.all false
namespace Go.Proofs.YtadjbegnlimepaaGreatDoor
open Go.Abs
set_option maxRecDepth 100000
attribute [local irreducible] L Code.wp bodyPost Exit.then Exit.inBlock
set_option linter.unusedVariables false
set_option linter.unusedSimpArgs false
theorem inBr_no{l:List Str}(h: ¬inBr l):(l.headD [] == [40])=false∨(l.headD [] = [40] ∧(l.getD (l.length - 1) [] == [41])=false)∨(l.headD [] = [40] ∧l.getD (l.length - 1) [] = [41] ∧decide (2<((l.map Str.c).length:Int))=false):=by
 rw[List.length_map]
 by_cases h1:l.headD [] = [40]
 · by_cases h2:l.getD (l.length - 1) [] = [41]
   · exact .inr (.inr ⟨h1,h2,decide_eq_false (fun h3=>h ⟨h1,h2,by omega⟩)⟩)
   · exact .inr (.inl ⟨h1,beqF h2⟩)
 · exact .inl (beqF h1)
theorem numR_le(s:Str):0≤(numR s).1∧(numR s).1≤10000000:=by
 unfold numR
 split
 · exact⟨by decide,by decide⟩
 · rename_i h
   simp only[not_or] at h
   have h1:=valG_lt s 0 (by simpa using h.2.2.1)
   have h2:10 ^ s.length≤10 ^ 7:=Nat.pow_le_pow_right (by decide) (by omega)
   have h3:=ten7
   refine⟨?_,?_⟩<;>dsimp only<;>omega
theorem refL_null:refL [wNULL] =litR nilV true:=by unfold refL;rw[if_pos ⟨rfl,rfl⟩]
theorem refL_text{s:Str}(h:s≠wNULL)(h1:s.headD 0=39):refL [s] =litR (psText s) true:=by unfold refL;rw[if_neg (fun k=>h k.2),if_pos ⟨rfl,h1⟩];rfl
theorem refL_num{s:Str}(h:s≠wNULL)(h1:s.headD 0≠39)(h2:digC (s.headD 0)=true):refL [s] =litR ⟨1,(numR s).1,[]⟩ (numR s).2:=by unfold refL;rw[if_neg (fun k=>h k.2),if_neg (fun k=>h1 k.2),if_pos ⟨rfl,h2⟩];rfl
theorem refL_name{s:Str}(h:s≠wNULL)(h1:s.headD 0≠39)(h2:digC (s.headD 0)=false):refL [s] =(.mk 2 nilV [] s 0 [],namedM s):=by
 unfold refL
 rw[if_neg (fun k=>h k.2),if_neg (fun k=>h1 k.2),if_neg (fun k=>by have:=k.2;rw[show([s]:List Str).headD [] =s from rfl,h2] at this;cases this),if_neg (fun k=>by cases k.1),if_pos (show([s]:List Str).length=1 from rfl)];rfl
theorem refL_neg(t:Str):refL [[45],t] =litR ⟨1,-(numR t).1,[]⟩ (numR t).2:=by
 unfold refL;rw[if_neg (fun k=>by cases k.1),if_neg (fun k=>by cases k.1),if_neg (fun k=>by cases k.1),if_pos ⟨rfl,rfl⟩];rfl
theorem refL_two{s t:Str}(h:s≠ [45]):refL [s,t] =(nilE,false):=by
 unfold refL
 rw[if_neg (fun k=>by cases k.1),if_neg (fun k=>by cases k.1),if_neg (fun k=>by cases k.1),if_neg (fun k=>h k.2),if_neg (fun k=>by cases k),if_neg (fun k=>by cases k.1)]
theorem refL_dot(s u:Str):refL [s,[46],u] =(.mk 2 nilV s u 0 [],namedM s && namedM u):=by
 unfold refL
 rw[if_neg (fun k=>by cases k.1),if_neg (fun k=>by cases k.1),if_neg (fun k=>by cases k.1),if_neg (fun k=>by cases k.1),if_neg (fun k=>by cases k),if_pos ⟨rfl,rfl⟩];rfl
theorem refL_three{s t u:Str}(h:t≠ [46]):refL [s,t,u] =(nilE,false):=by
 unfold refL
 rw[if_neg (fun k=>by cases k.1),if_neg (fun k=>by cases k.1),if_neg (fun k=>by cases k.1),if_neg (fun k=>by cases k.1),if_neg (fun k=>by cases k),if_neg (fun k=>h k.2)]
theorem refL_more{l:List Str}(h:3<l.length):refL l=(nilE,false):=by
 unfold refL
 rw[if_neg (fun k=>by omega),if_neg (fun k=>by omega),if_neg (fun k=>by omega),if_neg (fun k=>by omega),if_neg (fun k=>by omega),if_neg (fun k=>by omega)]
set_option maxHeartbeats 16000000 in
theorem atom1_any{gs:Globs}(m:Int)(hgm:maxG m∈gs){s:Str}{k:Nat}(hs:TokOk s)(h0:s≠ [])(hk:k≤1000)(k0:k≠0):RC gs 111 (fun l _=>refL l) [s] k:=by
 unfold RC
 dsimp only
 refine CallG.intro _ Tryz.func111 rfl Tryz.ntmps111 rfl (fun w0 E0 hG=> ?_)
 have q0:((k:Int)==0)=false:=beqF (by omega)
 have q1:((([s].map Str.c).length:Int)==0)=false:=rfl
 have qa:((([s].map Str.c).length:Int)==1)=true:=rfl
 have em:([s].map Str.c).length=1:=rfl
 have g0:([s].map Str.c)[(0:Int).toNat]?=some [S s]:=rfl
 have g9:([s].map Str.c)[((([s].map Str.c).length:Int) - 1).toNat]?=some [S s]:=rfl
 by_cases h1:s=wNULL
 · subst h1
   rw[refL_null]
   have kv:=dcLit_any (gs:=gs) nilV true (Nat.zero_le _)
   (repeat' (first|(refine LW.is ?_;first|(apply s_callFnK (f:=121) (avs:= [.agg (nilV.c.map .iv),aB true]) (caps:= []);exact rfl;exact hG;exact rfl;exact kv;exact rfl;exact .nil;exact rfl;exact rfl;exact rfl))|(refine DR.is ?_;first|(apply d_callFnK (f:=121) (avs:= [.agg (nilV.c.map .iv),aB true]) (caps:= []);exact rfl;exact hG;exact rfl;exact kv;exact rfl;exact .nil;exact rfl;exact rfl;exact rfl))|refine wk1 ?_|refine wk2 (fun hb hp=> ?_) (fun hb hp=> ?_)|fail))
   all_goals refine wkf ?_
   all_goals rfl
 have q2:(s== [110,117,108,108])=false:=beqF h1
 obtain⟨c,r,e0⟩: ∃c r,s=c::r:=by
  cases s with
  |nil=>exact absurd rfl h0
  |cons c r=>exact⟨c,r,rfl⟩
 have gc:s[0]?=some c:=by rw[e0];rfl
 have hc:s.headD 0=c:=by rw[e0];rfl
 by_cases h2:c=39
 · rw[refL_text h1 (hc.trans h2)]
   have ls:=hs.2.1 (by rw[e0,h2];rfl)
   have ls2:=hs.1
   have kv:=dcLit_any (gs:=gs) (psText s) true (by have:=hs.1;simp only[psText,List.length_take,List.length_drop];omega)
   have q3:(s== [40])=false:=beqF (fun e=>by rw[e0] at e;injection e with e;rw[e] at h2;cases h2)
   have q4:((c.toNat:Int)==39)=true:=by rw[h2];rfl
   have hsl:(s.drop (1:Int).toNat).take (((s.length:Int) - 1).toNat - (1:Int).toNat)=(s.drop 1).take (s.length - 2):=by
    rw[show((s.length:Int) - 1).toNat - (1:Int).toNat=s.length - 2 by omega];rfl
   clear e0
   (repeat' (first|(refine LW.is ?_;first|(apply s_vr;exact rfl;apply v_sliceSlh;exact rfl;exact rfl;exact rfl;decide;omega;omega;exact hsl)|(apply s_callFnK (f:=121) (avs:= [.agg ((psText s).c.map .iv),aB true]) (caps:= []);exact rfl;exact hG;exact rfl;exact kv;exact rfl;exact .nil;exact rfl;exact rfl;exact rfl))|(refine DR.is ?_;first|(apply d_vr;exact rfl;apply v_sliceSlh;exact rfl;exact rfl;exact rfl;decide;omega;omega;exact hsl)|(apply d_callFnK (f:=121) (avs:= [.agg ((psText s).c.map .iv),aB true]) (caps:= []);exact rfl;exact hG;exact rfl;exact kv;exact rfl;exact .nil;exact rfl;exact rfl;exact rfl))|refine wk1 ?_|refine wk2 (fun hb hp=> ?_) (fun hb hp=> ?_)|fail))
   all_goals refine wkf ?_
   all_goals rfl
 have q4:((c.toNat:Int)==39)=false:=beqF (fun e=>h2 (UInt8.toNat_inj.1 (by show c.toNat=39;omega)))
 have h2':s.headD 0≠39:=fun e=>h2 (hc▸e)
 have kn:=dcNum_any (gs:=gs) s
 cases h3:digC c with
 |true=>
  obtain⟨d1,d2⟩:=dig_iff.1 h3
  rw[refL_num h1 h2' (hc▸h3)]
  have kv:=dcLit_any (gs:=gs) ⟨1,(numR s).1,[]⟩ (numR s).2 (Nat.zero_le _)
  have q3:(s== [40])=false:=beqF (fun e=>by rw[e0] at e;injection e with e;rw[e] at h3;exact absurd h3 (by decide))
  have q5:decide (48≤(c.toNat:Int))=true:=decide_eq_true (by omega)
  have q6:decide ((c.toNat:Int)≤57)=true:=decide_eq_true (by omega)
  generalize numR s=nr at*
  obtain⟨n,b⟩:=nr
  dsimp only at kn kv⊢
  clear e0
  (repeat' (first|(refine LW.is ?_;first|(apply s_callFnK (f:=121) (avs:= [.agg ((⟨1,n,[]⟩:Val).c.map .iv),aB b]) (caps:= []);exact rfl;exact hG;exact rfl;exact kv;exact rfl;exact .nil;exact rfl;exact rfl;exact rfl))|(refine DR.is ?_;first|(apply d_callFnK (f:=121) (avs:= [.agg ((⟨1,n,[]⟩:Val).c.map .iv),aB b]) (caps:= []);exact rfl;exact hG;exact rfl;exact kv;exact rfl;exact .nil;exact rfl;exact rfl;exact rfl))|refine wk1 ?_|refine wk2 (fun hb hp=> ?_) (fun hb hp=> ?_)|fail))
  all_goals refine wkf ?_
  all_goals rfl
 |false=>
  rw[refL_name h1 h2' (hc▸h3)]
  have ki:=isName_any m hgm s (by have:=hs.1;omega)
  have q5:decide (48≤(c.toNat:Int))=false∨(decide (48≤(c.toNat:Int))=true∧decide ((c.toNat:Int)≤57)=false):=by
   by_cases h:48≤c.toNat
   · refine .inr ⟨decide_eq_true (by omega),decide_eq_false (fun h5=> ?_)⟩
     have:=dig_iff.2 ⟨h,(by omega:c.toNat≤57)⟩
     rw[h3] at this;cases this
   · exact .inl (decide_eq_false (by omega))
  have hbs:(s== [40])=false∨(s= [40] ∧(s== [41])=false):=by
   by_cases h:s= [40]
   · exact .inr ⟨h,by rw[h];rfl⟩
   · exact .inl (beqF h)
  clear kn e0 h3 h2 h2' hc hs h0 h1
  rcases hbs with q3|⟨q3,q7⟩
  · rcases q5 with q5|⟨q5,q6⟩
    · (repeat' (first|refine wk1 ?_|refine wk2 (fun hb hp=> ?_) (fun hb hp=> ?_)|fail))
      all_goals refine wkf ?_
      all_goals rfl
    · (repeat' (first|refine wk1 ?_|refine wk2 (fun hb hp=> ?_) (fun hb hp=> ?_)|fail))
      all_goals refine wkf ?_
      all_goals rfl
  · have q3':(s== [40])=true:=by rw[q3];rfl
    clear q3
    rcases q5 with q5|⟨q5,q6⟩
    · (repeat' (first|refine wk1 ?_|refine wk2 (fun hb hp=> ?_) (fun hb hp=> ?_)|fail))
      all_goals refine wkf ?_
      all_goals rfl
    · (repeat' (first|refine wk1 ?_|refine wk2 (fun hb hp=> ?_) (fun hb hp=> ?_)|fail))
      all_goals refine wkf ?_
      all_goals rfl
set_option maxHeartbeats 16000000 in
theorem atom2_any{gs:Globs}{s t:Str}{k:Nat}(hk:k≤1000)(k0:k≠0):RC gs 111 (fun l _=>refL l) [s,t] k:=by
 unfold RC
 dsimp only
 refine CallG.intro _ Tryz.func111 rfl Tryz.ntmps111 rfl (fun w0 E0 hG=> ?_)
 have q0:((k:Int)==0)=false:=beqF (by omega)
 have em:([s,t].map Str.c).length=2:=rfl
 have g0:([s,t].map Str.c)[(0:Int).toNat]?=some [S s]:=rfl
 have g1:([s,t].map Str.c)[(1:Int).toNat]?=some [S t]:=rfl
 have g9:([s,t].map Str.c)[((([s,t].map Str.c).length:Int) - 1).toNat]?=some [S t]:=rfl
 by_cases h1:s= [45]
 · subst h1
   rw[refL_neg]
   have kn:=dcNum_any (gs:=gs) t
   have kv:=dcLit_any (gs:=gs) ⟨1,-(numR t).1,[]⟩ (numR t).2 (Nat.zero_le _)
   obtain⟨n1,n2⟩:=numR_le t
   generalize numR t=nr at*
   obtain⟨n,b⟩:=nr
   dsimp only at kn kv n1 n2⊢
   rw[show -n=0 - n by omega] at kv⊢
   (repeat' (first|(refine LW.is ?_;first|(apply s_callFnK (f:=121) (avs:= [.agg ((⟨1,0 - n,[]⟩:Val).c.map .iv),aB b]) (caps:= []);exact rfl;exact hG;exact rfl;exact kv;exact rfl;exact .nil;exact rfl;exact rfl;exact rfl))|(refine DR.is ?_;first|(apply d_callFnK (f:=121) (avs:= [.agg ((⟨1,0 - n,[]⟩:Val).c.map .iv),aB b]) (caps:= []);exact rfl;exact hG;exact rfl;exact kv;exact rfl;exact .nil;exact rfl;exact rfl;exact rfl))|refine wk1 ?_|refine wk2 (fun hb hp=> ?_) (fun hb hp=> ?_)|fail))
   all_goals refine wkf ?_
   all_goals rfl
 have q1:(s== [45])=false:=beqF h1
 rw[refL_two h1]
 by_cases h2:s= [40]
 · have q2:(s== [40])=true:=by rw[h2];rfl
   by_cases h3:t= [41]
   · have q3:(t== [41])=true:=by rw[h3];rfl
     (repeat' (first|refine wk1 ?_|refine wk2 (fun hb hp=> ?_) (fun hb hp=> ?_)|fail))
     all_goals refine wkf ?_
     all_goals rfl
   · have q3:(t== [41])=false:=beqF h3
     (repeat' (first|refine wk1 ?_|refine wk2 (fun hb hp=> ?_) (fun hb hp=> ?_)|fail))
     all_goals refine wkf ?_
     all_goals rfl
 · have q2:(s== [40])=false:=beqF h2
   (repeat' (first|refine wk1 ?_|refine wk2 (fun hb hp=> ?_) (fun hb hp=> ?_)|fail))
   all_goals refine wkf ?_
   all_goals rfl
set_option maxHeartbeats 16000000 in
theorem atom3_any{gs:Globs}(m:Int)(hgm:maxG m∈gs){s t u:Str}{k:Nat}(hs:s.length≤1000000)(hu:u.length≤1000000)(hk:k≤1000)(k0:k≠0)(hb: ¬(s= [40] ∧u= [41])):RC gs 111 (fun l _=>refL l) [s,t,u] k:=by
 unfold RC
 dsimp only
 refine CallG.intro _ Tryz.func111 rfl Tryz.ntmps111 rfl (fun w0 E0 hG=> ?_)
 have q0:((k:Int)==0)=false:=beqF (by omega)
 have em:([s,t,u].map Str.c).length=3:=rfl
 have g0:([s,t,u].map Str.c)[(0:Int).toNat]?=some [S s]:=rfl
 have g1:([s,t,u].map Str.c)[(1:Int).toNat]?=some [S t]:=rfl
 have g2:([s,t,u].map Str.c)[(2:Int).toNat]?=some [S u]:=rfl
 have g9:([s,t,u].map Str.c)[((([s,t,u].map Str.c).length:Int) - 1).toNat]?=some [S u]:=rfl
 have hbs:(s== [40])=false∨((s== [40])=true∧(u== [41])=false):=by
  by_cases h:s= [40]
  · exact .inr ⟨by rw[h];rfl,beqF (fun h2=>hb ⟨h,h2⟩)⟩
  · exact .inl (beqF h)
 by_cases h1:t= [46]
 · subst h1
   rw[refL_dot]
   have ki:=isName_any m hgm s (by omega)
   have ku:=isName_any m hgm u (by omega)
   cases hn:namedM s<;>rw[hn] at ki<;>(
    rcases hbs with q3|⟨q3,q4⟩
    · (repeat' (first|refine wk1 ?_|refine wk2 (fun hb hp=> ?_) (fun hb hp=> ?_)|fail))
      all_goals refine wkf ?_
      all_goals rfl
    · (repeat' (first|refine wk1 ?_|refine wk2 (fun hb hp=> ?_) (fun hb hp=> ?_)|fail))
      all_goals refine wkf ?_
      all_goals rfl)
 · have q1:(t== [46])=false:=beqF h1
   rw[refL_three h1]
   rcases hbs with q3|⟨q3,q4⟩
   · (repeat' (first|refine wk1 ?_|refine wk2 (fun hb hp=> ?_) (fun hb hp=> ?_)|fail))
     all_goals refine wkf ?_
     all_goals rfl
   · (repeat' (first|refine wk1 ?_|refine wk2 (fun hb hp=> ?_) (fun hb hp=> ?_)|fail))
     all_goals refine wkf ?_
     all_goals rfl
set_option maxHeartbeats 16000000 in
theorem dcN_more{gs:Globs}{l:List Str}{k:Nat}(ht:TokA l)(hl:l.length≤1000000)(hk:k≤1000)(hh:l= [] ∨k=0∨inBr l∨3<l.length)
 (h1:inBr l→0<k→RC gs 41 refO ((l.drop 1).take (l.length - 2)) (k - 1)):RC gs 111 refN l k:=by
 have em:(l.map Str.c).length=l.length:=List.length_map _
 unfold RC at*
 refine CallG.intro _ Tryz.func111 rfl Tryz.ntmps111 rfl (fun w0 E0 hG=> ?_)
 have no:(l= [] ∨k=0)→refN l k=(nilE,false):=fun h=>by rw[refN,dif_pos h]
 by_cases l0:l= []
 · have q1:(((l.map Str.c).length:Int)==0)=true:=by rw[l0];rfl
   rw[no (.inl l0)]
   (repeat' (first|refine wk1 ?_|refine wk2 (fun hb hp=> ?_) (fun hb hp=> ?_)|fail))
   all_goals refine wkf ?_
   all_goals rfl
 have hlp:=List.length_pos_iff.2 l0
 have q1:(((l.map Str.c).length:Int)==0)=false:=beqF (by rw[em];omega)
 by_cases k0:k=0
 · have q0:((k:Int)==0)=true:=by rw[k0];rfl
   rw[no (.inr k0)]
   (repeat' (first|refine wk1 ?_|refine wk2 (fun hb hp=> ?_) (fun hb hp=> ?_)|fail))
   all_goals refine wkf ?_
   all_goals rfl
 have q0:((k:Int)==0)=false:=beqF (by omega)
 clear no
 have hno: ¬(l= [] ∨k=0):=fun h=>by rcases h with h|h<;>contradiction
 have g0:(l.map Str.c)[(0:Int).toNat]?=some [S (l.headD [])]:=at_nat (get0 hlp) rfl
 have g9:(l.map Str.c)[((((l.map Str.c).length:Nat):Int) - 1).toNat]?=some [S (l.getD (l.length - 1) [])]:=at_nat (getE (by omega)) (by rw[em];omega)
 by_cases hb:inBr l
 · have k1:=h1 hb (by omega)
   have hb':=hb
   obtain⟨b1,b2,b3⟩:=hb
   rw[b1] at g0
   rw[b2] at g9
   have q3:decide (2<((l.map Str.c).length:Int))=true:=decide_eq_true (by rw[em];omega)
   rw[show((k - 1:Nat):Int)=(k:Int) - 1 by omega] at k1
   have hsl:((l.map Str.c).take (((l.map Str.c).length:Int) - 1).toNat).drop (1:Int).toNat=((l.drop 1).take (l.length - 2)).map Str.c:=by
    rw[em,show((l.length:Int) - 1).toNat=l.length - 1 by omega,←List.map_take,←List.map_drop]
    congr 1
    rw[List.drop_take]
    rfl
   have kc:=cut_any ((l.drop 1).take (l.length - 2)) [[41]] (by rw[List.length_take];omega) (by simp)
   generalize hd:(l.drop 1).take (l.length - 2)=d at*
   cases hc:cutM d [[41]] with
   |none=>
    have er:refN l k=refO d (k - 1):=by rw[refN,dif_neg hno,dif_pos hb',hd,hc];rfl
    have ec:cutR d [[41]] =(d,[],-1):=by unfold cutR;rw[hc]
    rw[ec] at kc
    rw[er]
    generalize refO d (k - 1)=r at*
    obtain⟨x,p⟩:=r
    clear h1
    dsimp only at k1
    (repeat' (first|(refine LW.is ?_;first|(apply s_vr;exact rfl;apply v_sliceVlh;exact rfl;exact rfl;exact rfl;exact lenS1 _;decide;omega;omega;exact hsl))|(refine DR.is ?_;first|(apply d_vr;exact rfl;apply v_sliceVlh;exact rfl;exact rfl;exact rfl;exact lenS1 _;decide;omega;omega;exact hsl))|refine wk1 ?_|refine wk2 (fun hb hp=> ?_) (fun hb hp=> ?_)|fail))
    all_goals refine wkf ?_
    all_goals rfl
   |some p=>
    have er:refN l k=(nilE,false):=by rw[refN,dif_neg hno,dif_pos hb',hd,hc];rfl
    have ec:cutR d [[41]] =(d.take p.1,d.drop (p.1+1),(p.2:Int)):=by unfold cutR;rw[hc]
    have q4:decide (0≤(p.2:Int))=true:=decide_eq_true (by omega)
    rw[ec] at kc
    rw[er]
    clear h1 k1
    (repeat' (first|(refine LW.is ?_;first|(apply s_vr;exact rfl;apply v_sliceVlh;exact rfl;exact rfl;exact rfl;exact lenS1 _;decide;omega;omega;exact hsl))|(refine DR.is ?_;first|(apply d_vr;exact rfl;apply v_sliceVlh;exact rfl;exact rfl;exact rfl;exact lenS1 _;decide;omega;omega;exact hsl))|refine wk1 ?_|refine wk2 (fun hb hp=> ?_) (fun hb hp=> ?_)|fail))
    all_goals refine wkf ?_
    all_goals rfl
 have er:refN l k=refL l:=by rw[refN,dif_neg hno,dif_neg hb]
 rw[er]
 clear h1 hno
 have hbn:=inBr_no hb
 by_cases l4:3<l.length
 · rw[refL_more l4]
   have q5:(((l.map Str.c).length:Int)==1)=false:=beqF (by rw[em];omega)
   have q6:(((l.map Str.c).length:Int)==2)=false:=beqF (by rw[em];omega)
   have q7:(((l.map Str.c).length:Int)==3)=false:=beqF (by rw[em];omega)
   rcases hbn with q2|⟨q2,q3⟩|⟨q2,q3,q4⟩
   · (repeat' (first|refine wk1 ?_|refine wk2 (fun hb hp=> ?_) (fun hb hp=> ?_)|fail))
     all_goals refine wkf ?_
     all_goals rfl
   · rw[q2] at g0
     (repeat' (first|refine wk1 ?_|refine wk2 (fun hb hp=> ?_) (fun hb hp=> ?_)|fail))
     all_goals refine wkf ?_
     all_goals rfl
   · rw[List.length_map] at q4
     exact absurd (of_decide_eq_false q4) (fun h=>h (by omega))
 · exfalso;rcases hh with h|h|h|h<;>first|contradiction|exact l4 h|exact hb h
theorem dcN_any{gs:Globs}(m:Int)(hgm:maxG m∈gs){l:List Str}{k:Nat}(ht:TokA l)(hl:l.length≤1000000)(hk:k≤1000)
 (h1:inBr l→0<k→RC gs 41 refO ((l.drop 1).take (l.length - 2)) (k - 1)):RC gs 111 refN l k:=by
 by_cases h:l= [] ∨k=0∨inBr l∨3<l.length
 · exact dcN_more ht hl hk h h1
 · have k0:k≠0:=fun e=>h (.inr (.inl e))
   have er:refN l k=refL l:=by rw[refN,dif_neg (fun e=>h (by rcases e with e|e;exact .inl e;exact .inr (.inl e))),dif_neg (fun e=>h (.inr (.inr (.inl e))))]
   have goal: ∀f:List Str→Nat→Ex×Bool,f l k=refN l k→RC gs 111 f l k→RC gs 111 refN l k:=fun f e h=>by unfold RC at*;rw[←e];exact h
   refine goal (fun l _=>refL l) er.symm ?_
   match l,h,ht with
   | [],h,_=>exact absurd (.inl rfl) h
   | [s],h,ht=>exact atom1_any m hgm (ht s (by simp)).1 (ht s (by simp)).2 hk k0
   | [s,t],h,ht=>exact atom2_any hk k0
   | [s,t,u],h,ht=>exact atom3_any m hgm (ht s (by simp)).1.1 (ht u (by simp)).1.1 hk k0 (fun e=>h (.inr (.inr (.inl ⟨e.1,e.2,by simp⟩))))
   |s::t::u::v::w,h,ht=>exact absurd (.inr (.inr (.inr (by simp only[List.length_cons];omega)))) h
end Go.Proofs.YtadjbegnlimepaaGreatDoor
