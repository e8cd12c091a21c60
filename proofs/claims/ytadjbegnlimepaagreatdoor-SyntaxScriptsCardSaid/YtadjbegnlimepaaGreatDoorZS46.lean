/- Several texts in one, each with its own sentence ahead of it. Conditions: each one says its own. -/
import Derived.Test.YtadjbegnlimepaaGreatDoorZS45
set_option linter.all false
namespace Go.Proofs.YtadjbegnlimepaaGreatDoor
open Go.Abs
set_option maxRecDepth 100000
attribute [local irreducible] L Code.wp bodyPost Exit.then Exit.inBlock
set_option linter.unusedVariables false
set_option linter.unusedSimpArgs false
theorem low_fn{gs:Globs}(b:UInt8):CallG gs Tryz.prog 34 [.iv (.im (.int .u8 (b.toNat:Int)))] [] [] [] (aB (lowC b)):=by
 refine CallG.intro _ Tryz.func34 rfl Tryz.ntmps34 rfl (fun w0 E0 hG=> ?_)
 by_cases b1:97≤b.toNat
 · have q1:decide ((97:Int)≤(b.toNat:Int))=true:=decide_eq_true (by omega)
   have e:lowC b=decide ((b.toNat:Int)≤122):=by
    unfold lowC
    rw[show(decide (97≤b.toNat))=true from decide_eq_true b1,Bool.true_and]
    exact decide_eq_decide.2 (by omega)
   rw[e]
   (repeat' (first|refine wk1 ?_|refine wk2 (fun hb hp=> ?_) (fun hb hp=> ?_)|fail))
   all_goals refine wkf ?_
   all_goals rfl
 · have q1:decide ((97:Int)≤(b.toNat:Int))=false:=decide_eq_false (by omega)
   have e:lowC b=false:=by
    unfold lowC
    rw[show(decide (97≤b.toNat))=false from decide_eq_false b1,Bool.false_and]
   rw[e]
   (repeat' (first|refine wk1 ?_|refine wk2 (fun hb hp=> ?_) (fun hb hp=> ?_)|fail))
   all_goals refine wkf ?_
   all_goals rfl
theorem dig_fn{gs:Globs}(b:UInt8):CallG gs Tryz.prog 35 [.iv (.im (.int .u8 (b.toNat:Int)))] [] [] [] (aB (digC b)):=by
 refine CallG.intro _ Tryz.func35 rfl Tryz.ntmps35 rfl (fun w0 E0 hG=> ?_)
 by_cases b1:48≤b.toNat
 · have q1:decide ((48:Int)≤(b.toNat:Int))=true:=decide_eq_true (by omega)
   have e:digC b=decide ((b.toNat:Int)≤57):=by
    unfold digC
    rw[show(decide (48≤b.toNat))=true from decide_eq_true b1,Bool.true_and]
    exact decide_eq_decide.2 (by omega)
   rw[e]
   (repeat' (first|refine wk1 ?_|refine wk2 (fun hb hp=> ?_) (fun hb hp=> ?_)|fail))
   all_goals refine wkf ?_
   all_goals rfl
 · have q1:decide ((48:Int)≤(b.toNat:Int))=false:=decide_eq_false (by omega)
   have e:digC b=false:=by
    unfold digC
    rw[show(decide (48≤b.toNat))=false from decide_eq_false b1,Bool.false_and]
   rw[e]
   (repeat' (first|refine wk1 ?_|refine wk2 (fun hb hp=> ?_) (fun hb hp=> ?_)|fail))
   all_goals refine wkf ?_
   all_goals rfl
theorem ixb_none{r:Str}(h: ∀y∈r,y≠39):Lib.indexByte r 39<0:=by
 induction r with
 |nil=>decide
 |cons x r ih=>
  have h1:=h x (by simp)
  have h2:=ih (fun y hy=>h y (by simp[hy]))
  unfold Lib.indexByte
  simp only[beq_iff_eq,h1,if_false]
  split<;>omega
theorem ixb_at{r:Str}{j:Nat}(hx:r[j]?=some 39)(h: ∀y∈r.take j,y≠39):Lib.indexByte r 39=(j:Int):=by
 induction r generalizing j with
 |nil=>simp at hx
 |cons x r ih=>
  cases j with
  |zero=>
   simp at hx
   subst hx
   unfold Lib.indexByte
   simp
  |succ j=>
   have h1:=h x (by simp)
   have h2:=ih (j:=j) (by simpa using hx) (fun y hy=>h y (by simp[hy]))
   unfold Lib.indexByte
   simp only[beq_iff_eq,h1,if_false,h2]
   split<;>omega
set_option maxHeartbeats 64000000 in
theorem words_any{gs:Globs}(s:Str)(hs:s.length≤1000000):CallG gs Tryz.prog 13 [aS s] [] [] [] (.iv (.sl ((dcWords s).map Str.c))):=by
 refine CallG.intro _ Tryz.func13 rfl Tryz.ntmps13 rfl (fun w0 E0 hG=> ?_)
 (repeat' (first|refine wk1 ?_|refine wk2 (fun hb hp=> ?_) (fun hb hp=> ?_)|fail))
 refine L.adopt 3 (s:=3) (t:=9) (k:=1) rfl rfl rfl ?_
 refine L.loopP (ι:=List Str×Nat) (fun i=>⟨[(3,.row 3 (i.1.map Str.c)),(4,.fn 34 []),(5,.fn 35 []),(6,aI (i.2:Int)),(0,aS s)],[],[(3,⟨9,1⟩)]⟩) (fun i=>s.length - i.2) (fun i=>dcWords s=i.1++dcWords (s.drop i.2)∧i.1.length≤i.2∧i.2≤s.length) (i0:=([],0)) ?_ ⟨rfl,Nat.le_refl _,Nat.zero_le _⟩ ?_
 · exact wkk
 rintro ⟨l,i⟩ ⟨hI,hl,hi⟩ K hK
 dsimp only at hI hl hi hK⊢
 cases hx:s[i]? with
 |none=>
  have hil:=List.getElem?_eq_none_iff.1 hx
  have hlt:decide ((i:Int)<(s.length:Int))=false:=decide_eq_false (by omega)
  rw[List.drop_eq_nil_of_le hil,dw_nil,List.append_nil] at hI
  rw[hI]
  (repeat' (first|refine wk1 ?_|refine wk2 (fun hb hp=> ?_) (fun hb hp=> ?_)|fail))
  all_goals refine wkf ?_
  all_goals rfl
 |some c=>
  have hil:=(List.getElem?_eq_some_iff.1 hx).1
  have hlt:decide ((i:Int)<(s.length:Int))=true:=decide_eq_true (by omega)
  have gx:s[((i:Nat):Int).toNat]?=some c:=by rw[Int.toNat_natCast];exact hx
  have hd:=dropC hx
  rw[hd] at hI
  have lr:(s.drop (i+1)).length=s.length - (i+1):=List.length_drop
  generalize er:s.drop (i+1)=r at*
  have er:=er.symm
  have cb:=c.toNat_lt
  by_cases hb:c=32∨c=10
  · rw[dw_blank hb] at hI
    have hI':dcWords s=l++dcWords (s.drop (i+1)):=by rw[←er];exact hI
    rcases hb with rfl|rfl
    · (repeat' (first|(refine LW.is ?_;first|(apply s_vr;exact rfl;apply v_indexS;exact rfl;exact rfl;omega;exact gx))|(refine DR.is ?_;first|(apply d_vr;exact rfl;apply v_indexS;exact rfl;exact rfl;omega;exact gx))|refine wk1 ?_|refine wk2 (fun hb hp=> ?_) (fun hb hp=> ?_)|fail))
      refine hK _ (l,i+1) ⟨hI',by dsimp only;omega,by dsimp only;omega⟩ (by dsimp only;omega) ?_
      exact wkk
    · (repeat' (first|(refine LW.is ?_;first|(apply s_vr;exact rfl;apply v_indexS;exact rfl;exact rfl;omega;exact gx))|(refine DR.is ?_;first|(apply d_vr;exact rfl;apply v_indexS;exact rfl;exact rfl;omega;exact gx))|refine wk1 ?_|refine wk2 (fun hb hp=> ?_) (fun hb hp=> ?_)|fail))
      refine hK _ (l,i+1) ⟨hI',by dsimp only;omega,by dsimp only;omega⟩ (by dsimp only;omega) ?_
      exact wkk
  have q32:((c.toNat:Int)==32)=false:=u8ne (n:=32) (by decide) (fun e=>hb (.inl e))
  have q10:((c.toNat:Int)==10)=false:=u8ne (n:=10) (by decide) (fun e=>hb (.inr e))
  have next: ∀n,tokLen c r=some (n)→dcWords s=(l++ [(c::r).take n])++dcWords (s.drop (i+n)):=fun n hn=>by
   rw[hI,dw_some hb hn,List.append_assoc,←hd,List.drop_drop];rfl
  have bad:tokLen c r=none→dcWords s=l++ [[]]:=fun hn=>by rw[hI,dw_none hb hn]
  have bm: ∀e:List IV,(l.map Str.c).length+ [e].length≤maxLen:=fun e=>by rw[List.length_map];simp only[maxLen,List.length_cons,List.length_nil];omega
  have bb: ∀e:List IV,((l.map Str.c).length+ [e].length)*16≤225000000000000:=fun e=>by rw[List.length_map,List.length_cons,List.length_nil];omega
  have kl:=low_fn (gs:=gs) c
  have kd:=dig_fn (gs:=gs) c
  cases hp:lowC c with
  |true=>
   rw[hp] at kl
   have htk:tokLen c r=some (1+(r.takeWhile lowC).length):=by simp[tokLen,hp]
   have hwl:=tw_le lowC r
   (repeat' (first|(refine LW.is ?_;first|(apply s_vr;exact rfl;apply v_indexS;exact rfl;exact rfl;omega;exact gx)|(apply s_callFnK (f:=34) (avs:= [.iv (.im (.int .u8 (c.toNat:Int)))]) (caps:= []);exact rfl;exact hG;exact rfl;exact kl;exact rfl;exact .nil;exact rfl;exact rfl;exact rfl))|(refine DR.is ?_;first|(apply d_vr;exact rfl;apply v_indexS;exact rfl;exact rfl;omega;exact gx)|(apply d_callFnK (f:=34) (avs:= [.iv (.im (.int .u8 (c.toNat:Int)))]) (caps:= []);exact rfl;exact hG;exact rfl;exact kl;exact rfl;exact .nil;exact rfl;exact rfl;exact rfl))|refine wk1 ?_|refine wk2 (fun hb hp=> ?_) (fun hb hp=> ?_)|fail))
   refine L.loopP (ι:=Nat) (fun n=>⟨[(7,aI ((i+1+n:Nat):Int)),(3,.row 3 (l.map Str.c)),(4,.fn 34 []),(5,.fn 35 []),(6,aI (i:Int)),(0,aS s)],[],[(3,⟨9,1⟩)]⟩) (fun n=>r.length+1 - n) (fun n=>n≤(r.takeWhile lowC).length) (i0:=0) ?_ (Nat.zero_le _) ?_
   · (refine Wk.mk' (by intro id h;cases h) ?_ ?_ ?_<;>repeat' (first|exact WkF.nil|exact WkB.nil|exact WkT.nil|(refine WkF.cons rfl (Sub.refl _) ?_)|(refine WkF.cons rfl (Sub.of_eq (congrArg aI (by omega))) ?_)|(refine WkT.cons rfl ?_)))
   intro j hj K2 hK2
   cases hx2:r[j]? with
   |none=>
    have hjl:=List.getElem?_eq_none_iff.1 hx2
    have hlt2:decide (((i+1+j:Nat):Int)<(s.length:Int))=false:=decide_eq_false (by omega)
    have nxt:=next (j+1) (by rw[htk];congr 1;omega)
    have e2:((i+1+j:Nat):Int)≤(s.length:Int):=by omega
    have hsl:(s.drop ((i:Nat):Int).toNat).take ((((i+1+j:Nat):Int)).toNat - ((i:Nat):Int).toNat)=(c::r).take (j+1):=by
     rw[show((i:Nat):Int).toNat=i from Int.toNat_natCast i,hd];congr 1;omega
    clear hK2
    (repeat' (first|(refine LW.is ?_;first|(apply s_append;exact rfl;exact rfl;exact rfl;exact rfl;exact lenS1 _;(exact len_cons rfl len_nil);exact bm _;exact bb _;exact rfl;exact rfl)|(apply s_vr;exact rfl;apply v_sliceSlh;exact rfl;exact rfl;exact rfl;omega;omega;exact e2;exact hsl))|(refine DR.is ?_;first|(apply d_append;exact rfl;exact rfl;exact rfl;exact rfl;exact lenS1 _;(exact len_cons rfl len_nil);exact bm _;exact bb _;exact rfl;exact rfl)|(apply d_vr;exact rfl;apply v_sliceSlh;exact rfl;exact rfl;exact rfl;omega;omega;exact e2;exact hsl))|refine wk1 ?_|refine wk2 (fun hb hp=> ?_) (fun hb hp=> ?_)|fail))
    refine L.only [3,4,5,6,0] ?_
    refine L.retok 3 98 3 rfl rfl rfl rfl ?_
    refine hK _ (l++ [(c::r).take (j+1)],i+(j+1)) ⟨nxt,by dsimp only;rw[List.length_append];simp only[List.length_cons,List.length_nil];omega,by dsimp only;omega⟩ (by dsimp only;omega) (Wk.mk' (by intro id h;cases h) (.cons rfl (Sub.of_eq (congrArg (AV.row 3) (by rw[List.map_append];rfl))) (.cons rfl (Sub.refl _) (.cons rfl (Sub.refl _) (.cons rfl (Sub.of_eq (congrArg aI (by omega))) (.cons rfl (Sub.refl _) .nil))))) .nil (.cons rfl .nil))
   |some b=>
    have hjl:=(List.getElem?_eq_some_iff.1 hx2).1
    have hlt2:decide (((i+1+j:Nat):Int)<(s.length:Int))=true:=decide_eq_true (by omega)
    have gx2:s[((i+1+j:Nat):Int).toNat]?=some b:=by rw[Int.toNat_natCast,←List.getElem?_drop,←er];exact hx2
    have kb:=low_fn (gs:=gs) b
    cases hb2:lowC b with
    |true=>
     rw[hb2] at kb
     have hn2:=tw_next (p:=lowC) hx2 hb2 hj
     (repeat' (first|(refine LW.is ?_;first|(apply s_vr;exact rfl;apply v_indexS;exact rfl;exact rfl;omega;exact gx2)|(apply s_callFnK (f:=34) (avs:= [.iv (.im (.int .u8 (b.toNat:Int)))]) (caps:= []);exact rfl;exact hG;exact rfl;exact kb;exact rfl;exact .nil;exact rfl;exact rfl;exact rfl))|(refine DR.is ?_;first|(apply d_vr;exact rfl;apply v_indexS;exact rfl;exact rfl;omega;exact gx2)|(apply d_callFnK (f:=34) (avs:= [.iv (.im (.int .u8 (b.toNat:Int)))]) (caps:= []);exact rfl;exact hG;exact rfl;exact kb;exact rfl;exact .nil;exact rfl;exact rfl;exact rfl))|refine wk1 ?_|refine wk2 (fun hb hp=> ?_) (fun hb hp=> ?_)|fail))
     refine hK2 _ (j+1) hn2 (by omega) ?_
     (refine Wk.mk' (by intro id h;cases h) ?_ ?_ ?_<;>repeat' (first|exact WkF.nil|exact WkB.nil|exact WkT.nil|(refine WkF.cons rfl (Sub.refl _) ?_)|(refine WkF.cons rfl (Sub.of_eq (congrArg aI (by omega))) ?_)|(refine WkT.cons rfl ?_)))
    |false=>
     rw[hb2] at kb
     have nxt:=next (j+1) (by rw[htk,tw_stop (p:=lowC) hx2 hb2 hj];congr 1;omega)
     have e2:((i+1+j:Nat):Int)≤(s.length:Int):=by omega
     have hsl:(s.drop ((i:Nat):Int).toNat).take ((((i+1+j:Nat):Int)).toNat - ((i:Nat):Int).toNat)=(c::r).take (j+1):=by
      rw[show((i:Nat):Int).toNat=i from Int.toNat_natCast i,hd];congr 1;omega
     clear hK2
     (repeat' (first|(refine LW.is ?_;first|(apply s_vr;exact rfl;apply v_indexS;exact rfl;exact rfl;omega;exact gx2)|(apply s_callFnK (f:=34) (avs:= [.iv (.im (.int .u8 (b.toNat:Int)))]) (caps:= []);exact rfl;exact hG;exact rfl;exact kb;exact rfl;exact .nil;exact rfl;exact rfl;exact rfl)|(apply s_append;exact rfl;exact rfl;exact rfl;exact rfl;exact lenS1 _;(exact len_cons rfl len_nil);exact bm _;exact bb _;exact rfl;exact rfl)|(apply s_vr;exact rfl;apply v_sliceSlh;exact rfl;exact rfl;exact rfl;omega;omega;exact e2;exact hsl))|(refine DR.is ?_;first|(apply d_vr;exact rfl;apply v_indexS;exact rfl;exact rfl;omega;exact gx2)|(apply d_callFnK (f:=34) (avs:= [.iv (.im (.int .u8 (b.toNat:Int)))]) (caps:= []);exact rfl;exact hG;exact rfl;exact kb;exact rfl;exact .nil;exact rfl;exact rfl;exact rfl)|(apply d_append;exact rfl;exact rfl;exact rfl;exact rfl;exact lenS1 _;(exact len_cons rfl len_nil);exact bm _;exact bb _;exact rfl;exact rfl)|(apply d_vr;exact rfl;apply v_sliceSlh;exact rfl;exact rfl;exact rfl;omega;omega;exact e2;exact hsl))|refine wk1 ?_|refine wk2 (fun hb hp=> ?_) (fun hb hp=> ?_)|fail))
     refine L.only [3,4,5,6,0] ?_
     refine L.retok 3 98 3 rfl rfl rfl rfl ?_
     refine hK _ (l++ [(c::r).take (j+1)],i+(j+1)) ⟨nxt,by dsimp only;rw[List.length_append];simp only[List.length_cons,List.length_nil];omega,by dsimp only;omega⟩ (by dsimp only;omega) (Wk.mk' (by intro id h;cases h) (.cons rfl (Sub.of_eq (congrArg (AV.row 3) (by rw[List.map_append];rfl))) (.cons rfl (Sub.refl _) (.cons rfl (Sub.refl _) (.cons rfl (Sub.of_eq (congrArg aI (by omega))) (.cons rfl (Sub.refl _) .nil))))) .nil (.cons rfl .nil))
  |false=>
  rw[hp] at kl
  have hp0:=hp
  cases hp:digC c with
  |true=>
   rw[hp] at kd
   have htk:tokLen c r=some (1+(r.takeWhile digC).length):=by simp[tokLen,hp0,hp]
   have hwl:=tw_le digC r
   (repeat' (first|(refine LW.is ?_;first|(apply s_vr;exact rfl;apply v_indexS;exact rfl;exact rfl;omega;exact gx)|(apply s_callFnK (f:=34) (avs:= [.iv (.im (.int .u8 (c.toNat:Int)))]) (caps:= []);exact rfl;exact hG;exact rfl;exact kl;exact rfl;exact .nil;exact rfl;exact rfl;exact rfl)|(apply s_callFnK (f:=35) (avs:= [.iv (.im (.int .u8 (c.toNat:Int)))]) (caps:= []);exact rfl;exact hG;exact rfl;exact kd;exact rfl;exact .nil;exact rfl;exact rfl;exact rfl))|(refine DR.is ?_;first|(apply d_vr;exact rfl;apply v_indexS;exact rfl;exact rfl;omega;exact gx)|(apply d_callFnK (f:=34) (avs:= [.iv (.im (.int .u8 (c.toNat:Int)))]) (caps:= []);exact rfl;exact hG;exact rfl;exact kl;exact rfl;exact .nil;exact rfl;exact rfl;exact rfl)|(apply d_callFnK (f:=35) (avs:= [.iv (.im (.int .u8 (c.toNat:Int)))]) (caps:= []);exact rfl;exact hG;exact rfl;exact kd;exact rfl;exact .nil;exact rfl;exact rfl;exact rfl))|refine wk1 ?_|refine wk2 (fun hb hp=> ?_) (fun hb hp=> ?_)|fail))
   refine L.loopP (ι:=Nat) (fun n=>⟨[(7,aI ((i+1+n:Nat):Int)),(3,.row 3 (l.map Str.c)),(4,.fn 34 []),(5,.fn 35 []),(6,aI (i:Int)),(0,aS s)],[],[(3,⟨9,1⟩)]⟩) (fun n=>r.length+1 - n) (fun n=>n≤(r.takeWhile digC).length) (i0:=0) ?_ (Nat.zero_le _) ?_
   · (refine Wk.mk' (by intro id h;cases h) ?_ ?_ ?_<;>repeat' (first|exact WkF.nil|exact WkB.nil|exact WkT.nil|(refine WkF.cons rfl (Sub.refl _) ?_)|(refine WkF.cons rfl (Sub.of_eq (congrArg aI (by omega))) ?_)|(refine WkT.cons rfl ?_)))
   intro j hj K2 hK2
   cases hx2:r[j]? with
   |none=>
    have hjl:=List.getElem?_eq_none_iff.1 hx2
    have hlt2:decide (((i+1+j:Nat):Int)<(s.length:Int))=false:=decide_eq_false (by omega)
    have nxt:=next (j+1) (by rw[htk];congr 1;omega)
    have e2:((i+1+j:Nat):Int)≤(s.length:Int):=by omega
    have hsl:(s.drop ((i:Nat):Int).toNat).take ((((i+1+j:Nat):Int)).toNat - ((i:Nat):Int).toNat)=(c::r).take (j+1):=by
     rw[show((i:Nat):Int).toNat=i from Int.toNat_natCast i,hd];congr 1;omega
    clear hK2
    (repeat' (first|(refine LW.is ?_;first|(apply s_append;exact rfl;exact rfl;exact rfl;exact rfl;exact lenS1 _;(exact len_cons rfl len_nil);exact bm _;exact bb _;exact rfl;exact rfl)|(apply s_vr;exact rfl;apply v_sliceSlh;exact rfl;exact rfl;exact rfl;omega;omega;exact e2;exact hsl))|(refine DR.is ?_;first|(apply d_append;exact rfl;exact rfl;exact rfl;exact rfl;exact lenS1 _;(exact len_cons rfl len_nil);exact bm _;exact bb _;exact rfl;exact rfl)|(apply d_vr;exact rfl;apply v_sliceSlh;exact rfl;exact rfl;exact rfl;omega;omega;exact e2;exact hsl))|refine wk1 ?_|refine wk2 (fun hb hp=> ?_) (fun hb hp=> ?_)|fail))
    refine L.only [3,4,5,6,0] ?_
    refine L.retok 3 98 3 rfl rfl rfl rfl ?_
    refine hK _ (l++ [(c::r).take (j+1)],i+(j+1)) ⟨nxt,by dsimp only;rw[List.length_append];simp only[List.length_cons,List.length_nil];omega,by dsimp only;omega⟩ (by dsimp only;omega) (Wk.mk' (by intro id h;cases h) (.cons rfl (Sub.of_eq (congrArg (AV.row 3) (by rw[List.map_append];rfl))) (.cons rfl (Sub.refl _) (.cons rfl (Sub.refl _) (.cons rfl (Sub.of_eq (congrArg aI (by omega))) (.cons rfl (Sub.refl _) .nil))))) .nil (.cons rfl .nil))
   |some b=>
    have hjl:=(List.getElem?_eq_some_iff.1 hx2).1
    have hlt2:decide (((i+1+j:Nat):Int)<(s.length:Int))=true:=decide_eq_true (by omega)
    have gx2:s[((i+1+j:Nat):Int).toNat]?=some b:=by rw[Int.toNat_natCast,←List.getElem?_drop,←er];exact hx2
    have kb:=dig_fn (gs:=gs) b
    cases hb2:digC b with
    |true=>
     rw[hb2] at kb
     have hn2:=tw_next (p:=digC) hx2 hb2 hj
     (repeat' (first|(refine LW.is ?_;first|(apply s_vr;exact rfl;apply v_indexS;exact rfl;exact rfl;omega;exact gx2)|(apply s_callFnK (f:=35) (avs:= [.iv (.im (.int .u8 (b.toNat:Int)))]) (caps:= []);exact rfl;exact hG;exact rfl;exact kb;exact rfl;exact .nil;exact rfl;exact rfl;exact rfl))|(refine DR.is ?_;first|(apply d_vr;exact rfl;apply v_indexS;exact rfl;exact rfl;omega;exact gx2)|(apply d_callFnK (f:=35) (avs:= [.iv (.im (.int .u8 (b.toNat:Int)))]) (caps:= []);exact rfl;exact hG;exact rfl;exact kb;exact rfl;exact .nil;exact rfl;exact rfl;exact rfl))|refine wk1 ?_|refine wk2 (fun hb hp=> ?_) (fun hb hp=> ?_)|fail))
     refine hK2 _ (j+1) hn2 (by omega) ?_
     (refine Wk.mk' (by intro id h;cases h) ?_ ?_ ?_<;>repeat' (first|exact WkF.nil|exact WkB.nil|exact WkT.nil|(refine WkF.cons rfl (Sub.refl _) ?_)|(refine WkF.cons rfl (Sub.of_eq (congrArg aI (by omega))) ?_)|(refine WkT.cons rfl ?_)))
    |false=>
     rw[hb2] at kb
     have nxt:=next (j+1) (by rw[htk,tw_stop (p:=digC) hx2 hb2 hj];congr 1;omega)
     have e2:((i+1+j:Nat):Int)≤(s.length:Int):=by omega
     have hsl:(s.drop ((i:Nat):Int).toNat).take ((((i+1+j:Nat):Int)).toNat - ((i:Nat):Int).toNat)=(c::r).take (j+1):=by
      rw[show((i:Nat):Int).toNat=i from Int.toNat_natCast i,hd];congr 1;omega
     clear hK2
     (repeat' (first|(refine LW.is ?_;first|(apply s_vr;exact rfl;apply v_indexS;exact rfl;exact rfl;omega;exact gx2)|(apply s_callFnK (f:=35) (avs:= [.iv (.im (.int .u8 (b.toNat:Int)))]) (caps:= []);exact rfl;exact hG;exact rfl;exact kb;exact rfl;exact .nil;exact rfl;exact rfl;exact rfl)|(apply s_append;exact rfl;exact rfl;exact rfl;exact rfl;exact lenS1 _;(exact len_cons rfl len_nil);exact bm _;exact bb _;exact rfl;exact rfl)|(apply s_vr;exact rfl;apply v_sliceSlh;exact rfl;exact rfl;exact rfl;omega;omega;exact e2;exact hsl))|(refine DR.is ?_;first|(apply d_vr;exact rfl;apply v_indexS;exact rfl;exact rfl;omega;exact gx2)|(apply d_callFnK (f:=35) (avs:= [.iv (.im (.int .u8 (b.toNat:Int)))]) (caps:= []);exact rfl;exact hG;exact rfl;exact kb;exact rfl;exact .nil;exact rfl;exact rfl;exact rfl)|(apply d_append;exact rfl;exact rfl;exact rfl;exact rfl;exact lenS1 _;(exact len_cons rfl len_nil);exact bm _;exact bb _;exact rfl;exact rfl)|(apply d_vr;exact rfl;apply v_sliceSlh;exact rfl;exact rfl;exact rfl;omega;omega;exact e2;exact hsl))|refine wk1 ?_|refine wk2 (fun hb hp=> ?_) (fun hb hp=> ?_)|fail))
     refine L.only [3,4,5,6,0] ?_
     refine L.retok 3 98 3 rfl rfl rfl rfl ?_
     refine hK _ (l++ [(c::r).take (j+1)],i+(j+1)) ⟨nxt,by dsimp only;rw[List.length_append];simp only[List.length_cons,List.length_nil];omega,by dsimp only;omega⟩ (by dsimp only;omega) (Wk.mk' (by intro id h;cases h) (.cons rfl (Sub.of_eq (congrArg (AV.row 3) (by rw[List.map_append];rfl))) (.cons rfl (Sub.refl _) (.cons rfl (Sub.refl _) (.cons rfl (Sub.of_eq (congrArg aI (by omega))) (.cons rfl (Sub.refl _) .nil))))) .nil (.cons rfl .nil))
  |false=>
  rw[hp] at kd
  by_cases hq:c=39
  · have q39:((c.toNat:Int)==39)=true:=by rw[hq];rfl
    have htk:tokLen c r=if Lib.indexByte r 39<0 then none else some ((Lib.indexByte r 39).toNat+2):=by unfold tokLen;rw[hp0,hp,if_neg Bool.false_ne_true,if_neg Bool.false_ne_true,if_pos hq]
    (repeat' (first|(refine LW.is ?_;first|(apply s_vr;exact rfl;apply v_indexS;exact rfl;exact rfl;omega;exact gx)|(apply s_callFnK (f:=34) (avs:= [.iv (.im (.int .u8 (c.toNat:Int)))]) (caps:= []);exact rfl;exact hG;exact rfl;exact kl;exact rfl;exact .nil;exact rfl;exact rfl;exact rfl)|(apply s_callFnK (f:=35) (avs:= [.iv (.im (.int .u8 (c.toNat:Int)))]) (caps:= []);exact rfl;exact hG;exact rfl;exact kd;exact rfl;exact .nil;exact rfl;exact rfl;exact rfl))|(refine DR.is ?_;first|(apply d_vr;exact rfl;apply v_indexS;exact rfl;exact rfl;omega;exact gx)|(apply d_callFnK (f:=34) (avs:= [.iv (.im (.int .u8 (c.toNat:Int)))]) (caps:= []);exact rfl;exact hG;exact rfl;exact kl;exact rfl;exact .nil;exact rfl;exact rfl;exact rfl)|(apply d_callFnK (f:=35) (avs:= [.iv (.im (.int .u8 (c.toNat:Int)))]) (caps:= []);exact rfl;exact hG;exact rfl;exact kd;exact rfl;exact .nil;exact rfl;exact rfl;exact rfl))|refine wk1 ?_|refine wk2 (fun hb hp=> ?_) (fun hb hp=> ?_)|fail))
    refine L.loopP (ι:=Nat) (fun n=>⟨[(7,aI ((i+1+n:Nat):Int)),(3,.row 3 (l.map Str.c)),(4,.fn 34 []),(5,.fn 35 []),(6,aI (i:Int)),(0,aS s)],[],[(3,⟨9,1⟩)]⟩) (fun n=>r.length+1 - n) (fun n=>n≤r.length∧ ∀y∈r.take n,(y==39)=false) (i0:=0) ?_ ⟨Nat.zero_le _,by simp⟩ ?_
    · (refine Wk.mk' (by intro id h;cases h) ?_ ?_ ?_<;>repeat' (first|exact WkF.nil|exact WkB.nil|exact WkT.nil|(refine WkF.cons rfl (Sub.refl _) ?_)|(refine WkF.cons rfl (Sub.of_eq (congrArg aI (by omega))) ?_)|(refine WkT.cons rfl ?_)))
    rintro j ⟨hj0,hj⟩ K2 hK2
    cases hx2:r[j]? with
    |none=>
     have hjl:=List.getElem?_eq_none_iff.1 hx2
     have hlt2:decide (((i+1+j:Nat):Int)<(s.length:Int))=false:=decide_eq_false (by omega)
     have heq:(((i+1+j:Nat):Int)==(s.length:Int))=true:=by rw[show i+1+j=s.length by omega];simp
     have hno:=ixb_none (r:=r) (fun y hy=>by
      have:=take_full hj hx2 y hy
      intro e;rw[e] at this;cases this)
     rw[bad (by rw[htk,if_pos hno])]
     clear hK2 hK
     (repeat' (first|(refine LW.is ?_;first|(apply s_append;exact rfl;exact rfl;exact rfl;exact rfl;exact lenS1 _;(exact len_cons rfl len_nil);exact bm _;exact bb _;exact rfl;exact rfl))|(refine DR.is ?_;first|(apply d_append;exact rfl;exact rfl;exact rfl;exact rfl;exact lenS1 _;(exact len_cons rfl len_nil);exact bm _;exact bb _;exact rfl;exact rfl))|refine wk1 ?_|refine wk2 (fun hb hp=> ?_) (fun hb hp=> ?_)|fail))
     all_goals refine wkf ?_
     all_goals(rw[List.map_append];rfl)
    |some b=>
     have hjl:=(List.getElem?_eq_some_iff.1 hx2).1
     have hlt2:decide (((i+1+j:Nat):Int)<(s.length:Int))=true:=decide_eq_true (by omega)
     have gx2:s[((i+1+j:Nat):Int).toNat]?=some b:=by rw[Int.toNat_natCast,←List.getElem?_drop,←er];exact hx2
     by_cases hb2:b=39
     · have z:(!((b.toNat:Int)==39))=false:=by rw[hb2];rfl
       have heq:(((i+1+j:Nat):Int)==(s.length:Int))=false:=beqF (by omega)
       have hat:=ixb_at (r:=r) (j:=j) (by rw[←hb2];exact hx2) (fun y hy=>by
        have:=hj y hy
        intro e;rw[e] at this;cases this)
       have nxt:=next (j+2) (by rw[htk,hat,if_neg (by omega),Int.toNat_natCast])
       have e2:(((i+1+j:Nat):Int)+1)≤(s.length:Int):=by omega
       have hsl:(s.drop ((i:Nat):Int).toNat).take (((((i+1+j:Nat):Int)+1)).toNat - ((i:Nat):Int).toNat)=(c::r).take (j+2):=by
        rw[show((i:Nat):Int).toNat=i from Int.toNat_natCast i,hd];congr 1;omega
       clear hK2
       (repeat' (first|(refine LW.is ?_;first|(apply s_vr;exact rfl;apply v_indexS;exact rfl;exact rfl;omega;exact gx2)|(apply s_append;exact rfl;exact rfl;exact rfl;exact rfl;exact lenS1 _;(exact len_cons rfl len_nil);exact bm _;exact bb _;exact rfl;exact rfl)|(apply s_vr;exact rfl;apply v_sliceSlh;exact rfl;exact rfl;exact rfl;omega;omega;exact e2;exact hsl))|(refine DR.is ?_;first|(apply d_vr;exact rfl;apply v_indexS;exact rfl;exact rfl;omega;exact gx2)|(apply d_append;exact rfl;exact rfl;exact rfl;exact rfl;exact lenS1 _;(exact len_cons rfl len_nil);exact bm _;exact bb _;exact rfl;exact rfl)|(apply d_vr;exact rfl;apply v_sliceSlh;exact rfl;exact rfl;exact rfl;omega;omega;exact e2;exact hsl))|refine wk1 ?_|refine wk2 (fun hb hp=> ?_) (fun hb hp=> ?_)|fail))
       refine L.only [3,4,5,6,0] ?_
       refine L.retok 3 98 3 rfl rfl rfl rfl ?_
       refine hK _ (l++ [(c::r).take (j+2)],i+(j+2)) ⟨nxt,by dsimp only;rw[List.length_append];simp only[List.length_cons,List.length_nil];omega,by dsimp only;omega⟩ (by dsimp only;omega) (Wk.mk' (by intro id h;cases h) (.cons rfl (Sub.of_eq (congrArg (AV.row 3) (by rw[List.map_append];rfl))) (.cons rfl (Sub.refl _) (.cons rfl (Sub.refl _) (.cons rfl (Sub.of_eq (congrArg aI (by omega))) (.cons rfl (Sub.refl _) .nil))))) .nil (.cons rfl .nil))
     · have z:(!((b.toNat:Int)==39))=true:=by rw[show((b.toNat:Int)==39)=false from u8ne (n:=39) (by decide) hb2];rfl
       have hn2: ∀y∈r.take (j+1),(y==39)=false:=take_snoc (p:=fun y=>y==39) hj hx2 (beqF hb2)
       (repeat' (first|(refine LW.is ?_;first|(apply s_vr;exact rfl;apply v_indexS;exact rfl;exact rfl;omega;exact gx2))|(refine DR.is ?_;first|(apply d_vr;exact rfl;apply v_indexS;exact rfl;exact rfl;omega;exact gx2))|refine wk1 ?_|refine wk2 (fun hb hp=> ?_) (fun hb hp=> ?_)|fail))
       refine hK2 _ (j+1) ⟨by omega,hn2⟩ (by omega) ?_
       (refine Wk.mk' (by intro id h;cases h) ?_ ?_ ?_<;>repeat' (first|exact WkF.nil|exact WkB.nil|exact WkT.nil|(refine WkF.cons rfl (Sub.refl _) ?_)|(refine WkF.cons rfl (Sub.of_eq (congrArg aI (by omega))) ?_)|(refine WkT.cons rfl ?_)))
  have q39:((c.toNat:Int)==39)=false:=u8ne (n:=39) (by decide) hq
  have kx:=ixb_any signs c
  have htk:tokLen c r=if 0≤Lib.indexByte signs c then some 1 else none:=by unfold tokLen;rw[hp0,hp,if_neg Bool.false_ne_true,if_neg Bool.false_ne_true,if_neg hq]
  by_cases hsg:0≤Lib.indexByte signs c
  · have z:decide (Lib.indexByte signs c<0)=false:=decide_eq_false (by omega)
    have nxt:=next 1 (by rw[htk,if_pos hsg])
    generalize Lib.indexByte signs c=ix at*
    have e2:(i:Int)+1≤(s.length:Int):=by omega
    have hsl:(s.drop ((i:Nat):Int).toNat).take (((i:Int)+1).toNat - ((i:Nat):Int).toNat)=(c::r).take 1:=by
     rw[show((i:Nat):Int).toNat=i from Int.toNat_natCast i,hd];congr 1;omega
    (repeat' (first|(refine LW.is ?_;first|(apply s_vr;exact rfl;apply v_indexS;exact rfl;exact rfl;omega;exact gx)|(apply s_callFnK (f:=34) (avs:= [.iv (.im (.int .u8 (c.toNat:Int)))]) (caps:= []);exact rfl;exact hG;exact rfl;exact kl;exact rfl;exact .nil;exact rfl;exact rfl;exact rfl)|(apply s_callFnK (f:=35) (avs:= [.iv (.im (.int .u8 (c.toNat:Int)))]) (caps:= []);exact rfl;exact hG;exact rfl;exact kd;exact rfl;exact .nil;exact rfl;exact rfl;exact rfl)|(apply s_append;exact rfl;exact rfl;exact rfl;exact rfl;exact lenS1 _;(exact len_cons rfl len_nil);exact bm _;exact bb _;exact rfl;exact rfl)|(apply s_vr;exact rfl;apply v_sliceSlh;exact rfl;exact rfl;exact rfl;omega;omega;exact e2;exact hsl))|(refine DR.is ?_;first|(apply d_vr;exact rfl;apply v_indexS;exact rfl;exact rfl;omega;exact gx)|(apply d_callFnK (f:=34) (avs:= [.iv (.im (.int .u8 (c.toNat:Int)))]) (caps:= []);exact rfl;exact hG;exact rfl;exact kl;exact rfl;exact .nil;exact rfl;exact rfl;exact rfl)|(apply d_callFnK (f:=35) (avs:= [.iv (.im (.int .u8 (c.toNat:Int)))]) (caps:= []);exact rfl;exact hG;exact rfl;exact kd;exact rfl;exact .nil;exact rfl;exact rfl;exact rfl)|(apply d_append;exact rfl;exact rfl;exact rfl;exact rfl;exact lenS1 _;(exact len_cons rfl len_nil);exact bm _;exact bb _;exact rfl;exact rfl)|(apply d_vr;exact rfl;apply v_sliceSlh;exact rfl;exact rfl;exact rfl;omega;omega;exact e2;exact hsl))|refine wk1 ?_|refine wk2 (fun hb hp=> ?_) (fun hb hp=> ?_)|fail))
    refine L.only [3,4,5,6,0] ?_
    refine L.retok 3 98 3 rfl rfl rfl rfl ?_
    refine hK _ (l++ [(c::r).take 1],i+1) ⟨nxt,by dsimp only;rw[List.length_append];simp only[List.length_cons,List.length_nil];omega,by dsimp only;omega⟩ (by dsimp only;omega) (Wk.mk' (by intro id h;cases h) (.cons rfl (Sub.of_eq (congrArg (AV.row 3) (by rw[List.map_append];rfl))) (.cons rfl (Sub.refl _) (.cons rfl (Sub.refl _) (.cons rfl (Sub.of_eq (congrArg aI (by omega))) (.cons rfl (Sub.refl _) .nil))))) .nil (.cons rfl .nil))
  · have z:decide (Lib.indexByte signs c<0)=true:=decide_eq_true (by omega)
    rw[bad (by rw[htk,if_neg hsg])]
    generalize Lib.indexByte signs c=ix at*
    clear hK
    (repeat' (first|(refine LW.is ?_;first|(apply s_vr;exact rfl;apply v_indexS;exact rfl;exact rfl;omega;exact gx)|(apply s_callFnK (f:=34) (avs:= [.iv (.im (.int .u8 (c.toNat:Int)))]) (caps:= []);exact rfl;exact hG;exact rfl;exact kl;exact rfl;exact .nil;exact rfl;exact rfl;exact rfl)|(apply s_callFnK (f:=35) (avs:= [.iv (.im (.int .u8 (c.toNat:Int)))]) (caps:= []);exact rfl;exact hG;exact rfl;exact kd;exact rfl;exact .nil;exact rfl;exact rfl;exact rfl)|(apply s_append;exact rfl;exact rfl;exact rfl;exact rfl;exact lenS1 _;(exact len_cons rfl len_nil);exact bm _;exact bb _;exact rfl;exact rfl))|(refine DR.is ?_;first|(apply d_vr;exact rfl;apply v_indexS;exact rfl;exact rfl;omega;exact gx)|(apply d_callFnK (f:=34) (avs:= [.iv (.im (.int .u8 (c.toNat:Int)))]) (caps:= []);exact rfl;exact hG;exact rfl;exact kl;exact rfl;exact .nil;exact rfl;exact rfl;exact rfl)|(apply d_callFnK (f:=35) (avs:= [.iv (.im (.int .u8 (c.toNat:Int)))]) (caps:= []);exact rfl;exact hG;exact rfl;exact kd;exact rfl;exact .nil;exact rfl;exact rfl;exact rfl)|(apply d_append;exact rfl;exact rfl;exact rfl;exact rfl;exact lenS1 _;(exact len_cons rfl len_nil);exact bm _;exact bb _;exact rfl;exact rfl))|refine wk1 ?_|refine wk2 (fun hb hp=> ?_) (fun hb hp=> ?_)|fail))
    all_goals refine wkf ?_
    all_goals(rw[List.map_append];rfl)
end Go.Proofs.YtadjbegnlimepaaGreatDoor
