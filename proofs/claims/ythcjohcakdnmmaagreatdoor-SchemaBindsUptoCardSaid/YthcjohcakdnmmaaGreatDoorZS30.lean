/- Several texts in one, each with its own sentence ahead of it. Conditions: each one says its own. -/
import Derived.Test.YthcjohcakdnmmaaGreatDoorZS16
import Derived.Test.YthcjohcakdnmmaaGreatDoorZS25
set_option linter.all false
namespace Go.Proofs.YthcjohcakdnmmaaGreatDoor
open Go.Abs
set_option maxRecDepth 100000
attribute [local irreducible] L Code.wp bodyPost Exit.then Exit.inBlock
set_option linter.unusedVariables false
set_option linter.unusedSimpArgs false
set_option maxHeartbeats 4000000 in
theorem cloneT_any(es:List (List IV))(hk: ∀e∈es,e.length=2)(hne:es≠ [])(hm:es.length≤maxLen)(hl:es.length*40≤140737488355328):
 CallA Tryz.prog 41 [.iv (.sl es)] [] [(1000,⟨47,.r es.flatten 0⟩)] [] (.bsh 1000 0 es.length 2):=by
 refine CallA.intro _ Tryz.func41 rfl Tryz.ntmps41 rfl (fun w0 E0=> ?_)
 (repeat' (first|(refine LW.is ?_;first|(apply s_vr;exact rfl;apply v_eqlNil;exact rfl;exact rfl;exact hne)|(apply s_mkEmpty;exact rfl;exact rfl;exact rfl;exact rfl;exact rfl)|(apply s_cloneR 1000;exact rfl;exact rfl;exact rfl;exact hk;exact hne;exact hm;exact hl;exact rfl))|(refine DR.is ?_;first|(apply d_vr;exact rfl;apply v_eqlNil;exact rfl;exact rfl;exact hne)|(apply d_mkEmpty;exact rfl;exact rfl;exact rfl;exact rfl;exact rfl)|(apply d_cloneR 1000;exact rfl;exact rfl;exact rfl;exact hk;exact hne;exact hm;exact hl;exact rfl))|refine wk1 ?_|refine wk2 (fun hb hp=> ?_) (fun hb hp=> ?_)|fail))
 all_goals(apply L.ends;exact rfl;exact rfl;exact Sub.refl _;exact Wk.mk' (by intro id h;cases h) .nil (.cons rfl rfl (Subs.refl _) .nil) .nil)
set_option maxHeartbeats 4000000 in
theorem cloneT_emp:CallA Tryz.prog 41 [.iv (.sl [])] [] [] [] .emp:=by
 refine CallA.intro _ Tryz.func41 rfl Tryz.ntmps41 rfl (fun w0 E0=> ?_)
 (repeat' (first|(apply s_eqlNil0;exact rfl;exact rfl;exact rfl;rintro (_|_))|(refine LW.is ?_;first|(apply s_mkEmpty;exact rfl;exact rfl;exact rfl;exact rfl;exact rfl)|(apply s_vr;exact rfl;apply v_appE0;exact rfl;exact Sub.bslE _ _;exact rfl))|(refine DR.is ?_;first|(apply d_mkEmpty;exact rfl;exact rfl;exact rfl;exact rfl;exact rfl)|(apply d_vr;exact rfl;apply v_appE0;exact rfl;exact Sub.bslE _ _;exact rfl))|refine wk1 ?_|refine wk2 (fun hb hp=> ?_) (fun hb hp=> ?_)|fail))
 all_goals(apply L.ends;exact rfl;exact rfl;(first|exact Sub.refl _|exact Sub.nilsEmp);exact Wk.mk' (by intro id h;cases h) .nil .nil .nil)
set_option maxRecDepth 100000 in
set_option maxHeartbeats 8000000 in
theorem insertT_any(es:List (List IV))(v:List IV)(i:Nat)(hk: ∀e∈es,e.length=2)(hv:v.length=2)(hne:es≠ [])(hi:i≤es.length)(hm:es.length+1≤maxLen)(hl:(es.length+1)*40≤140737488355328):
 CallA Tryz.prog 46 [.bsh 1000 0 es.length 2,aI (i:Int),.bsl 1001 0 1 1] [(1000,⟨47,.r es.flatten 0⟩),(1001,⟨47,.r [v].flatten 0⟩)] [(1002,⟨47,.r (es.take i++v::es.drop i).flatten 0⟩),(1000,⟨47,.l []⟩),(1001,⟨47,.l []⟩)] [] (.bsh 1002 0 (es.length+1) 2):=by
 have hfl:=flatten_len es hk
 have hpos:0<es.length:=List.length_pos_iff.2 hne
 have hfne:=flat_ne hk (by decide) hne
 have hkv: ∀e∈ [v],e.length=2:=by simpa using hv
 have hvl: [v].flatten.length=2:=by simpa using hv
 have hki:=mem_ins (i:=i) hk hv
 have hli:=len_ins (v:=v) hi
 have hkt: ∀e∈es.take i,e.length=2:=mem_take_len hk
 have hlt:(es.take i).length=i:=by simp;omega
 have hft:=flatten_len _ hkt
 have hk1: ∀e∈es.take i++ [v],e.length=2:=len_app hkt hkv
 have hl1:(es.take i++ [v]).length=i+1:=by simp;omega
 have hk3: ∀e∈es.take (i+1)++es.drop i,e.length=2:=len_app (mem_take_len hk) (mem_drop_len hk)
 have h1v: [v].length=1:=rfl
 have hl3:i<es.length→(es.take (i+1)++es.drop i).length=es.length+1:=fun h=>by simp;omega
 refine CallA.intro _ Tryz.func46 rfl Tryz.ntmps46 rfl (fun w0 E0=> ?_)
 refine L.openRow 0 rfl rfl (.inl hfne) (by omega) (fun cap hc1 hc2=> ?_)
 generalize hmm:cap*2 - es.flatten.length=mm
 have hz:(((1:Nat):Int)==0)=false:=rfl
 by_cases hin:i=es.length
 · have hb:(((i:Nat):Int)==((es.length:Nat):Int))=true:=by simp[hin]
   subst hin
   by_cases hroom:es.length+1≤cap
   · (repeat' (first|(refine LW.is ?_;first|(apply s_vr;exact rfl;apply v_slBl;exact rfl;exact rfl;omega;omega;exact rfl;exact rfl;exact rfl)|(apply s_roomRR (i':=0);exact rfl;exact rfl;exact rfl;exact rfl;exact rfl;exact .inl hfne;exact hk;exact hkv;exact rfl;exact Nat.le_refl 1;omega;exact hroom;exact Nat.le_refl _;omega;exact ins5;exact rfl;exact rfl))|(refine DR.is ?_;first|(apply d_vr;exact rfl;apply v_slBl;exact rfl;exact rfl;omega;omega;exact rfl;exact rfl;exact rfl)|(apply d_roomRR (i':=0);exact rfl;exact rfl;exact rfl;exact rfl;exact rfl;exact .inl hfne;exact hk;exact hkv;exact rfl;exact Nat.le_refl 1;omega;exact hroom;exact Nat.le_refl _;omega;exact ins5;exact rfl;exact rfl))|refine wk1 ?_|refine wk2 (fun hb hp=> ?_) (fun hb hp=> ?_)|fail))
     all_goals(apply L.renameR 6 1002 (k:=2) (n:=es.length+1);exact rfl;exact rfl;exact rfl;exact hki;exact hli;omega;omega)
     all_goals refine L.kill 1001 rfl (row_ne (.inl (flat_ne hkv (by decide) (by simp)))) ?_
     all_goals(apply L.ends;exact rfl;exact rfl;exact Sub.refl _;exact Wk.mk' (by intro id h;simp[keys] at h;rcases h with rfl|rfl<;>rfl) .nil (.cons rfl rfl (Subs.refl _) (.cons rfl rfl (Subs.refl _) (.cons rfl rfl (Subs.refl _) .nil))) .nil)
   · (repeat' (first|(refine LW.is ?_;first|(apply s_vr;exact rfl;apply v_slBl;exact rfl;exact rfl;omega;omega;exact rfl;exact rfl;exact rfl)|(apply s_growRR 1002 (i':=0);exact rfl;exact rfl;exact rfl;exact rfl;exact rfl;exact hk;exact hkv;exact rfl;exact Nat.one_pos;exact Nat.le_refl 1;exact Nat.le_refl _;omega;exact hm;exact hl;exact rfl;exact ins6;exact rfl))|(refine DR.is ?_;first|(apply d_vr;exact rfl;apply v_slBl;exact rfl;exact rfl;omega;omega;exact rfl;exact rfl;exact rfl)|(apply d_growRR 1002 (i':=0);exact rfl;exact rfl;exact rfl;exact rfl;exact rfl;exact hk;exact hkv;exact rfl;exact Nat.one_pos;exact Nat.le_refl 1;exact Nat.le_refl _;omega;exact hm;exact hl;exact rfl;exact ins6;exact rfl))|refine wk1 ?_|refine wk2 (fun hb hp=> ?_) (fun hb hp=> ?_)|fail))
     all_goals refine L.kill 1000 rfl (row_ne (.inl hfne)) ?_
     all_goals refine L.kill 1001 rfl (row_ne (.inl (flat_ne hkv (by decide) (by simp)))) ?_
     all_goals(apply L.ends;exact rfl;exact rfl;exact Sub.refl _;exact Wk.mk' (by intro id h;simp[keys] at h;rcases h with rfl|rfl<;>rfl) .nil (.cons rfl rfl (Subs.refl _) (.cons rfl rfl (Subs.refl _) (.cons rfl rfl (Subs.refl _) .nil))) .nil)
 · have hb:(((i:Nat):Int)==((es.length:Nat):Int))=false:=by simp;omega
   have hilt:i<es.length:=by omega
   have hl3:=hl3 hilt
   by_cases hroom:es.length+1≤cap
   · have hb2:decide ((cap:Int)<(es.length:Int)+((1:Nat):Int))=false:=by simp;omega
     (repeat' (first|(refine LW.is ?_;first|(apply s_vr;exact rfl;apply v_slBl;exact rfl;exact rfl;omega;omega;exact rfl;exact rfl;exact rfl)|(apply s_vr;exact rfl;apply v_slBh;exact rfl;exact rfl;omega;omega;exact rfl)|(apply s_vr;exact rfl;apply v_overlapsR;exact rfl;exact rfl;exact rfl;exact rfl;exact rfl;decide;omega;exact hfne)|(apply s_copyRR (es:=es) (es':=es) (i:=i+1) (i':=i) (cnt:=es.length - i) (er:=es.take (i+1)++es.drop i);exact rfl;exact rfl;exact rfl;exact rfl;exact rfl;exact hk;exact hk;decide;omega;omega;(show min _ _=_;omega);omega;omega;omega;omega;omega;exact ins3 hi;exact rfl)|(apply s_copyRR (es:=es.take (i+1)++es.drop i) (es':= [v]) (i:=i) (i':=0) (cnt:=1) (er:=es.take i++v::es.drop i);exact rfl;exact rfl;exact rfl;exact rfl;exact rfl;exact hk3;exact hkv;decide;omega;exact rfl;(show min _ _=_;omega);decide;omega;omega;(simp;omega);(simp;omega);exact ins4 hilt;exact rfl))|(refine DR.is ?_;first|(apply d_vr;exact rfl;apply v_slBl;exact rfl;exact rfl;omega;omega;exact rfl;exact rfl;exact rfl)|(apply d_vr;exact rfl;apply v_slBh;exact rfl;exact rfl;omega;omega;exact rfl)|(apply d_vr;exact rfl;apply v_overlapsR;exact rfl;exact rfl;exact rfl;exact rfl;exact rfl;decide;omega;exact hfne)|(apply d_copyRR (es:=es) (es':=es) (i:=i+1) (i':=i) (cnt:=es.length - i) (er:=es.take (i+1)++es.drop i);exact rfl;exact rfl;exact rfl;exact rfl;exact rfl;exact hk;exact hk;decide;omega;omega;(show min _ _=_;omega);omega;omega;omega;omega;omega;exact ins3 hi;exact rfl)|(apply d_copyRR (es:=es.take (i+1)++es.drop i) (es':= [v]) (i:=i) (i':=0) (cnt:=1) (er:=es.take i++v::es.drop i);exact rfl;exact rfl;exact rfl;exact rfl;exact rfl;exact hk3;exact hkv;decide;omega;exact rfl;(show min _ _=_;omega);decide;omega;omega;(simp;omega);(simp;omega);exact ins4 hilt;exact rfl))|refine wk1 ?_|refine wk2 (fun hb hp=> ?_) (fun hb hp=> ?_)|fail))
     all_goals(apply L.renameR 6 1002 (k:=2) (n:=es.length+1);exact rfl;exact rfl;exact rfl;exact hki;exact hli;omega;omega)
     all_goals refine L.kill 1001 rfl (row_ne (.inl (flat_ne hkv (by decide) (by simp)))) ?_
     all_goals(apply L.ends;exact rfl;exact rfl;exact Sub.refl _;exact Wk.mk' (by intro id h;simp[keys] at h;rcases h with rfl|rfl<;>rfl) .nil (.cons rfl rfl (Subs.refl _) (.cons rfl rfl (Subs.refl _) (.cons rfl rfl (Subs.refl _) .nil))) .nil)
   · have hb2:decide ((cap:Int)<(es.length:Int)+((1:Nat):Int))=true:=by simp;omega
     (repeat' (first|(refine L.openRow 9 (id:=2000) (n:=es.length+1) (k:=2) (ty:=47) (xs:=(es.take i).flatten) (m:=(es.length+1 - i)*2) rfl rfl (.inr (by omega)) (by omega) (fun cap2 hd1 hd2=> ?_))|(refine LW.is ?_;first|(apply s_vr;exact rfl;apply v_slBl;exact rfl;exact rfl;omega;omega;exact rfl;exact rfl;exact rfl)|(apply s_vr;exact rfl;apply v_slBh;exact rfl;exact rfl;omega;omega;exact rfl)|(apply s_growRZ 2000 (n:=i) (m:=es.length+1 - i) (nr:=es.length+1);exact rfl;exact rfl;exact rfl;omega;exact rfl;exact hk;omega;omega;omega;omega;omega;exact rfl;exact rfl;omega;exact rfl)|(apply s_copyRR (es:=es.take i) (es':= [v]) (i:=i) (i':=0) (cnt:=1) (er:=es.take i++ [v]);exact rfl;exact rfl;exact rfl;exact rfl;exact rfl;exact hkt;exact hkv;decide;omega;exact rfl;(show min _ _=_;omega);decide;omega;omega;omega;omega;exact ins1 hi;exact rfl)|(apply s_copyRR (es:=es.take i++ [v]) (es':=es) (i:=i+1) (i':=i) (cnt:=es.length - i) (er:=es.take i++v::es.drop i);exact rfl;exact rfl;exact rfl;exact rfl;exact rfl;exact hk1;exact hk;decide;omega;omega;(show min _ _=_;omega);omega;omega;omega;omega;omega;exact ins2 hi;exact rfl))|(refine DR.is ?_;first|(apply d_vr;exact rfl;apply v_slBl;exact rfl;exact rfl;omega;omega;exact rfl;exact rfl;exact rfl)|(apply d_vr;exact rfl;apply v_slBh;exact rfl;exact rfl;omega;omega;exact rfl)|(apply d_growRZ 2000 (n:=i) (m:=es.length+1 - i) (nr:=es.length+1);exact rfl;exact rfl;exact rfl;omega;exact rfl;exact hk;omega;omega;omega;omega;omega;exact rfl;exact rfl;omega;exact rfl)|(apply d_copyRR (es:=es.take i) (es':= [v]) (i:=i) (i':=0) (cnt:=1) (er:=es.take i++ [v]);exact rfl;exact rfl;exact rfl;exact rfl;exact rfl;exact hkt;exact hkv;decide;omega;exact rfl;(show min _ _=_;omega);decide;omega;omega;omega;omega;exact ins1 hi;exact rfl)|(apply d_copyRR (es:=es.take i++ [v]) (es':=es) (i:=i+1) (i':=i) (cnt:=es.length - i) (er:=es.take i++v::es.drop i);exact rfl;exact rfl;exact rfl;exact rfl;exact rfl;exact hk1;exact hk;decide;omega;omega;(show min _ _=_;omega);omega;omega;omega;omega;omega;exact ins2 hi;exact rfl))|refine wk1 ?_|refine wk2 (fun hb hp=> ?_) (fun hb hp=> ?_)|fail))
     all_goals(apply L.renameR 6 1002 (k:=2) (n:=es.length+1);exact rfl;exact rfl;exact rfl;exact hki;exact hli;omega;omega)
     all_goals refine L.kill 1000 rfl (row_ne (.inl hfne)) ?_
     all_goals refine L.kill 1001 rfl (row_ne (.inl (flat_ne hkv (by decide) (by simp)))) ?_
     all_goals(apply L.ends;exact rfl;exact rfl;exact Sub.refl _;exact Wk.mk' (by intro id h;simp[keys] at h;rcases h with rfl|rfl<;>rfl) .nil (.cons rfl rfl (Subs.refl _) (.cons rfl rfl (Subs.refl _) (.cons rfl rfl (Subs.refl _) .nil))) .nil)
set_option maxHeartbeats 4000000 in
theorem insertT_emp(v:List IV)(hv:v.length=2):
 CallA Tryz.prog 46 [.emp,aI 0,.iv (.sl [v])] [] [] [] (.iv (.sl [v])):=by
 have hkv: ∀e∈ [v],e.length=2:=by simpa using hv
 refine CallA.intro _ Tryz.func46 rfl Tryz.ntmps46 rfl (fun w0 E0=> ?_)
 (repeat' (first|(apply s_appendE;exact rfl;exact rfl;exact rfl;exact hkv;exact List.cons_ne_nil _ _;exact(by simp[maxLen]);exact(by simp);exact rfl)|(refine LW.is ?_;first|(apply s_vr;exact rfl;apply v_sliceVl;exact rfl;exact rfl;exact len_nil;decide;decide;exact rfl))|(refine DR.is ?_;first|(apply d_vr;exact rfl;apply v_sliceVl;exact rfl;exact rfl;exact len_nil;decide;decide;exact rfl))|refine wk1 ?_|refine wk2 (fun hb hp=> ?_) (fun hb hp=> ?_)|fail))
 all_goals refine wkf ?_
 all_goals rfl
set_option maxHeartbeats 4000000 in
theorem cloneX_any(es:List (List IV))(hk: ∀e∈es,e.length=3)(hne:es≠ [])(hm:es.length≤maxLen)(hl:es.length*48≤140737488355328):
 CallA Tryz.prog 42 [.iv (.sl es)] [] [(1000,⟨64,.r es.flatten 0⟩)] [] (.bsh 1000 0 es.length 3):=by
 refine CallA.intro _ Tryz.func42 rfl Tryz.ntmps42 rfl (fun w0 E0=> ?_)
 (repeat' (first|(refine LW.is ?_;first|(apply s_vr;exact rfl;apply v_eqlNil;exact rfl;exact rfl;exact hne)|(apply s_mkEmpty;exact rfl;exact rfl;exact rfl;exact rfl;exact rfl)|(apply s_cloneR 1000;exact rfl;exact rfl;exact rfl;exact hk;exact hne;exact hm;exact hl;exact rfl))|(refine DR.is ?_;first|(apply d_vr;exact rfl;apply v_eqlNil;exact rfl;exact rfl;exact hne)|(apply d_mkEmpty;exact rfl;exact rfl;exact rfl;exact rfl;exact rfl)|(apply d_cloneR 1000;exact rfl;exact rfl;exact rfl;exact hk;exact hne;exact hm;exact hl;exact rfl))|refine wk1 ?_|refine wk2 (fun hb hp=> ?_) (fun hb hp=> ?_)|fail))
 all_goals(apply L.ends;exact rfl;exact rfl;exact Sub.refl _;exact Wk.mk' (by intro id h;cases h) .nil (.cons rfl rfl (Subs.refl _) .nil) .nil)
set_option maxHeartbeats 4000000 in
theorem cloneX_emp:CallA Tryz.prog 42 [.iv (.sl [])] [] [] [] .emp:=by
 refine CallA.intro _ Tryz.func42 rfl Tryz.ntmps42 rfl (fun w0 E0=> ?_)
 (repeat' (first|(apply s_eqlNil0;exact rfl;exact rfl;exact rfl;rintro (_|_))|(refine LW.is ?_;first|(apply s_mkEmpty;exact rfl;exact rfl;exact rfl;exact rfl;exact rfl)|(apply s_vr;exact rfl;apply v_appE0;exact rfl;exact Sub.bslE _ _;exact rfl))|(refine DR.is ?_;first|(apply d_mkEmpty;exact rfl;exact rfl;exact rfl;exact rfl;exact rfl)|(apply d_vr;exact rfl;apply v_appE0;exact rfl;exact Sub.bslE _ _;exact rfl))|refine wk1 ?_|refine wk2 (fun hb hp=> ?_) (fun hb hp=> ?_)|fail))
 all_goals(apply L.ends;exact rfl;exact rfl;(first|exact Sub.refl _|exact Sub.nilsEmp);exact Wk.mk' (by intro id h;cases h) .nil .nil .nil)
set_option maxRecDepth 100000 in
set_option maxHeartbeats 8000000 in
theorem insertX_any(es:List (List IV))(v:List IV)(i:Nat)(hk: ∀e∈es,e.length=3)(hv:v.length=3)(hne:es≠ [])(hi:i≤es.length)(hm:es.length+1≤maxLen)(hl:(es.length+1)*48≤140737488355328):
 CallA Tryz.prog 49 [.bsh 1000 0 es.length 3,aI (i:Int),.bsl 1001 0 1 1] [(1000,⟨64,.r es.flatten 0⟩),(1001,⟨64,.r [v].flatten 0⟩)] [(1002,⟨64,.r (es.take i++v::es.drop i).flatten 0⟩),(1000,⟨64,.l []⟩),(1001,⟨64,.l []⟩)] [] (.bsh 1002 0 (es.length+1) 3):=by
 have hfl:=flatten_len es hk
 have hpos:0<es.length:=List.length_pos_iff.2 hne
 have hfne:=flat_ne hk (by decide) hne
 have hkv: ∀e∈ [v],e.length=3:=by simpa using hv
 have hvl: [v].flatten.length=3:=by simpa using hv
 have hki:=mem_ins (i:=i) hk hv
 have hli:=len_ins (v:=v) hi
 have hkt: ∀e∈es.take i,e.length=3:=mem_take_len hk
 have hlt:(es.take i).length=i:=by simp;omega
 have hft:=flatten_len _ hkt
 have hk1: ∀e∈es.take i++ [v],e.length=3:=len_app hkt hkv
 have hl1:(es.take i++ [v]).length=i+1:=by simp;omega
 have hk3: ∀e∈es.take (i+1)++es.drop i,e.length=3:=len_app (mem_take_len hk) (mem_drop_len hk)
 have h1v: [v].length=1:=rfl
 have hl3:i<es.length→(es.take (i+1)++es.drop i).length=es.length+1:=fun h=>by simp;omega
 refine CallA.intro _ Tryz.func49 rfl Tryz.ntmps49 rfl (fun w0 E0=> ?_)
 refine L.openRow 0 rfl rfl (.inl hfne) (by omega) (fun cap hc1 hc2=> ?_)
 generalize hmm:cap*3 - es.flatten.length=mm
 have hz:(((1:Nat):Int)==0)=false:=rfl
 by_cases hin:i=es.length
 · have hb:(((i:Nat):Int)==((es.length:Nat):Int))=true:=by simp[hin]
   subst hin
   by_cases hroom:es.length+1≤cap
   · (repeat' (first|(refine LW.is ?_;first|(apply s_vr;exact rfl;apply v_slBl;exact rfl;exact rfl;omega;omega;exact rfl;exact rfl;exact rfl)|(apply s_roomRR (i':=0);exact rfl;exact rfl;exact rfl;exact rfl;exact rfl;exact .inl hfne;exact hk;exact hkv;exact rfl;exact Nat.le_refl 1;omega;exact hroom;exact Nat.le_refl _;omega;exact ins5;exact rfl;exact rfl))|(refine DR.is ?_;first|(apply d_vr;exact rfl;apply v_slBl;exact rfl;exact rfl;omega;omega;exact rfl;exact rfl;exact rfl)|(apply d_roomRR (i':=0);exact rfl;exact rfl;exact rfl;exact rfl;exact rfl;exact .inl hfne;exact hk;exact hkv;exact rfl;exact Nat.le_refl 1;omega;exact hroom;exact Nat.le_refl _;omega;exact ins5;exact rfl;exact rfl))|refine wk1 ?_|refine wk2 (fun hb hp=> ?_) (fun hb hp=> ?_)|fail))
     all_goals(apply L.renameR 6 1002 (k:=3) (n:=es.length+1);exact rfl;exact rfl;exact rfl;exact hki;exact hli;omega;omega)
     all_goals refine L.kill 1001 rfl (row_ne (.inl (flat_ne hkv (by decide) (by simp)))) ?_
     all_goals(apply L.ends;exact rfl;exact rfl;exact Sub.refl _;exact Wk.mk' (by intro id h;simp[keys] at h;rcases h with rfl|rfl<;>rfl) .nil (.cons rfl rfl (Subs.refl _) (.cons rfl rfl (Subs.refl _) (.cons rfl rfl (Subs.refl _) .nil))) .nil)
   · (repeat' (first|(refine LW.is ?_;first|(apply s_vr;exact rfl;apply v_slBl;exact rfl;exact rfl;omega;omega;exact rfl;exact rfl;exact rfl)|(apply s_growRR 1002 (i':=0);exact rfl;exact rfl;exact rfl;exact rfl;exact rfl;exact hk;exact hkv;exact rfl;exact Nat.one_pos;exact Nat.le_refl 1;exact Nat.le_refl _;omega;exact hm;exact hl;exact rfl;exact ins6;exact rfl))|(refine DR.is ?_;first|(apply d_vr;exact rfl;apply v_slBl;exact rfl;exact rfl;omega;omega;exact rfl;exact rfl;exact rfl)|(apply d_growRR 1002 (i':=0);exact rfl;exact rfl;exact rfl;exact rfl;exact rfl;exact hk;exact hkv;exact rfl;exact Nat.one_pos;exact Nat.le_refl 1;exact Nat.le_refl _;omega;exact hm;exact hl;exact rfl;exact ins6;exact rfl))|refine wk1 ?_|refine wk2 (fun hb hp=> ?_) (fun hb hp=> ?_)|fail))
     all_goals refine L.kill 1000 rfl (row_ne (.inl hfne)) ?_
     all_goals refine L.kill 1001 rfl (row_ne (.inl (flat_ne hkv (by decide) (by simp)))) ?_
     all_goals(apply L.ends;exact rfl;exact rfl;exact Sub.refl _;exact Wk.mk' (by intro id h;simp[keys] at h;rcases h with rfl|rfl<;>rfl) .nil (.cons rfl rfl (Subs.refl _) (.cons rfl rfl (Subs.refl _) (.cons rfl rfl (Subs.refl _) .nil))) .nil)
 · have hb:(((i:Nat):Int)==((es.length:Nat):Int))=false:=by simp;omega
   have hilt:i<es.length:=by omega
   have hl3:=hl3 hilt
   by_cases hroom:es.length+1≤cap
   · have hb2:decide ((cap:Int)<(es.length:Int)+((1:Nat):Int))=false:=by simp;omega
     (repeat' (first|(refine LW.is ?_;first|(apply s_vr;exact rfl;apply v_slBl;exact rfl;exact rfl;omega;omega;exact rfl;exact rfl;exact rfl)|(apply s_vr;exact rfl;apply v_slBh;exact rfl;exact rfl;omega;omega;exact rfl)|(apply s_vr;exact rfl;apply v_overlapsR;exact rfl;exact rfl;exact rfl;exact rfl;exact rfl;decide;omega;exact hfne)|(apply s_copyRR (es:=es) (es':=es) (i:=i+1) (i':=i) (cnt:=es.length - i) (er:=es.take (i+1)++es.drop i);exact rfl;exact rfl;exact rfl;exact rfl;exact rfl;exact hk;exact hk;decide;omega;omega;(show min _ _=_;omega);omega;omega;omega;omega;omega;exact ins3 hi;exact rfl)|(apply s_copyRR (es:=es.take (i+1)++es.drop i) (es':= [v]) (i:=i) (i':=0) (cnt:=1) (er:=es.take i++v::es.drop i);exact rfl;exact rfl;exact rfl;exact rfl;exact rfl;exact hk3;exact hkv;decide;omega;exact rfl;(show min _ _=_;omega);decide;omega;omega;(simp;omega);(simp;omega);exact ins4 hilt;exact rfl))|(refine DR.is ?_;first|(apply d_vr;exact rfl;apply v_slBl;exact rfl;exact rfl;omega;omega;exact rfl;exact rfl;exact rfl)|(apply d_vr;exact rfl;apply v_slBh;exact rfl;exact rfl;omega;omega;exact rfl)|(apply d_vr;exact rfl;apply v_overlapsR;exact rfl;exact rfl;exact rfl;exact rfl;exact rfl;decide;omega;exact hfne)|(apply d_copyRR (es:=es) (es':=es) (i:=i+1) (i':=i) (cnt:=es.length - i) (er:=es.take (i+1)++es.drop i);exact rfl;exact rfl;exact rfl;exact rfl;exact rfl;exact hk;exact hk;decide;omega;omega;(show min _ _=_;omega);omega;omega;omega;omega;omega;exact ins3 hi;exact rfl)|(apply d_copyRR (es:=es.take (i+1)++es.drop i) (es':= [v]) (i:=i) (i':=0) (cnt:=1) (er:=es.take i++v::es.drop i);exact rfl;exact rfl;exact rfl;exact rfl;exact rfl;exact hk3;exact hkv;decide;omega;exact rfl;(show min _ _=_;omega);decide;omega;omega;(simp;omega);(simp;omega);exact ins4 hilt;exact rfl))|refine wk1 ?_|refine wk2 (fun hb hp=> ?_) (fun hb hp=> ?_)|fail))
     all_goals(apply L.renameR 6 1002 (k:=3) (n:=es.length+1);exact rfl;exact rfl;exact rfl;exact hki;exact hli;omega;omega)
     all_goals refine L.kill 1001 rfl (row_ne (.inl (flat_ne hkv (by decide) (by simp)))) ?_
     all_goals(apply L.ends;exact rfl;exact rfl;exact Sub.refl _;exact Wk.mk' (by intro id h;simp[keys] at h;rcases h with rfl|rfl<;>rfl) .nil (.cons rfl rfl (Subs.refl _) (.cons rfl rfl (Subs.refl _) (.cons rfl rfl (Subs.refl _) .nil))) .nil)
   · have hb2:decide ((cap:Int)<(es.length:Int)+((1:Nat):Int))=true:=by simp;omega
     (repeat' (first|(refine L.openRow 9 (id:=2000) (n:=es.length+1) (k:=3) (ty:=64) (xs:=(es.take i).flatten) (m:=(es.length+1 - i)*3) rfl rfl (.inr (by omega)) (by omega) (fun cap2 hd1 hd2=> ?_))|(refine LW.is ?_;first|(apply s_vr;exact rfl;apply v_slBl;exact rfl;exact rfl;omega;omega;exact rfl;exact rfl;exact rfl)|(apply s_vr;exact rfl;apply v_slBh;exact rfl;exact rfl;omega;omega;exact rfl)|(apply s_growRZ 2000 (n:=i) (m:=es.length+1 - i) (nr:=es.length+1);exact rfl;exact rfl;exact rfl;omega;exact rfl;exact hk;omega;omega;omega;omega;omega;exact rfl;exact rfl;omega;exact rfl)|(apply s_copyRR (es:=es.take i) (es':= [v]) (i:=i) (i':=0) (cnt:=1) (er:=es.take i++ [v]);exact rfl;exact rfl;exact rfl;exact rfl;exact rfl;exact hkt;exact hkv;decide;omega;exact rfl;(show min _ _=_;omega);decide;omega;omega;omega;omega;exact ins1 hi;exact rfl)|(apply s_copyRR (es:=es.take i++ [v]) (es':=es) (i:=i+1) (i':=i) (cnt:=es.length - i) (er:=es.take i++v::es.drop i);exact rfl;exact rfl;exact rfl;exact rfl;exact rfl;exact hk1;exact hk;decide;omega;omega;(show min _ _=_;omega);omega;omega;omega;omega;omega;exact ins2 hi;exact rfl))|(refine DR.is ?_;first|(apply d_vr;exact rfl;apply v_slBl;exact rfl;exact rfl;omega;omega;exact rfl;exact rfl;exact rfl)|(apply d_vr;exact rfl;apply v_slBh;exact rfl;exact rfl;omega;omega;exact rfl)|(apply d_growRZ 2000 (n:=i) (m:=es.length+1 - i) (nr:=es.length+1);exact rfl;exact rfl;exact rfl;omega;exact rfl;exact hk;omega;omega;omega;omega;omega;exact rfl;exact rfl;omega;exact rfl)|(apply d_copyRR (es:=es.take i) (es':= [v]) (i:=i) (i':=0) (cnt:=1) (er:=es.take i++ [v]);exact rfl;exact rfl;exact rfl;exact rfl;exact rfl;exact hkt;exact hkv;decide;omega;exact rfl;(show min _ _=_;omega);decide;omega;omega;omega;omega;exact ins1 hi;exact rfl)|(apply d_copyRR (es:=es.take i++ [v]) (es':=es) (i:=i+1) (i':=i) (cnt:=es.length - i) (er:=es.take i++v::es.drop i);exact rfl;exact rfl;exact rfl;exact rfl;exact rfl;exact hk1;exact hk;decide;omega;omega;(show min _ _=_;omega);omega;omega;omega;omega;omega;exact ins2 hi;exact rfl))|refine wk1 ?_|refine wk2 (fun hb hp=> ?_) (fun hb hp=> ?_)|fail))
     all_goals(apply L.renameR 6 1002 (k:=3) (n:=es.length+1);exact rfl;exact rfl;exact rfl;exact hki;exact hli;omega;omega)
     all_goals refine L.kill 1000 rfl (row_ne (.inl hfne)) ?_
     all_goals refine L.kill 1001 rfl (row_ne (.inl (flat_ne hkv (by decide) (by simp)))) ?_
     all_goals(apply L.ends;exact rfl;exact rfl;exact Sub.refl _;exact Wk.mk' (by intro id h;simp[keys] at h;rcases h with rfl|rfl<;>rfl) .nil (.cons rfl rfl (Subs.refl _) (.cons rfl rfl (Subs.refl _) (.cons rfl rfl (Subs.refl _) .nil))) .nil)
set_option maxHeartbeats 4000000 in
theorem insertX_emp(v:List IV)(hv:v.length=3):
 CallA Tryz.prog 49 [.emp,aI 0,.iv (.sl [v])] [] [] [] (.iv (.sl [v])):=by
 have hkv: ∀e∈ [v],e.length=3:=by simpa using hv
 refine CallA.intro _ Tryz.func49 rfl Tryz.ntmps49 rfl (fun w0 E0=> ?_)
 (repeat' (first|(apply s_appendE;exact rfl;exact rfl;exact rfl;exact hkv;exact List.cons_ne_nil _ _;exact(by simp[maxLen]);exact(by simp);exact rfl)|(refine LW.is ?_;first|(apply s_vr;exact rfl;apply v_sliceVl;exact rfl;exact rfl;exact len_nil;decide;decide;exact rfl))|(refine DR.is ?_;first|(apply d_vr;exact rfl;apply v_sliceVl;exact rfl;exact rfl;exact len_nil;decide;decide;exact rfl))|refine wk1 ?_|refine wk2 (fun hb hp=> ?_) (fun hb hp=> ?_)|fail))
 all_goals refine wkf ?_
 all_goals rfl
end Go.Proofs.YthcjohcakdnmmaaGreatDoor
