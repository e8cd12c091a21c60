/- Several texts in one, each with its own sentence ahead of it. Conditions: each one says its own. -/
import Derived.Test.YthcjohcakdnmmaaGreatDoorZS17
import Derived.Test.YthcjohcakdnmmaaGreatDoorZS22
set_option linter.all false
namespace Go.Proofs.YthcjohcakdnmmaaGreatDoor
open Go.Abs
set_option maxRecDepth 100000
attribute [local irreducible] L Code.wp bodyPost Exit.then Exit.inBlock
set_option linter.unusedVariables false
set_option linter.unusedSimpArgs false
def mustM(ts:List Tab)(e:Ex)(k:Int):Ex×Int:=
 if(bindM ts e).2.2≠0 then(nilE,(bindM ts e).2.2)
 else if((bindM ts e).2.1 !=k) && ((bindM ts e).2.1 !=0) then(nilE,5) else((bindM ts e).1,0)
def whereM(ts:List Tab)(e:Ex):Ex×Int:=if e.op=0 then(e,0) else mustM ts e 3
theorem must_any(ts:List Tab)(hs:Sc ts)(e:Ex)(hok:e.Ok)(k:Int):
 CallA Tryz.prog 60 [.iv (.sl (ts.map Tab.c)),.agg (e.cs.map .iv),aI k] [] [] [] (.tup [.agg ((mustM ts e k).1.cs.map .iv),.iv (I (mustM ts e k).2)]):=by
 have kb:=bind_any ts hs e hok
 unfold mustM
 generalize bindM ts e=r at*
 obtain⟨b,t,f⟩:=r
 dsimp only at kb⊢
 obtain⟨op,v,s,name,n,l⟩:=e
 have hc:(Ex.mk op v s name n l).cs= [I op,I v.k,I v.n,S v.s,S s,S name,I n,.sl (l.map Ex.c)]:=rfl
 rw[hc] at kb⊢
 refine CallA.intro _ Tryz.func60 rfl Tryz.ntmps60 rfl (fun w0 E0=> ?_)
 by_cases hf:f=0
 · have q:(f !=0)=false:=by simp[hf]
   rw[if_neg (by simp[hf])]
   cases h1:t !=k with
   |false=>
    rw[Bool.false_and,if_neg (by simp)]
    (repeat' (first|refine wk1 ?_|refine wk2 (fun hb hp=> ?_) (fun hb hp=> ?_)|fail))
    all_goals refine wkf ?_
    all_goals rfl
   |true=>
    cases h2:t !=0 with
    |false=>
     rw[Bool.and_false,if_neg (by simp)]
     (repeat' (first|refine wk1 ?_|refine wk2 (fun hb hp=> ?_) (fun hb hp=> ?_)|fail))
     all_goals refine wkf ?_
     all_goals rfl
    |true=>
     rw[Bool.and_true,if_pos rfl]
     (repeat' (first|refine wk1 ?_|refine wk2 (fun hb hp=> ?_) (fun hb hp=> ?_)|fail))
     all_goals refine wkf ?_
     all_goals rfl
 · have q:(f !=0)=true:=by simp[hf]
   rw[if_pos hf]
   (repeat' (first|refine wk1 ?_|refine wk2 (fun hb hp=> ?_) (fun hb hp=> ?_)|fail))
   all_goals refine wkf ?_
   all_goals rfl
theorem where_any(ts:List Tab)(hs:Sc ts)(e:Ex)(hok:e.Ok):
 CallA Tryz.prog 63 [.iv (.sl (ts.map Tab.c)),.agg (e.cs.map .iv)] [] [] [] (.tup [.agg ((whereM ts e).1.cs.map .iv),.iv (I (whereM ts e).2)]):=by
 have kb:=must_any ts hs e hok 3
 unfold whereM
 generalize mustM ts e 3=r at*
 obtain⟨b,f⟩:=r
 dsimp only at kb⊢
 obtain⟨op,v,s,name,n,l⟩:=e
 have hc:(Ex.mk op v s name n l).cs= [I op,I v.k,I v.n,S v.s,S s,S name,I n,.sl (l.map Ex.c)]:=rfl
 have ho:(Ex.mk op v s name n l).op=op:=rfl
 rw[ho]
 refine CallA.intro _ Tryz.func63 rfl Tryz.ntmps63 rfl (fun w0 E0=> ?_)
 by_cases h0:op=0
 · have q:(op==0)=true:=by simp[h0]
   rw[if_pos h0,hc]
   rw[hc] at kb
   (repeat' (first|refine wk1 ?_|refine wk2 (fun hb hp=> ?_) (fun hb hp=> ?_)|fail))
   all_goals refine wkf ?_
   all_goals rfl
 · have q:(op==0)=false:=by simp[h0]
   rw[if_neg h0,hc]
   rw[hc] at kb
   (repeat' (first|refine wk1 ?_|refine wk2 (fun hb hp=> ?_) (fun hb hp=> ?_)|fail))
   all_goals refine wkf ?_
   all_goals rfl
inductive Ex.OkS:Ex→Prop
 |mk {op:Int} {v:Val} {s name:List UInt8} {n:Int} {l:List Ex} (hl:l.length*104≤140737488355328) (hs:s.length≤140737488355328) (hn:name.length≤140737488355328) (h: ∀x∈l,x.OkS):Ex.OkS (.mk op v s name n l)
def tblE:List (Int×Int):= [(1,0),(2,0),(3,2),(4,2),(5,2),(6,2),(7,2),(8,2),(9,1),(10,1)]
def bad2M(op:Int)(v:Val)(s name:Str):Bool:=((op==1) && !goodM v)||((op==2) && !(namedM name && ((s== [])||namedM s)))
def goodExM(d:Int):Ex→Bool
 | .mk op v s name n l=>match lookM tblE op with
   |none=>false
   |some k=> !(((l.length:Int) !=k)||decide (40<d)) && (!bad2M op v s name && !((l.attach.map fun x=>goodExM (d+1) x.1).any (fun b=> !b)))
 decreasing_by
  have:=List.sizeOf_lt_of_mem x.2
  simp;omega
theorem goodExM_eq(d op:Int)(v:Val)(s name:Str)(n:Int)(l:List Ex):goodExM d (.mk op v s name n l)=match lookM tblE op with
 |none=>false
 |some k=> !(((l.length:Int) !=k)||decide (40<d)) && (!bad2M op v s name && !(l.any (fun x=> !goodExM (d+1) x))):=by
 rw[goodExM]
 have e:(l.attach.map fun x=>goodExM (d+1) x.1)=l.map (goodExM (d+1)):=by simp
 rw[e,List.any_map];rfl
theorem mapTy_int:MapTy Tryz.prog 95:=⟨3,3,by kernel_rfl,by kernel_rfl,by kernel_rfl⟩
theorem goodEx1_any{d:Int}(hd:d≤40)(hd0:0≤d){x:Ex}{b:Bool}(h:CallG gs0 Tryz.prog 25 [.agg (x.cs.map .iv),aI (d+1)] [] [] [] (aB b)):
 CallG gs0 Tryz.prog 57 [.agg (x.cs.map .iv),.ptr 1000 0] [(1000,⟨3,.l [aI d]⟩)] [(1000,⟨3,.l [aI d]⟩)] [] (aB (!b)):=by
 refine CallG.intro _ Tryz.func57 rfl Tryz.ntmps57 rfl (fun w0 E0 hG=> ?_)
 (repeat' (first|refine wk1 ?_|refine wk2 (fun hb hp=> ?_) (fun hb hp=> ?_)|fail))
 all_goals(apply L.ends;exact rfl;exact rfl;exact Sub.refl _;exact Wk.mk' (by intro id h;simp[keys] at h;subst h;rfl) .nil (.cons rfl rfl (Subs.refl _) .nil) .nil)
set_option maxHeartbeats 8000000 in
theorem goodEx_any: ∀(e:Ex) (hok:e.OkS) (d:Int) (hd0:0≤d) (hd:d≤41),CallG gs0 Tryz.prog 25 [.agg (e.cs.map .iv),aI d] [] [] [] (aB (goodExM d e))
 | .mk op v s name n l,hok,d,hd0,hd=>by
   have ih:d≤40→ ∀x∈l,CallG gs0 Tryz.prog 25 [.agg (x.cs.map .iv),aI (d+1)] [] [] [] (aB (goodExM (d+1) x)):=fun h40 x hx=>goodEx_any x (by cases hok with|mk _ _ _ h=>exact h x hx) (d+1) (by omega) (by omega)
   obtain⟨hl,hsl,hnl⟩:l.length*104≤140737488355328∧s.length≤140737488355328∧name.length≤140737488355328:=by cases hok with|mk hl hs hn _=>exact⟨hl,hs,hn⟩
   have hc:(Ex.mk op v s name n l).cs= [I op,I v.k,I v.n,S v.s,S s,S name,I n,.sl (l.map Ex.c)]:=rfl
   rw[goodExM_eq,hc]
   clear hc hok
   have kn:=named_any name hnl
   have ks:=named_any s hsl
   have kv:=good_any v
   have ll:(((l.map Ex.c).length:Nat):Int)=(l.length:Int):=by simp
   refine CallG.intro _ Tryz.func25 rfl Tryz.ntmps25 rfl (fun w0 E0 hG=> ?_)
   (repeat' (first|refine wk1 ?_|refine wk2 (fun hb hp=> ?_) (fun hb hp=> ?_)|fail))
   refine LW.mk (LM.make rfl rfl rfl rfl (fun b=> ?_))
   refine LM.insert rfl rfl rfl rfl rfl rfl mapTy_int rfl ?_
   refine LM.insert rfl rfl rfl rfl rfl rfl mapTy_int rfl ?_
   refine LM.insert rfl rfl rfl rfl rfl rfl mapTy_int rfl ?_
   refine LM.insert rfl rfl rfl rfl rfl rfl mapTy_int rfl ?_
   refine LM.insert rfl rfl rfl rfl rfl rfl mapTy_int rfl ?_
   refine LM.insert rfl rfl rfl rfl rfl rfl mapTy_int rfl ?_
   refine LM.insert rfl rfl rfl rfl rfl rfl mapTy_int rfl ?_
   refine LM.insert rfl rfl rfl rfl rfl rfl mapTy_int rfl ?_
   refine LM.insert rfl rfl rfl rfl rfl rfl mapTy_int rfl ?_
   refine LM.insert rfl rfl rfl rfl rfl rfl mapTy_int rfl ?_
   refine LM.rebaseG hG rfl rfl (fun c' hins hk hm hG'=> ?_)
   obtain⟨nt,w0',E0',ins'⟩:=c'
   obtain rfl:=hk.nt
   obtain rfl:=hins
   refine LW.out ?_
   have hm:MapIn _ b tblE:=hm
   cases ha:lookM tblE op with
   |none=>
    have hlk:AV.tup [aI ((lookM tblE op).getD 0),aB (lookM tblE op).isSome] = .tup [aI 0,aB false]:=by rw[ha];rfl
    (repeat' (first|(apply s_vr;exact rfl;apply v_lookM;exact mapTy_int;exact hm;exact rfl;exact rfl;exact hlk)|refine wk1 ?_|refine wk2 (fun hb hp=> ?_) (fun hb hp=> ?_)|fail))
    all_goals(refine L.back hk ?_)
    all_goals refine wkf ?_
    all_goals rfl
   |some k=>
    have hlk:AV.tup [aI ((lookM tblE op).getD 0),aB (lookM tblE op).isSome] = .tup [aI k,aB true]:=by rw[ha];rfl
    dsimp only
    cases h1:(((l.map Ex.c).length:Nat):Int) !=k with
    |true=>
     have h1':((l.length:Int) !=k)=true:=by rw[←ll];exact h1
     rw[h1',Bool.true_or]
     (repeat' (first|(apply s_vr;exact rfl;apply v_lookM;exact mapTy_int;exact hm;exact rfl;exact rfl;exact hlk)|refine wk1 ?_|refine wk2 (fun hb hp=> ?_) (fun hb hp=> ?_)|fail))
     all_goals(refine L.back hk ?_)
     all_goals refine wkf ?_
     all_goals rfl
    |false=>
    have h1':((l.length:Int) !=k)=false:=by rw[←ll];exact h1
    rw[h1',Bool.false_or]
    cases h2:decide (40<d) with
    |true=>
     (repeat' (first|(apply s_vr;exact rfl;apply v_lookM;exact mapTy_int;exact hm;exact rfl;exact rfl;exact hlk)|refine wk1 ?_|refine wk2 (fun hb hp=> ?_) (fun hb hp=> ?_)|fail))
     all_goals(refine L.back hk ?_)
     all_goals refine wkf ?_
     all_goals rfl
    |false=>
    have h40:d≤40:=by have:=of_decide_eq_false h2;omega
    have kc:=containsE_any (gs:=gs0) (f:=57) (b:=⟨3,.l [aI d]⟩) (fun x=> !goodExM (d+1) x) l (by omega) rfl rfl (fun x hx=>goodEx1_any h40 hd0 (ih h40 x hx))
    clear ih
    generalize l.any (fun x=> !goodExM (d+1) x)=q at*
    rw[show(!false && (!bad2M op v s name && !q))=(!bad2M op v s name && !q) from rfl]
    by_cases o1:op=1
    · subst o1
      cases hv:goodM v with
      |false=>
       rw[hv] at kv
       rw[show bad2M 1 v s name=true by simp[bad2M,hv]]
       (repeat' (first|(apply s_vr;exact rfl;apply v_lookM;exact mapTy_int;exact hm;exact rfl;exact rfl;exact hlk)|refine wk1 ?_|refine wk2 (fun hb hp=> ?_) (fun hb hp=> ?_)|fail))
       all_goals(refine L.back hk ?_)
       all_goals refine wkf ?_
       all_goals rfl
      |true=>
       rw[hv] at kv
       rw[show bad2M 1 v s name=false by simp[bad2M,hv]]
       (repeat' (first|(apply s_vr;exact rfl;apply v_lookM;exact mapTy_int;exact hm;exact rfl;exact rfl;exact hlk)|(refine LW.is ?_;first|(apply s_vr;exact rfl;apply v_makeFunc;exact rfl)|(apply s_callG1 (q:=3);exact rfl;exact hG';exact kc;exact rfl;exact rfl;exact rfl;exact rfl;exact rfl;exact rfl;exact rfl))|(refine DR.is ?_;first|(apply d_vr;exact rfl;apply v_makeFunc;exact rfl)|(apply d_callG1 (q:=3);exact rfl;exact hG';exact kc;exact rfl;exact rfl;exact rfl;exact rfl;exact rfl;exact rfl;exact rfl))|refine wk1 ?_|refine wk2 (fun hb hp=> ?_) (fun hb hp=> ?_)|fail))
       all_goals(refine L.back hk ?_)
       all_goals refine wkf ?_
       all_goals(cases q<;>rfl)
    have p1:(op==1)=false:=by simp[o1]
    by_cases o2:op=2
    · subst o2
      cases hv:namedM name with
      |false=>
       rw[hv] at kn
       rw[show bad2M 2 v s name=true by simp[bad2M,hv]]
       (repeat' (first|(apply s_vr;exact rfl;apply v_lookM;exact mapTy_int;exact hm;exact rfl;exact rfl;exact hlk)|(refine LW.is ?_;first|(apply s_callG;exact rfl;exact hG';exact kn;exact rfl;exact rfl))|(refine DR.is ?_;first|(apply d_callG;exact rfl;exact hG';exact kn;exact rfl;exact rfl))|refine wk1 ?_|refine wk2 (fun hb hp=> ?_) (fun hb hp=> ?_)|fail))
       all_goals(refine L.back hk ?_)
       all_goals refine wkf ?_
       all_goals rfl
      |true=>
      rw[hv] at kn
      cases hs0:s== [] with
      |true=>
       rw[show bad2M 2 v s name=false by simp[bad2M,hv,hs0]]
       (repeat' (first|(apply s_vr;exact rfl;apply v_lookM;exact mapTy_int;exact hm;exact rfl;exact rfl;exact hlk)|(refine LW.is ?_;first|(apply s_callG;exact rfl;exact hG';exact kn;exact rfl;exact rfl)|(apply s_vr;exact rfl;apply v_makeFunc;exact rfl)|(apply s_callG1 (q:=3);exact rfl;exact hG';exact kc;exact rfl;exact rfl;exact rfl;exact rfl;exact rfl;exact rfl;exact rfl))|(refine DR.is ?_;first|(apply d_callG;exact rfl;exact hG';exact kn;exact rfl;exact rfl)|(apply d_vr;exact rfl;apply v_makeFunc;exact rfl)|(apply d_callG1 (q:=3);exact rfl;exact hG';exact kc;exact rfl;exact rfl;exact rfl;exact rfl;exact rfl;exact rfl;exact rfl))|refine wk1 ?_|refine wk2 (fun hb hp=> ?_) (fun hb hp=> ?_)|fail))
       all_goals(refine L.back hk ?_)
       all_goals refine wkf ?_
       all_goals(cases q<;>rfl)
      |false=>
      cases hw:namedM s with
      |false=>
       rw[hw] at ks
       rw[show bad2M 2 v s name=true by simp[bad2M,hv,hs0,hw]]
       (repeat' (first|(apply s_vr;exact rfl;apply v_lookM;exact mapTy_int;exact hm;exact rfl;exact rfl;exact hlk)|(refine LW.is ?_;first|(apply s_callG;exact rfl;exact hG';exact kn;exact rfl;exact rfl)|(apply s_callG;exact rfl;exact hG';exact ks;exact rfl;exact rfl))|(refine DR.is ?_;first|(apply d_callG;exact rfl;exact hG';exact kn;exact rfl;exact rfl)|(apply d_callG;exact rfl;exact hG';exact ks;exact rfl;exact rfl))|refine wk1 ?_|refine wk2 (fun hb hp=> ?_) (fun hb hp=> ?_)|fail))
       all_goals(refine L.back hk ?_)
       all_goals refine wkf ?_
       all_goals rfl
      |true=>
       rw[hw] at ks
       rw[show bad2M 2 v s name=false by simp[bad2M,hv,hs0,hw]]
       (repeat' (first|(apply s_vr;exact rfl;apply v_lookM;exact mapTy_int;exact hm;exact rfl;exact rfl;exact hlk)|(refine LW.is ?_;first|(apply s_callG;exact rfl;exact hG';exact kn;exact rfl;exact rfl)|(apply s_callG;exact rfl;exact hG';exact ks;exact rfl;exact rfl)|(apply s_vr;exact rfl;apply v_makeFunc;exact rfl)|(apply s_callG1 (q:=3);exact rfl;exact hG';exact kc;exact rfl;exact rfl;exact rfl;exact rfl;exact rfl;exact rfl;exact rfl))|(refine DR.is ?_;first|(apply d_callG;exact rfl;exact hG';exact kn;exact rfl;exact rfl)|(apply d_callG;exact rfl;exact hG';exact ks;exact rfl;exact rfl)|(apply d_vr;exact rfl;apply v_makeFunc;exact rfl)|(apply d_callG1 (q:=3);exact rfl;exact hG';exact kc;exact rfl;exact rfl;exact rfl;exact rfl;exact rfl;exact rfl;exact rfl))|refine wk1 ?_|refine wk2 (fun hb hp=> ?_) (fun hb hp=> ?_)|fail))
       all_goals(refine L.back hk ?_)
       all_goals refine wkf ?_
       all_goals(cases q<;>rfl)
    have p2:(op==2)=false:=by simp[o2]
    rw[show bad2M op v s name=false by simp[bad2M,o1,o2]]
    (repeat' (first|(apply s_vr;exact rfl;apply v_lookM;exact mapTy_int;exact hm;exact rfl;exact rfl;exact hlk)|(refine LW.is ?_;first|(apply s_vr;exact rfl;apply v_makeFunc;exact rfl)|(apply s_callG1 (q:=3);exact rfl;exact hG';exact kc;exact rfl;exact rfl;exact rfl;exact rfl;exact rfl;exact rfl;exact rfl))|(refine DR.is ?_;first|(apply d_vr;exact rfl;apply v_makeFunc;exact rfl)|(apply d_callG1 (q:=3);exact rfl;exact hG';exact kc;exact rfl;exact rfl;exact rfl;exact rfl;exact rfl;exact rfl;exact rfl))|refine wk1 ?_|refine wk2 (fun hb hp=> ?_) (fun hb hp=> ?_)|fail))
    all_goals(refine L.back hk ?_)
    all_goals refine wkf ?_
    all_goals(cases q<;>rfl)
 termination_by e=>SizeOf.sizeOf e
 decreasing_by
  have:=List.sizeOf_lt_of_mem hx
  simp;omega
end Go.Proofs.YthcjohcakdnmmaaGreatDoor
