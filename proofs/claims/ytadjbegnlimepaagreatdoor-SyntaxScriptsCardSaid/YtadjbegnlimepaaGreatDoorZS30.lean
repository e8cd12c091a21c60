/- Several texts in one, each with its own sentence ahead of it. Conditions: each one says its own. -/
import Derived.Test.YtadjbegnlimepaaGreatDoorZS29
set_option linter.all false
namespace Go.Proofs.YtadjbegnlimepaaGreatDoor
open Go.Abs
set_option maxRecDepth 100000
attribute [local irreducible] L Code.wp bodyPost Exit.then Exit.inBlock
set_option linter.unusedVariables false
set_option linter.unusedSimpArgs false
variable [Errs]
set_option linter.unusedSectionVars false
set_option maxHeartbeats 16000000 in
theorem stmtSELECT(r:Rd)(hr:RdOk r)(h1:(atRd r [wCREATE,wTABLE]).1=false)(h2:(atRd r [wCREATE,wINDEX]).1=false)(h3:(atRd r [wDROP,wTABLE]).1=false)(h4:(atRd r [wINSERT,wINTO]).1=false)(h5:(atRd r [wDELETE,wFROM]).1=false)(h6:(atRd r [wUPDATE]).1=false)(h7:(atRd r [wSELECT]).1=true):
 CallG gsP Tryz.prog 11 [.ptr 1000 0] [(1000,rdB r)] [(1000,rdB (psSelect (atRd r [wSELECT]).2).2)] [] (.agg ((psSelect (atRd r [wSELECT]).2).1.cs.map .iv)):=by
 have k1:=at_any (gs:=gsP) r [wCREATE,wTABLE] hr (by decide)
 have k2:=at_any (gs:=gsP) r [wCREATE,wINDEX] hr (by decide)
 have k3:=at_any (gs:=gsP) r [wDROP,wTABLE] hr (by decide)
 have k4:=at_any (gs:=gsP) r [wINSERT,wINTO] hr (by decide)
 have k5:=at_any (gs:=gsP) r [wDELETE,wFROM] hr (by decide)
 have k6:=at_any (gs:=gsP) r [wUPDATE] hr (by decide)
 have k7:=at_any (gs:=gsP) r [wSELECT] hr (by decide)
 rw[h1,at_no h1] at k1
 rw[h2,at_no h2] at k2
 rw[h3,at_no h3] at k3
 rw[h4,at_no h4] at k4
 rw[h5,at_no h5] at k5
 rw[h6,at_no h6] at k6
 rw[h7] at k7
 have o:=(sf_at r [wSELECT]).ok hr
 generalize (atRd r [wSELECT]).2=r1 at*
 clear h1 h2 h3 h4 h5 h6 h7
 unfold psSelect
 have ko:=at_any (gs:=gsP) r1 [[42]] o (by decide)
 have oo:=(sf_out r1).ok o
 have kO:=(list_pub 8 (fun x=>(sB 7 [] [] .nils .nils .nils .nils (.iv x)).cs) (grows4) (eats_O 6) exc_len (by decide) (by(repeat' (first|exact Subs.nil|refine Subs.cons (Sub.refl _) ?_|refine Subs.cons Sub.nilsI ?_))) (fun n es=>by(repeat' (first|exact Pubs.nil|refine Pubs.cons Pub.here ?_|refine Pubs.cons Pub.same ?_))) r1 o).sws [(1001,3),(1003,1)] (args2:= [.ptr 1000 0,.fn 31 [.ptr 3 0,.ptr 1 0]]) (bx2:= [(1000,rdB r1),(3,sB 7 [] [] .nils .nils .nils .nils .nils),(1,pB)]) (bx2':= [(1000,rdB (psList (psO 6) r1).2),(3,sB 7 [] [] .nils .nils .nils .nils (.iv (.sl ((psList (psO 6) r1).1.map Ex.c)))),(1,pB)]) (tk2':= []) (res2:= .tup []) rfl rfl rfl rfl rfl
 have hO:(atRd r1 [[42]]).1=false→psOut r1=psList (psO 6) r1:=fun h=>by unfold psOut;rw[if_neg (by rw[h];decide)]
 have hO1:(atRd r1 [[42]]).1=true→psOut r1=([],(atRd r1 [[42]]).2):=fun h=>by unfold psOut;rw[if_pos h]
 have hat:=at_no (r:=r1) (ws:= [[42]])
 generalize psList (psO 6) r1=pO at*
 generalize psOut r1=p2 at*
 obtain⟨out,r2⟩:=p2
 dsimp only at*
 have kf:=take_any (gs:=gsP) r2 [wFROM] oo (by decide)
 have of:=(sf_take r2 [wFROM]).ok oo
 unfold psFrom at*
 have kF:=(list_pub 1 (fun x=>(sB 7 [] [] .nils .nils .nils (.iv x) (.iv (.sl (out.map Ex.c)))).cs) (grows5 (.sl (out.map Ex.c))) sf_name (c:=Str.c) (fun _=>rfl) (by decide) (by(repeat' (first|exact Subs.nil|refine Subs.cons (Sub.refl _) ?_|refine Subs.cons Sub.nilsI ?_))) (fun n es=>by(repeat' (first|exact Pubs.nil|refine Pubs.cons Pub.here ?_|refine Pubs.cons Pub.same ?_))) (takeM r2 [wFROM]) of).sws [(1001,3),(1003,1)] (args2:= [.ptr 1000 0,.fn 32 [.ptr 3 0,.ptr 1 0]]) (bx2:= [(1000,rdB (takeM r2 [wFROM])),(3,sB 7 [] [] .nils .nils .nils .nils (.iv (.sl (out.map Ex.c)))),(1,pB)]) (bx2':= [(1000,rdB (psList nameM (takeM r2 [wFROM])).2),(3,sB 7 [] [] .nils .nils .nils (.iv (.sl ((psList nameM (takeM r2 [wFROM])).1.map Str.c))) (.iv (.sl (out.map Ex.c)))),(1,pB)]) (tk2':= []) (res2:= .tup []) rfl rfl rfl rfl rfl
 have o3:=(sf_list sf_name (takeM r2 [wFROM])).ok of
 generalize psList nameM (takeM r2 [wFROM])=p3 at*
 generalize takeM r2 [wFROM] =r25 at*
 obtain⟨frm,r3⟩:=p3
 dsimp only at*
 have kw:=where_any' r3 o3
 have o4:=(sf_where r3).ok o3
 generalize psWhere r3=p4 at*
 obtain⟨wh,r4⟩:=p4
 dsimp only at*
 have k8:=at_any (gs:=gsP) r4 [wORDER,wBY] o4 (by decide)
 have o5:=(sf_at r4 [wORDER,wBY]).ok o4
 have k9:=exprP (atRd r4 [wORDER,wBY]).2 o5
 have o6:=(eats_O 6 (atRd r4 [wORDER,wBY]).2).ok o5
 have k10:=at_any (gs:=gsP) (psO 6 (atRd r4 [wORDER,wBY]).2).2 [wDESC] o6 (by decide)
 have o7:=(sf_ord r4).ok o4
 have hat4:=at_no (r:=r4) (ws:= [wORDER,wBY])
 have hq1:(atRd r4 [wORDER,wBY]).1=true→psOrd r4=(([(psO 6 (atRd r4 [wORDER,wBY]).2).1],(atRd (psO 6 (atRd r4 [wORDER,wBY]).2).2 [wDESC]).1),(atRd (psO 6 (atRd r4 [wORDER,wBY]).2).2 [wDESC]).2):=fun h=>by unfold psOrd;rw[if_pos h]
 have hq2:(atRd r4 [wORDER,wBY]).1=false→psOrd r4=(([],false),r4):=fun h=>by unfold psOrd;rw[if_neg (by rw[h];decide)]
 generalize psOrd r4=p7 at*
 generalize atRd (psO 6 (atRd r4 [wORDER,wBY]).2).2 [wDESC] =pd at*
 generalize psO 6 (atRd r4 [wORDER,wBY]).2=p6 at*
 generalize atRd r4 [wORDER,wBY] =p5 at*
 obtain⟨b5,r5⟩:=p5
 obtain⟨e6,r6⟩:=p6
 obtain⟨bd,rd⟩:=pd
 obtain⟨⟨ord,down⟩,r7⟩:=p7
 dsimp only at*
 have k11:=at_any (gs:=gsP) r7 [wLIMIT] o7 (by decide)
 have o8:=(sf_at r7 [wLIMIT]).ok o7
 have k12:=number_any (atRd r7 [wLIMIT]).2 o8
 have hat7:=at_no (r:=r7) (ws:= [wLIMIT])
 have hl1:(atRd r7 [wLIMIT]).1=true→psLimit r7=psNumber (atRd r7 [wLIMIT]).2:=fun h=>by unfold psLimit;rw[if_pos h]
 have hl2:(atRd r7 [wLIMIT]).1=false→psLimit r7=(-1,r7):=fun h=>by unfold psLimit;rw[if_neg (by rw[h];decide)]
 generalize psLimit r7=p9 at*
 generalize psNumber (atRd r7 [wLIMIT]).2=pn at*
 generalize atRd r7 [wLIMIT] =p8 at*
 obtain⟨b8,r8⟩:=p8
 obtain⟨n,rn⟩:=pn
 obtain⟨n9,r9⟩:=p9
 obtain⟨lO,rO⟩:=pO
 generalize atRd r1 [[42]] =pa at*
 obtain⟨ba,ra⟩:=pa
 dsimp only at*
 clear o oo of o3 o4 o5 o6 o7 o8 hr
 refine CallG.intro _ Tryz.func11 rfl Tryz.ntmps11 rfl (fun w0 E0 hG=> ?_)
 cases ba<;>cases b5<;>cases b8
 · clear hO1 hq1 hl1
   cases hO rfl
   have e:=hat rfl
   subst e
   cases hq2 rfl
   have e:=hat4 rfl
   subst e
   cases hl2 rfl
   have e:=hat7 rfl
   subst e
   (repeat' (first|(apply s_callW [];exact rfl;exact hG;exact kO;exact Subs.refl _;exact .cons rfl rfl (Subs.refl _) (.cons rfl rfl (Subs.refl _) (.cons rfl rfl (Subs.refl _) .nil));exact rfl;exact rfl;exact rfl;exact rfl)|(apply s_callW [];exact rfl;exact hG;exact kF;exact Subs.refl _;exact .cons rfl rfl (Subs.refl _) (.cons rfl rfl (by(repeat' (first|exact Subs.nil|refine Subs.cons (Sub.refl _) ?_|refine Subs.cons Sub.nilsI ?_))) (.cons rfl rfl (Subs.refl _) .nil));exact rfl;exact rfl;exact rfl;exact rfl)|(refine LW.is ?_;first|(apply s_callQ1 (q:=1000) (ha:=rfl);(case hb=>exact rfl);(case hc=>assumption);(case hG=>assumption);exact rfl;exact rfl;exact rfl;exact rfl))|(refine DR.is ?_;first|(apply d_callQ1 (q:=1000) (ha:=rfl);(case hb=>exact rfl);(case hc=>assumption);(case hG=>assumption);exact rfl;exact rfl;exact rfl;exact rfl))|refine wk1 ?_|refine wk2 (fun hb hp=> ?_) (fun hb hp=> ?_)|fail))
   all_goals refine wkq ?_ ?_
   all_goals rfl
 · clear hO1 hq1 hl2 hat7
   cases hO rfl
   have e:=hat rfl
   subst e
   cases hq2 rfl
   have e:=hat4 rfl
   subst e
   cases hl1 rfl
   (repeat' (first|(apply s_callW [];exact rfl;exact hG;exact kO;exact Subs.refl _;exact .cons rfl rfl (Subs.refl _) (.cons rfl rfl (Subs.refl _) (.cons rfl rfl (Subs.refl _) .nil));exact rfl;exact rfl;exact rfl;exact rfl)|(apply s_callW [];exact rfl;exact hG;exact kF;exact Subs.refl _;exact .cons rfl rfl (Subs.refl _) (.cons rfl rfl (by(repeat' (first|exact Subs.nil|refine Subs.cons (Sub.refl _) ?_|refine Subs.cons Sub.nilsI ?_))) (.cons rfl rfl (Subs.refl _) .nil));exact rfl;exact rfl;exact rfl;exact rfl)|(refine LW.is ?_;first|(apply s_callQ1 (q:=1000) (ha:=rfl);(case hb=>exact rfl);(case hc=>assumption);(case hG=>assumption);exact rfl;exact rfl;exact rfl;exact rfl))|(refine DR.is ?_;first|(apply d_callQ1 (q:=1000) (ha:=rfl);(case hb=>exact rfl);(case hc=>assumption);(case hG=>assumption);exact rfl;exact rfl;exact rfl;exact rfl))|refine wk1 ?_|refine wk2 (fun hb hp=> ?_) (fun hb hp=> ?_)|fail))
   all_goals refine wkq ?_ ?_
   all_goals rfl
 · clear hO1 hq2 hat4 hl1
   cases hO rfl
   have e:=hat rfl
   subst e
   cases hq1 rfl
   cases hl2 rfl
   have e:=hat7 rfl
   subst e
   (repeat' (first|(apply s_callW [];exact rfl;exact hG;exact kO;exact Subs.refl _;exact .cons rfl rfl (Subs.refl _) (.cons rfl rfl (Subs.refl _) (.cons rfl rfl (Subs.refl _) .nil));exact rfl;exact rfl;exact rfl;exact rfl)|(apply s_callW [];exact rfl;exact hG;exact kF;exact Subs.refl _;exact .cons rfl rfl (Subs.refl _) (.cons rfl rfl (by(repeat' (first|exact Subs.nil|refine Subs.cons (Sub.refl _) ?_|refine Subs.cons Sub.nilsI ?_))) (.cons rfl rfl (Subs.refl _) .nil));exact rfl;exact rfl;exact rfl;exact rfl)|(refine LW.is ?_;first|(apply s_callQ1 (q:=1000) (ha:=rfl);(case hb=>exact rfl);(case hc=>assumption);(case hG=>assumption);exact rfl;exact rfl;exact rfl;exact rfl))|(refine DR.is ?_;first|(apply d_callQ1 (q:=1000) (ha:=rfl);(case hb=>exact rfl);(case hc=>assumption);(case hG=>assumption);exact rfl;exact rfl;exact rfl;exact rfl))|refine wk1 ?_|refine wk2 (fun hb hp=> ?_) (fun hb hp=> ?_)|fail))
   all_goals refine wkq ?_ ?_
   all_goals(first|rfl|(simp only[Stm.cs,stm0,List.map_cons,List.map_nil,Ex.c_cs];rfl))
 · clear hO1 hq2 hat4 hl2 hat7
   cases hO rfl
   have e:=hat rfl
   subst e
   cases hq1 rfl
   cases hl1 rfl
   (repeat' (first|(apply s_callW [];exact rfl;exact hG;exact kO;exact Subs.refl _;exact .cons rfl rfl (Subs.refl _) (.cons rfl rfl (Subs.refl _) (.cons rfl rfl (Subs.refl _) .nil));exact rfl;exact rfl;exact rfl;exact rfl)|(apply s_callW [];exact rfl;exact hG;exact kF;exact Subs.refl _;exact .cons rfl rfl (Subs.refl _) (.cons rfl rfl (by(repeat' (first|exact Subs.nil|refine Subs.cons (Sub.refl _) ?_|refine Subs.cons Sub.nilsI ?_))) (.cons rfl rfl (Subs.refl _) .nil));exact rfl;exact rfl;exact rfl;exact rfl)|(refine LW.is ?_;first|(apply s_callQ1 (q:=1000) (ha:=rfl);(case hb=>exact rfl);(case hc=>assumption);(case hG=>assumption);exact rfl;exact rfl;exact rfl;exact rfl))|(refine DR.is ?_;first|(apply d_callQ1 (q:=1000) (ha:=rfl);(case hb=>exact rfl);(case hc=>assumption);(case hG=>assumption);exact rfl;exact rfl;exact rfl;exact rfl))|refine wk1 ?_|refine wk2 (fun hb hp=> ?_) (fun hb hp=> ?_)|fail))
   all_goals refine wkq ?_ ?_
   all_goals(first|rfl|(simp only[Stm.cs,stm0,List.map_cons,List.map_nil,Ex.c_cs];rfl))
 · clear hO hat hq1 hl1
   cases hO1 rfl
   cases hq2 rfl
   have e:=hat4 rfl
   subst e
   cases hl2 rfl
   have e:=hat7 rfl
   subst e
   (repeat' (first|(apply s_callW [];exact rfl;exact hG;exact kO;exact Subs.refl _;exact .cons rfl rfl (Subs.refl _) (.cons rfl rfl (Subs.refl _) (.cons rfl rfl (Subs.refl _) .nil));exact rfl;exact rfl;exact rfl;exact rfl)|(apply s_callW [];exact rfl;exact hG;exact kF;exact Subs.refl _;exact .cons rfl rfl (Subs.refl _) (.cons rfl rfl (by(repeat' (first|exact Subs.nil|refine Subs.cons (Sub.refl _) ?_|refine Subs.cons Sub.nilsI ?_))) (.cons rfl rfl (Subs.refl _) .nil));exact rfl;exact rfl;exact rfl;exact rfl)|(refine LW.is ?_;first|(apply s_callQ1 (q:=1000) (ha:=rfl);(case hb=>exact rfl);(case hc=>assumption);(case hG=>assumption);exact rfl;exact rfl;exact rfl;exact rfl))|(refine DR.is ?_;first|(apply d_callQ1 (q:=1000) (ha:=rfl);(case hb=>exact rfl);(case hc=>assumption);(case hG=>assumption);exact rfl;exact rfl;exact rfl;exact rfl))|refine wk1 ?_|refine wk2 (fun hb hp=> ?_) (fun hb hp=> ?_)|fail))
   all_goals refine wkq ?_ ?_
   all_goals rfl
 · clear hO hat hq1 hl2 hat7
   cases hO1 rfl
   cases hq2 rfl
   have e:=hat4 rfl
   subst e
   cases hl1 rfl
   (repeat' (first|(apply s_callW [];exact rfl;exact hG;exact kO;exact Subs.refl _;exact .cons rfl rfl (Subs.refl _) (.cons rfl rfl (Subs.refl _) (.cons rfl rfl (Subs.refl _) .nil));exact rfl;exact rfl;exact rfl;exact rfl)|(apply s_callW [];exact rfl;exact hG;exact kF;exact Subs.refl _;exact .cons rfl rfl (Subs.refl _) (.cons rfl rfl (by(repeat' (first|exact Subs.nil|refine Subs.cons (Sub.refl _) ?_|refine Subs.cons Sub.nilsI ?_))) (.cons rfl rfl (Subs.refl _) .nil));exact rfl;exact rfl;exact rfl;exact rfl)|(refine LW.is ?_;first|(apply s_callQ1 (q:=1000) (ha:=rfl);(case hb=>exact rfl);(case hc=>assumption);(case hG=>assumption);exact rfl;exact rfl;exact rfl;exact rfl))|(refine DR.is ?_;first|(apply d_callQ1 (q:=1000) (ha:=rfl);(case hb=>exact rfl);(case hc=>assumption);(case hG=>assumption);exact rfl;exact rfl;exact rfl;exact rfl))|refine wk1 ?_|refine wk2 (fun hb hp=> ?_) (fun hb hp=> ?_)|fail))
   all_goals refine wkq ?_ ?_
   all_goals rfl
 · clear hO hat hq2 hat4 hl1
   cases hO1 rfl
   cases hq1 rfl
   cases hl2 rfl
   have e:=hat7 rfl
   subst e
   (repeat' (first|(apply s_callW [];exact rfl;exact hG;exact kO;exact Subs.refl _;exact .cons rfl rfl (Subs.refl _) (.cons rfl rfl (Subs.refl _) (.cons rfl rfl (Subs.refl _) .nil));exact rfl;exact rfl;exact rfl;exact rfl)|(apply s_callW [];exact rfl;exact hG;exact kF;exact Subs.refl _;exact .cons rfl rfl (Subs.refl _) (.cons rfl rfl (by(repeat' (first|exact Subs.nil|refine Subs.cons (Sub.refl _) ?_|refine Subs.cons Sub.nilsI ?_))) (.cons rfl rfl (Subs.refl _) .nil));exact rfl;exact rfl;exact rfl;exact rfl)|(refine LW.is ?_;first|(apply s_callQ1 (q:=1000) (ha:=rfl);(case hb=>exact rfl);(case hc=>assumption);(case hG=>assumption);exact rfl;exact rfl;exact rfl;exact rfl))|(refine DR.is ?_;first|(apply d_callQ1 (q:=1000) (ha:=rfl);(case hb=>exact rfl);(case hc=>assumption);(case hG=>assumption);exact rfl;exact rfl;exact rfl;exact rfl))|refine wk1 ?_|refine wk2 (fun hb hp=> ?_) (fun hb hp=> ?_)|fail))
   all_goals refine wkq ?_ ?_
   all_goals(first|rfl|(simp only[Stm.cs,stm0,List.map_cons,List.map_nil,Ex.c_cs];rfl))
 · clear hO hat hq2 hat4 hl2 hat7
   cases hO1 rfl
   cases hq1 rfl
   cases hl1 rfl
   (repeat' (first|(apply s_callW [];exact rfl;exact hG;exact kO;exact Subs.refl _;exact .cons rfl rfl (Subs.refl _) (.cons rfl rfl (Subs.refl _) (.cons rfl rfl (Subs.refl _) .nil));exact rfl;exact rfl;exact rfl;exact rfl)|(apply s_callW [];exact rfl;exact hG;exact kF;exact Subs.refl _;exact .cons rfl rfl (Subs.refl _) (.cons rfl rfl (by(repeat' (first|exact Subs.nil|refine Subs.cons (Sub.refl _) ?_|refine Subs.cons Sub.nilsI ?_))) (.cons rfl rfl (Subs.refl _) .nil));exact rfl;exact rfl;exact rfl;exact rfl)|(refine LW.is ?_;first|(apply s_callQ1 (q:=1000) (ha:=rfl);(case hb=>exact rfl);(case hc=>assumption);(case hG=>assumption);exact rfl;exact rfl;exact rfl;exact rfl))|(refine DR.is ?_;first|(apply d_callQ1 (q:=1000) (ha:=rfl);(case hb=>exact rfl);(case hc=>assumption);(case hG=>assumption);exact rfl;exact rfl;exact rfl;exact rfl))|refine wk1 ?_|refine wk2 (fun hb hp=> ?_) (fun hb hp=> ?_)|fail))
   all_goals refine wkq ?_ ?_
   all_goals(first|rfl|(simp only[Stm.cs,stm0,List.map_cons,List.map_nil,Ex.c_cs];rfl))
end Go.Proofs.YtadjbegnlimepaaGreatDoor
namespace Go.Proofs.YtadjbegnlimepaaGreatDoor
open Go.Abs
set_option maxRecDepth 100000
attribute [local irreducible] L Code.wp bodyPost Exit.then Exit.inBlock
set_option linter.unusedVariables false
set_option linter.unusedSimpArgs false
set_option linter.unusedSectionVars false
theorem tok_ok{c:UInt8}{r:Str}{n:Nat}(h:tokLen c r=some n)(hl:r.length<1000000):TokOk ((c::r).take n):=by
 have hn:n≤r.length+1∧(c=39→2≤n)∧(c=45→n=1):=by
  have e1:lowC 39=false:=by decide
  have e2:lowC 45=false:=by decide
  have e3:digC 39=false:=by decide
  have e4:digC 45=false:=by decide
  have h1:=(List.takeWhile_prefix lowC (l:=r)).length_le
  have h2:=(List.takeWhile_prefix digC (l:=r)).length_le
  unfold tokLen at h
  split at h
  · rename_i hc
    cases h
    exact⟨by omega,fun e=>(by subst e;rw[e1] at hc;cases hc),fun e=>(by subst e;rw[e2] at hc;cases hc)⟩
  split at h
  · rename_i hc
    cases h
    exact⟨by omega,fun e=>(by subst e;rw[e3] at hc;cases hc),fun e=>(by subst e;rw[e4] at hc;cases hc)⟩
  split at h
  · rename_i hc
    subst hc
    split at h
    · cases h
    · rename_i h0
      cases h
      have:=ixb_lt r 39
      exact⟨by omega,fun _=>by omega,fun e=>by cases e⟩
  · rename_i hc
    split at h
    · cases h;exact⟨by omega,fun e=>absurd e hc,fun _=>rfl⟩
    · cases h
 have h1:=tok_pos h
 obtain⟨m,rfl⟩: ∃m,n=m+1:=⟨n - 1,by omega⟩
 refine⟨by simp[List.length_take];omega,fun e=> ?_,fun e=> ?_⟩
 · have:=hn.2.1 (by simpa using e)
   simp[List.length_take];omega
 · have:=hn.2.2 (by simpa using e)
   simp[List.length_take];omega
theorem split_ok: ∀(k:Nat) (s:Str),s.length≤k→s.length≤1000000→ ∀l,splitM s=some l→l.length≤s.length∧ ∀t∈l,TokOk t
 |0,s,hk,_,l,h=>by
  have:s= []:=List.length_eq_zero_iff.1 (by omega)
  subst this
  rw[split_nil] at h;cases h
  exact⟨Nat.le_refl _,fun t ht=>by cases ht⟩
 |k+1,[],_,_,l,h=>by
  rw[split_nil] at h;cases h
  exact⟨Nat.le_refl _,fun t ht=>by cases ht⟩
 |k+1,c::r,hk,hm,l,h=>by
  simp only[List.length_cons] at hk hm
  by_cases hb:c=32∨c=10
  · rw[split_blank hb] at h
    obtain⟨h1,h2⟩:=split_ok k r (by omega) (by omega) l h
    exact⟨by simp;omega,h2⟩
  · cases ht:tokLen c r with
    |none=>rw[split_none hb ht] at h;cases h
    |some n=>
     rw[split_some hb ht,Option.map_eq_some_iff] at h
     obtain⟨l',hl',rfl⟩:=h
     have hp:=tok_pos ht
     have hd:((c::r).drop n).length≤r.length:=by simp;omega
     obtain⟨h1,h2⟩:=split_ok k _ (by omega) (by omega) l' hl'
     refine⟨by simp only[List.length_cons];omega,fun t hm2=> ?_⟩
     rcases List.mem_cons.1 hm2 with rfl|h3
     · exact tok_ok ht (by omega)
     · exact h2 t h3
theorem rd_ok(s:Str)(h:s.length≤1000000):RdOk (rdOf s)∧(rdOf s).l.length≤s.length:=by
 unfold rdOf
 cases hs:splitM s with
 |none=>exact⟨⟨by simp,fun t ht=>by cases ht⟩,by simp⟩
 |some l=>
  obtain⟨h1,h2⟩:=split_ok _ s (Nat.le_refl _) h l hs
  exact⟨⟨by dsimp only;omega,h2⟩,h1⟩
variable [Errs]
set_option maxHeartbeats 8000000 in
theorem stmt_any(r:Rd)(hr:RdOk r):CallG gsP Tryz.prog 11 [.ptr 1000 0] [(1000,rdB r)] [(1000,rdB (psStmt r).2)] [] (.agg ((psStmt r).1.cs.map .iv)):=by
 unfold psStmt
 cases h1:(atRd r [wCREATE,wTABLE]).1 with
 |true=>rw[if_pos rfl];exact stmtCREATE r hr h1
 |false=>
 rw[if_neg (by decide)]
 have k1:=at_any (gs:=gsP) r [wCREATE,wTABLE] hr (by decide)
 rw[h1,at_no h1] at k1
 cases h2:(atRd r [wCREATE,wINDEX]).1 with
 |true=>rw[if_pos rfl];exact stmtMARK r hr h1 h2
 |false=>
 rw[if_neg (by decide)]
 have k2:=at_any (gs:=gsP) r [wCREATE,wINDEX] hr (by decide)
 rw[h2,at_no h2] at k2
 cases h3:(atRd r [wDROP,wTABLE]).1 with
 |true=>rw[if_pos rfl];exact stmtDROP r hr h1 h2 h3
 |false=>
 rw[if_neg (by decide)]
 have k3:=at_any (gs:=gsP) r [wDROP,wTABLE] hr (by decide)
 rw[h3,at_no h3] at k3
 cases h4:(atRd r [wINSERT,wINTO]).1 with
 |true=>rw[if_pos rfl];exact stmtINSERT r hr h1 h2 h3 h4
 |false=>
 rw[if_neg (by decide)]
 have k4:=at_any (gs:=gsP) r [wINSERT,wINTO] hr (by decide)
 rw[h4,at_no h4] at k4
 cases h5:(atRd r [wDELETE,wFROM]).1 with
 |true=>rw[if_pos rfl];exact stmtDELETE r hr h1 h2 h3 h4 h5
 |false=>
 rw[if_neg (by decide)]
 have k5:=at_any (gs:=gsP) r [wDELETE,wFROM] hr (by decide)
 rw[h5,at_no h5] at k5
 cases h6:(atRd r [wUPDATE]).1 with
 |true=>rw[if_pos rfl];exact stmtUPDATE r hr h1 h2 h3 h4 h5 h6
 |false=>
 rw[if_neg (by decide)]
 have k6:=at_any (gs:=gsP) r [wUPDATE] hr (by decide)
 rw[h6,at_no h6] at k6
 cases h7:(atRd r [wSELECT]).1 with
 |true=>rw[if_pos rfl];exact stmtSELECT r hr h1 h2 h3 h4 h5 h6 h7
 |false=>
 rw[if_neg (by decide)]
 have k7:=at_any (gs:=gsP) r [wSELECT] hr (by decide)
 rw[h7,at_no h7] at k7
 clear h1 h2 h3 h4 h5 h6 h7
 refine CallG.intro _ Tryz.func11 rfl Tryz.ntmps11 rfl (fun w0 E0 hG=> ?_)
 (repeat' (first|(refine LW.is ?_;first|(apply s_callQ1 (q:=1000) (ha:=rfl);(case hb=>exact rfl);(case hc=>assumption);(case hG=>assumption);exact rfl;exact rfl;exact rfl;exact rfl))|(refine DR.is ?_;first|(apply d_callQ1 (q:=1000) (ha:=rfl);(case hb=>exact rfl);(case hc=>assumption);(case hG=>assumption);exact rfl;exact rfl;exact rfl;exact rfl))|refine wk1 ?_|refine wk2 (fun hb hp=> ?_) (fun hb hp=> ?_)|fail))
 all_goals refine wkq ?_ ?_
 all_goals rfl
theorem at_bad{r:Rd}{ws:List Str}(h:r.bad=true):(atRd r ws).2.bad=true:=by
 unfold atRd
 repeat' split
 all_goals exact h
theorem take_bad{r:Rd}{ws:List Str}(h:r.bad=true):(takeM r ws).bad=true:=by
 unfold takeM
 split
 · exact at_bad h
 · rfl
theorem stmt_eats(r:Rd):(psStmt r).2.bad=true∨(psStmt r).2.l.length<r.l.length:=by
 unfold psStmt
 split
 · rename_i h;exact .inr (Nat.lt_of_le_of_lt (sf_create _).le (at_lt h (by decide)))
 split
 · rename_i h;exact .inr (Nat.lt_of_le_of_lt (sf_mark _).le (at_lt h (by decide)))
 split
 · rename_i h;exact .inr (Nat.lt_of_le_of_lt (sf_name _).le (at_lt h (by decide)))
 split
 · rename_i h;exact .inr (Nat.lt_of_le_of_lt (sf_insert _).le (at_lt h (by decide)))
 split
 · rename_i h;exact .inr (Nat.lt_of_le_of_lt (sf_delete _).le (at_lt h (by decide)))
 split
 · rename_i h;exact .inr (Nat.lt_of_le_of_lt (sf_update _).le (at_lt h (by decide)))
 split
 · rename_i h;exact .inr (Nat.lt_of_le_of_lt (sf_select _).le (at_lt h (by decide)))
 · exact .inl rfl
theorem atQ{f:FuncId}{args args2:List AV}{q:Nat}{b b':Box}{res:AV}(h:CallG gsP Tryz.prog f args [(1000,b)] [(1000,b')] [] res)(h1:AV.rens (Abs.sws [(1000,q)]) args=args2)(hm:AV.mentsIn [] b.cs=true)(hm':AV.mentsIn [] b'.cs=true)(hr:AV.mentIn [] res=true):
 CallG gsP Tryz.prog f args2 [(q,b)] [(q,b')] [] res:=h.at1 h1 hm hm' hr
theorem cs_ment(s:Stm):AV.mentIn [] (.agg (s.cs.map .iv))=true:=by rw[AV.mentIn];exact AV.mentsIn_iv _ _
set_option maxHeartbeats 16000000 in
theorem script_any(s:Str):CallG gsP Tryz.prog 4 [aS s] [] [] [] (.tup [.iv (.sl ((psScript s).1.map Stm.cs)),.iv (I (psScript s).2)]):=by
 unfold psScript
 refine CallG.intro _ Tryz.func4 rfl Tryz.ntmps4 rfl (fun w0 E0 hG=> ?_)
 by_cases hl:1500<s.length
 · rw[if_pos hl]
   have q:decide ((1500:Int)<(s.length:Int))=true:=decide_eq_true (by omega)
   (repeat' (first|refine wk1 ?_|refine wk2 (fun hb hp=> ?_) (fun hb hp=> ?_)|fail))
   all_goals refine wkf ?_
   all_goals rfl
 rw[if_neg hl]
 have q:decide ((1500:Int)<(s.length:Int))=false:=decide_eq_false (by omega)
 have ks:=(split_any s (by omega)).toG (gs:=gsP)
 obtain⟨hr,hn⟩:=rd_ok s (by omega)
 have hn:(rdOf s).l.length≤1500:=by omega
 have e1:(rdOf s).l=(splitR s).1:=by unfold rdOf splitR;cases splitM s<;>rfl
 have e2:(rdOf s).bad= !(splitR s).2:=by unfold rdOf splitR;cases splitM s<;>rfl
 generalize hW:psScriptL ((rdOf s).l.length+1) [] (rdOf s)=W
 generalize rdOf s=r at*
 generalize splitR s=p at*
 obtain⟨lw,ok⟩:=p
 obtain⟨rl,bad⟩:=r
 dsimp only at e1 e2
 subst e1 e2
 (repeat' (first|refine wk1 ?_|refine wk2 (fun hb hp=> ?_) (fun hb hp=> ?_)|fail))
 refine L.adopt 7 (s:=7) (t:=39) (k:=20) rfl rfl rfl ?_
 refine L.loopP (ι:=Nat×List Stm×Rd) (fun i=>⟨[(6,.ptr 20 0),(7,.row 7 (i.2.1.map Stm.cs))],[(20,rdB i.2.2)],[(7,⟨39,20⟩)]⟩) (fun i=>i.1) (fun i=>psScriptL i.1 i.2.1 i.2.2=W∧RdOk i.2.2∧((i.2.2.bad=true∧0<i.1∧i.2.1.length≤1501)∨(i.2.2.l.length<i.1∧i.2.1.length+i.2.2.l.length≤1500))) (i0:=(rl.length+1,[],⟨rl, !ok⟩)) ?_ ⟨hW,hr,.inr ⟨Nat.lt_succ_self _,by simpa using hn⟩⟩ ?_
 · exact wkk
 clear hW hr hn ks
 rintro ⟨n,l,r⟩ ⟨hI,hr,hn⟩ K hK
 dsimp only at hI hn hr
 cases n with
 |zero=>omega
 |succ n=>
 unfold psScriptL at hI
 by_cases hz:r.l= [] ∨r.bad=true
 · rw[if_pos hz] at hI
   subst hI
   dsimp only
   have hll:l.length≤1501:=by omega
   clear hn hr hK
   cases h0:r.l with
   |nil=>
    have q0:decide ((0:Int)<(((r.l).map Str.c).length:Int))=false:=by rw[h0];rfl
    cases hb:r.bad with
    |true=>
     rw[if_pos rfl]
     (repeat' (first|refine wk1 ?_|refine wk2 (fun hb hp=> ?_) (fun hb hp=> ?_)|fail))
     all_goals refine wkf ?_
     all_goals rfl
    |false=>
     rw[if_neg (by decide)]
     by_cases h6:6<l.length
     · rw[if_pos h6]
       have q6:decide ((6:Int)<((l.map Stm.cs).length:Int))=true:=decide_eq_true (by rw[List.length_map];omega)
       (repeat' (first|refine wk1 ?_|refine wk2 (fun hb hp=> ?_) (fun hb hp=> ?_)|fail))
       all_goals refine wkf ?_
       all_goals rfl
     · rw[if_neg h6]
       have q6:decide ((6:Int)<((l.map Stm.cs).length:Int))=false:=decide_eq_false (by rw[List.length_map];omega)
       (repeat' (first|refine wk1 ?_|refine wk2 (fun hb hp=> ?_) (fun hb hp=> ?_)|fail))
       all_goals refine wkf ?_
       all_goals rfl
   |cons x xs=>
    have q0:decide ((0:Int)<(((r.l).map Str.c).length:Int))=true:=by rw[h0];exact decide_eq_true (by simp)
    have hb:r.bad=true:=by rcases hz with h|h;rw[h0] at h;cases h;exact h
    rw[if_pos hb]
    have q2:(!r.bad)=false:=by rw[hb];rfl
    (repeat' (first|refine wk1 ?_|refine wk2 (fun hb hp=> ?_) (fun hb hp=> ?_)|fail))
    all_goals refine wkf ?_
    all_goals rfl
 · rw[if_neg hz] at hI
   have hz1:r.l≠ []:=fun e=>hz (.inl e)
   have hb:r.bad=false:=by cases h:r.bad with|true=>exact absurd (.inr h) hz|false=>rfl
   have q1:decide ((0:Int)<((r.l.map Str.c).length:Int))=true:=decide_eq_true (by rw[List.length_map];have:=List.length_pos_iff.2 hz1;omega)
   have q2:(!r.bad)=true:=by rw[hb];rfl
   have k1:=atQ (q:=20) (stmt_any r hr) rfl rfl rfl (cs_ment _)
   have o1:=(sf_stmt r).ok hr
   have k2:=atQ (q:=20) (take_any (gs:=gsP) (psStmt r).2 [[59]] o1 (by decide)) rfl rfl rfl rfl
   have o2:=(sf_take (psStmt r).2 [[59]]).ok o1
   have hle1:=(sf_stmt r).le
   have he:=stmt_eats r
   have hle2:=(sf_take (psStmt r).2 [[59]]).le
   have htb:=take_bad (r:=(psStmt r).2) (ws:= [[59]])
   have hpos:=List.length_pos_iff.2 hz1
   generalize takeM (psStmt r).2 [[59]] =r2 at*
   generalize psStmt r=p at*
   obtain⟨x,r1⟩:=p
   dsimp only at*
   have hn':r.l.length<n+1∧l.length+r.l.length≤1500:=by
    rcases hn with h|h
    · rw[hb] at h;cases h.1
    · exact h
   have hll:l.length≤1500:=by omega
   (repeat' (first|(refine LW.is ?_;first|(apply s_callQ1 (q:=20) (ha:=rfl);(case hb=>exact rfl);(case hc=>assumption);(case hG=>assumption);exact rfl;exact rfl;exact rfl;first|exact rfl|exact cs_ment _)|(apply s_append;exact rfl;exact rfl;exact rfl;exact rfl;exact row_len (f:=Stm.cs) (k:=20) (fun _=>rfl) l;exact one_len rfl;(rw[List.length_map,maxL];simp;omega);(rw[List.length_map];simp;omega);exact rfl;exact rfl))|(refine DR.is ?_;first|(apply d_callQ1 (q:=20) (ha:=rfl);(case hb=>exact rfl);(case hc=>assumption);(case hG=>assumption);exact rfl;exact rfl;exact rfl;first|exact rfl|exact cs_ment _)|(apply d_append;exact rfl;exact rfl;exact rfl;exact rfl;exact row_len (f:=Stm.cs) (k:=20) (fun _=>rfl) l;exact one_len rfl;(rw[List.length_map,maxL];simp;omega);(rw[List.length_map];simp;omega);exact rfl;exact rfl))|refine wk1 ?_|refine wk2 (fun hb hp=> ?_) (fun hb hp=> ?_)|fail))
   refine L.only [7,6] ?_
   refine L.retok 7 38 7 rfl rfl rfl rfl ?_
   refine hK _ (n,l++ [x],r2) ⟨hI,o2,?_⟩ (Nat.lt_succ_self _) (Wk.mk' (by intro id h;cases h) (.cons rfl (Sub.refl _) (.cons rfl (Sub.of_eq (congrArg (AV.row 7) (by rw[List.map_append];rfl))) .nil)) (.cons rfl rfl (Subs.refl _) .nil) (.cons rfl .nil))
   dsimp only
   rcases he with h|h
   · exact .inl ⟨htb h,by omega,by simp;omega⟩
   · exact .inr ⟨by omega,by simp;omega⟩
end Go.Proofs.YtadjbegnlimepaaGreatDoor
