/- Several texts in one, each with its own sentence ahead of it. Conditions: each one says its own. -/
import Derived.Test.YtadjbegnlimepaaGreatDoorZS28
set_option linter.all false
namespace Go.Abs
open Go.RowKit (Below)
set_option linter.unusedVariables false
theorem CallG.pubB(K j:Nat){gs:Globs}{P:Program}{f:FuncId}{args:List AV}{bxi bxo bx2:List (Nat×Box)}{k n:Nat}{ty:TypeId}{es:List (List IV)}{bj:Box}{cs:List AV}(hin:(keys bxi).all (fun i=>(i !=K) && (match bxo.lookup i with|some b=> !b.cs.isEmpty|none=>false))=true)(hb:bxo.lookup K=some ⟨ty,.r es.flatten 0⟩)(hk: ∀e∈es,e.length=k)(hk0:0<k)(hne:es≠ [])(hn:es.length=n)
 (hj:bxo.lookup j=some bj) (hjn:bj.cs≠ []) (hjk:(j==K)=false) (hp:Pubs K n k (.sl es) bj.cs cs) (hw:WkB ((j,⟨bj.ty,.l cs⟩)::(K,⟨ty,.l []⟩)::bxo) bx2) (hl: ∀id∈keys bxi,(bx2.lookup id).isSome=true)
 (h:CallG gs P f args bxi bxo [] (.tup [])):CallG gs P f args bxi bx2 [] (.tup []):=by
 intro E w us h1 h2 h3
 refine(h E w us h1 h2 h3).mono ?_
 rintro e w' ⟨u,E',he,hu,hh⟩
 have hu2:u= .tuple #[]:=by
  cases hu with
  | @tup _ us hl _=>have:us= []:=by simpa using hl
                    rw[this]
 have:=L.pubB K j (c:=⟨0,w,E,keys bxi⟩) (st:=⟨[],bxo,[]⟩) (X:=fun _ w''=> ∃E2,HInv ⟨0,w,E,keys bxi⟩ E2 bx2 [] w'') hin hb hk hk0 hne hn hj hjn hjk hp (by
  rintro a w'' ⟨E2,hi⟩
  exact⟨E2,hi.heap.wk (st':=⟨[],bx2,[]⟩) (Wk.mk' hl .nil hw .nil)⟩) ({tmps:= #[],defers:= []}:Act) w' ⟨E',⟨rfl,rfl,fun s v h=>by simp at h,hh⟩⟩
 obtain⟨E2,hE2⟩:=this
 exact⟨u,E2,he,by rw[hu2];exact .tup (us:= []) rfl (fun i c u h=>by simp at h),hE2⟩
end Go.Abs
namespace Go.Proofs.YtadjbegnlimepaaGreatDoor
open Go.Abs
set_option maxRecDepth 100000
attribute [local irreducible] L Code.wp bodyPost Exit.then Exit.inBlock
set_option linter.unusedVariables false
set_option linter.unusedSimpArgs false
variable [Errs]
set_option linter.unusedSectionVars false
theorem list_pub{α:Type}{f:FuncId}[CallTy Tryz.prog f]{caps:List AV}{b0:Box}{b:Nat→Nat→Box}{step:Rd→α×Rd}{c:α→List IV}{ty:TypeId}(k:Nat)(bp:IV→List AV)(h:Grows f caps b0 b (fun l=>⟨ty,.r (l.map c).flatten 0⟩) step)(hs: ∀r,Sf r (step r).2)
 (hk: ∀x,(c x).length=k) (hk0:0<k) (h0:Subs b0.cs (bp (.sl []))) (hp: ∀n es,Pubs 1002 n k (.sl es) (b 1002 n).cs (bp (.sl es))) (r:Rd) (hr:RdOk r):
 CallG gsP Tryz.prog 23 [.ptr 1000 0,.fn f caps] [(1000,rdB r),(1001,b0),(1003,pB)] [(1000,rdB (psList step r).2),(1001,⟨b0.ty,.l (bp (.sl ((psList step r).1.map c)))⟩),(1003,pB)] [] (.tup []):=by
 cases hb:r.bad with
 |true=>
  have e:psList step r=([],r):=by unfold psList psListL;rw[if_pos hb]
  rw[e]
  exact fun E w us h1 h2 h3=>(list_bad h r hb E w us h1 h2 h3).mono (fun e w' ⟨u,E',he,hu,hh⟩=>⟨u,E',he,hu,hh.wk (st:=⟨[],[(1000,rdB r),(1001,b0),(1003,pB)],[]⟩) (st':=⟨[],_,[]⟩) (Wk.mk' (keys_all rfl) .nil (.cons rfl rfl (Subs.refl _) (.cons rfl rfl h0 (.cons rfl rfl (Subs.refl _) .nil))) .nil)⟩)
 |false=>
  have hne:=list_ne (step:=step) hb
  have hz:=h.v 1002 (psList step r).1.length
  refine CallG.pubB 1002 1001 (bj:=b 1002 (psList step r).1.length) (es:=(psList step r).1.map c) (k:=k) (n:=(psList step r).1.length) (cs:=bp (.sl ((psList step r).1.map c))) ?_ rfl (row_len hk _) hk0 (by simpa using hne) (List.length_map _) rfl ?_ rfl (hp _ _) ?_ (keys_all rfl) (list_any h hs r hr hb)
  · simp[-Box.cs_r,keys,List.lookup,hz]
  · intro e;rw[e] at hz;cases hz
  · exact .cons rfl rfl (Subs.refl _) (.cons rfl (h.vt _ _) (Subs.refl _) (.cons rfl rfl (Subs.refl _) .nil))
end Go.Proofs.YtadjbegnlimepaaGreatDoor
namespace Go.Proofs.YtadjbegnlimepaaGreatDoor
open Go.Abs
set_option maxRecDepth 100000
attribute [local irreducible] L Code.wp bodyPost Exit.then Exit.inBlock
set_option linter.unusedVariables false
set_option linter.unusedSimpArgs false
variable [Errs]
set_option linter.unusedSectionVars false
theorem Sub.nilsI:Sub .nils (.iv (.sl [])):=fun _ _ _ h=>by cases h;exact .iv .nil
set_option maxHeartbeats 16000000 in
theorem stmtCREATE(r:Rd)(hr:RdOk r)(h1:(atRd r [wCREATE,wTABLE]).1=true):
 CallG gsP Tryz.prog 11 [.ptr 1000 0] [(1000,rdB r)] [(1000,rdB (psCreate (atRd r [wCREATE,wTABLE]).2).2)] [] (.agg ((psCreate (atRd r [wCREATE,wTABLE]).2).1.cs.map .iv)):=by
 have k1:=at_any (gs:=gsP) r [wCREATE,wTABLE] hr (by decide)
 rw[h1] at k1
 have o:=(sf_at r [wCREATE,wTABLE]).ok hr
 generalize (atRd r [wCREATE,wTABLE]).2=r1 at*
 clear h1
 unfold psCreate
 have kn:=toP (name_any r1 o)
 have on:=(sf_name r1).ok o
 have kt:=take_any (gs:=gsP) (nameM r1).2 [[40]] on (by decide)
 have ot:=(sf_take (nameM r1).2 [[40]]).ok on
 have kl:=(list_pub 3 (fun x=>(sB 1 (nameM r1).1 [] (.iv x) .nils .nils .nils .nils).cs) (grows1 (nameM r1).1) sf_col (c:=Col.c) (fun _=>rfl) (by decide) (by(repeat' (first|exact Subs.nil|refine Subs.cons (Sub.refl _) ?_|refine Subs.cons Sub.nilsI ?_))) (fun n es=>by(repeat' (first|exact Pubs.nil|refine Pubs.cons Pub.here ?_|refine Pubs.cons Pub.same ?_))) (takeM (nameM r1).2 [[40]]) ot).sws [(1001,3),(1003,1)] (args2:= [.ptr 1000 0,.fn 24 [.ptr 3 0,.ptr 1 0]]) (bx2:= [(1000,rdB (takeM (nameM r1).2 [[40]])),(3,sB 1 (nameM r1).1 [] .nils .nils .nils .nils .nils),(1,pB)]) (bx2':= [(1000,rdB (psList psCol (takeM (nameM r1).2 [[40]])).2),(3,sB 1 (nameM r1).1 [] (.iv (.sl ((psList psCol (takeM (nameM r1).2 [[40]])).1.map Col.c))) .nils .nils .nils .nils),(1,pB)]) (tk2':= []) (res2:= .tup []) rfl rfl rfl rfl rfl
 have ol:=(sf_list sf_col (takeM (nameM r1).2 [[40]])).ok ot
 have ke:=take_any (gs:=gsP) (psList psCol (takeM (nameM r1).2 [[40]])).2 [[41]] ol (by decide)
 generalize takeM (psList psCol (takeM (nameM r1).2 [[40]])).2 [[41]] =r5 at*
 generalize psList psCol (takeM (nameM r1).2 [[40]])=p4 at*
 generalize takeM (nameM r1).2 [[40]] =r3 at*
 generalize nameM r1=p2 at*
 obtain⟨nm,r2⟩:=p2
 obtain⟨cols,r4⟩:=p4
 dsimp only at*
 refine CallG.intro _ Tryz.func11 rfl Tryz.ntmps11 rfl (fun w0 E0 hG=> ?_)
 (repeat' (first|(apply s_callW [];exact rfl;exact hG;exact kl;exact Subs.refl _;exact .cons rfl rfl (Subs.refl _) (.cons rfl rfl (Subs.refl _) (.cons rfl rfl (Subs.refl _) .nil));exact rfl;exact rfl;exact rfl;exact rfl)|(refine LW.is ?_;first|(apply s_callQ1 (q:=1000) (ha:=rfl);(case hb=>exact rfl);(case hc=>assumption);(case hG=>assumption);exact rfl;exact rfl;exact rfl;exact rfl))|(refine DR.is ?_;first|(apply d_callQ1 (q:=1000) (ha:=rfl);(case hb=>exact rfl);(case hc=>assumption);(case hG=>assumption);exact rfl;exact rfl;exact rfl;exact rfl))|refine wk1 ?_|refine wk2 (fun hb hp=> ?_) (fun hb hp=> ?_)|fail))
 all_goals refine wkq ?_ ?_
 all_goals rfl
set_option maxHeartbeats 16000000 in
theorem stmtMARK(r:Rd)(hr:RdOk r)(h1:(atRd r [wCREATE,wTABLE]).1=false)(h2:(atRd r [wCREATE,wINDEX]).1=true):
 CallG gsP Tryz.prog 11 [.ptr 1000 0] [(1000,rdB r)] [(1000,rdB (psMark (atRd r [wCREATE,wINDEX]).2).2)] [] (.agg ((psMark (atRd r [wCREATE,wINDEX]).2).1.cs.map .iv)):=by
 have k1:=at_any (gs:=gsP) r [wCREATE,wTABLE] hr (by decide)
 have k2:=at_any (gs:=gsP) r [wCREATE,wINDEX] hr (by decide)
 rw[h1,at_no h1] at k1
 rw[h2] at k2
 have o:=(sf_at r [wCREATE,wINDEX]).ok hr
 generalize (atRd r [wCREATE,wINDEX]).2=r1 at*
 clear h1 h2
 unfold psMark
 have kn1:=toP (name_any r1 o)
 have o1:=(sf_name r1).ok o
 have kt1:=take_any (gs:=gsP) (nameM r1).2 [wON] o1 (by decide)
 have o2:RdOk (psMark1 r1):=(sf_take (nameM r1).2 [wON]).ok o1
 unfold psMark1 at*
 generalize takeM (nameM r1).2 [wON] =r3 at*
 have kn2:=toP (name_any r3 o2)
 have o3:=(sf_name r3).ok o2
 have kt2:=take_any (gs:=gsP) (nameM r3).2 [[40]] o3 (by decide)
 have o4:RdOk (psMark2 r3):=(sf_take (nameM r3).2 [[40]]).ok o3
 unfold psMark2 at*
 generalize takeM (nameM r3).2 [[40]] =r5 at*
 have kn3:=toP (name_any r5 o4)
 have o5:=(sf_name r5).ok o4
 have kt3:=take_any (gs:=gsP) (nameM r5).2 [[41]] o5 (by decide)
 generalize takeM (nameM r5).2 [[41]] =r7 at*
 generalize nameM r5=p6 at*
 generalize nameM r3=p4 at*
 generalize nameM r1=p2 at*
 obtain⟨nm1,r2⟩:=p2
 obtain⟨nm2,r4⟩:=p4
 obtain⟨nm3,r6⟩:=p6
 dsimp only at*
 refine CallG.intro _ Tryz.func11 rfl Tryz.ntmps11 rfl (fun w0 E0 hG=> ?_)
 (repeat' (first|(refine LW.is ?_;first|(apply s_callQ1 (q:=1000) (ha:=rfl);(case hb=>exact rfl);(case hc=>assumption);(case hG=>assumption);exact rfl;exact rfl;exact rfl;exact rfl))|(refine DR.is ?_;first|(apply d_callQ1 (q:=1000) (ha:=rfl);(case hb=>exact rfl);(case hc=>assumption);(case hG=>assumption);exact rfl;exact rfl;exact rfl;exact rfl))|refine wk1 ?_|refine wk2 (fun hb hp=> ?_) (fun hb hp=> ?_)|fail))
 all_goals refine wkq ?_ ?_
 all_goals rfl
set_option maxHeartbeats 16000000 in
theorem stmtDROP(r:Rd)(hr:RdOk r)(h1:(atRd r [wCREATE,wTABLE]).1=false)(h2:(atRd r [wCREATE,wINDEX]).1=false)(h3:(atRd r [wDROP,wTABLE]).1=true):
 CallG gsP Tryz.prog 11 [.ptr 1000 0] [(1000,rdB r)] [(1000,rdB (psDrop (atRd r [wDROP,wTABLE]).2).2)] [] (.agg ((psDrop (atRd r [wDROP,wTABLE]).2).1.cs.map .iv)):=by
 have k1:=at_any (gs:=gsP) r [wCREATE,wTABLE] hr (by decide)
 have k2:=at_any (gs:=gsP) r [wCREATE,wINDEX] hr (by decide)
 have k3:=at_any (gs:=gsP) r [wDROP,wTABLE] hr (by decide)
 rw[h1,at_no h1] at k1
 rw[h2,at_no h2] at k2
 rw[h3] at k3
 have o:=(sf_at r [wDROP,wTABLE]).ok hr
 generalize (atRd r [wDROP,wTABLE]).2=r1 at*
 clear h1 h2 h3
 unfold psDrop
 have kn:=toP (name_any r1 o)
 generalize nameM r1=p2 at*
 obtain⟨nm,r2⟩:=p2
 dsimp only at*
 refine CallG.intro _ Tryz.func11 rfl Tryz.ntmps11 rfl (fun w0 E0 hG=> ?_)
 (repeat' (first|(refine LW.is ?_;first|(apply s_callQ1 (q:=1000) (ha:=rfl);(case hb=>exact rfl);(case hc=>assumption);(case hG=>assumption);exact rfl;exact rfl;exact rfl;exact rfl))|(refine DR.is ?_;first|(apply d_callQ1 (q:=1000) (ha:=rfl);(case hb=>exact rfl);(case hc=>assumption);(case hG=>assumption);exact rfl;exact rfl;exact rfl;exact rfl))|refine wk1 ?_|refine wk2 (fun hb hp=> ?_) (fun hb hp=> ?_)|fail))
 all_goals refine wkq ?_ ?_
 all_goals rfl
set_option maxHeartbeats 16000000 in
theorem stmtINSERT(r:Rd)(hr:RdOk r)(h1:(atRd r [wCREATE,wTABLE]).1=false)(h2:(atRd r [wCREATE,wINDEX]).1=false)(h3:(atRd r [wDROP,wTABLE]).1=false)(h4:(atRd r [wINSERT,wINTO]).1=true):
 CallG gsP Tryz.prog 11 [.ptr 1000 0] [(1000,rdB r)] [(1000,rdB (psInsert (atRd r [wINSERT,wINTO]).2).2)] [] (.agg ((psInsert (atRd r [wINSERT,wINTO]).2).1.cs.map .iv)):=by
 have k1:=at_any (gs:=gsP) r [wCREATE,wTABLE] hr (by decide)
 have k2:=at_any (gs:=gsP) r [wCREATE,wINDEX] hr (by decide)
 have k3:=at_any (gs:=gsP) r [wDROP,wTABLE] hr (by decide)
 have k4:=at_any (gs:=gsP) r [wINSERT,wINTO] hr (by decide)
 rw[h1,at_no h1] at k1
 rw[h2,at_no h2] at k2
 rw[h3,at_no h3] at k3
 rw[h4] at k4
 have o:=(sf_at r [wINSERT,wINTO]).ok hr
 generalize (atRd r [wINSERT,wINTO]).2=r1 at*
 clear h1 h2 h3 h4
 unfold psInsert
 have kn:=toP (name_any r1 o)
 have on:=(sf_name r1).ok o
 have kt:=take_any (gs:=gsP) (nameM r1).2 [wVALUES] on (by decide)
 have ot:=(sf_take (nameM r1).2 [wVALUES]).ok on
 have kl:=(list_pub 1 (fun x=>(sB 4 [] (nameM r1).1 .nils (.iv x) .nils .nils .nils).cs) (grows2 (nameM r1).1) sf_row (c:=exRow) (fun _=>rfl) (by decide) (by(repeat' (first|exact Subs.nil|refine Subs.cons (Sub.refl _) ?_|refine Subs.cons Sub.nilsI ?_))) (fun n es=>by(repeat' (first|exact Pubs.nil|refine Pubs.cons Pub.here ?_|refine Pubs.cons Pub.same ?_))) (takeM (nameM r1).2 [wVALUES]) ot).sws [(1001,3),(1003,1)] (args2:= [.ptr 1000 0,.fn 26 [.ptr 1 0,.ptr 3 0]]) (bx2:= [(1000,rdB (takeM (nameM r1).2 [wVALUES])),(3,sB 4 [] (nameM r1).1 .nils .nils .nils .nils .nils),(1,pB)]) (bx2':= [(1000,rdB (psList psRow (takeM (nameM r1).2 [wVALUES])).2),(3,sB 4 [] (nameM r1).1 .nils (.iv (.sl ((psList psRow (takeM (nameM r1).2 [wVALUES])).1.map exRow))) .nils .nils .nils),(1,pB)]) (tk2':= []) (res2:= .tup []) rfl rfl rfl rfl rfl
 generalize psList psRow (takeM (nameM r1).2 [wVALUES])=p4 at*
 generalize takeM (nameM r1).2 [wVALUES] =r3 at*
 generalize nameM r1=p2 at*
 obtain⟨nm,r2⟩:=p2
 obtain⟨rows,r4⟩:=p4
 dsimp only at*
 refine CallG.intro _ Tryz.func11 rfl Tryz.ntmps11 rfl (fun w0 E0 hG=> ?_)
 (repeat' (first|(apply s_callW [];exact rfl;exact hG;exact kl;exact Subs.refl _;exact .cons rfl rfl (Subs.refl _) (.cons rfl rfl (Subs.refl _) (.cons rfl rfl (Subs.refl _) .nil));exact rfl;exact rfl;exact rfl;exact rfl)|(refine LW.is ?_;first|(apply s_callQ1 (q:=1000) (ha:=rfl);(case hb=>exact rfl);(case hc=>assumption);(case hG=>assumption);exact rfl;exact rfl;exact rfl;exact rfl))|(refine DR.is ?_;first|(apply d_callQ1 (q:=1000) (ha:=rfl);(case hb=>exact rfl);(case hc=>assumption);(case hG=>assumption);exact rfl;exact rfl;exact rfl;exact rfl))|refine wk1 ?_|refine wk2 (fun hb hp=> ?_) (fun hb hp=> ?_)|fail))
 all_goals refine wkq ?_ ?_
 all_goals rfl
set_option maxHeartbeats 16000000 in
theorem stmtDELETE(r:Rd)(hr:RdOk r)(h1:(atRd r [wCREATE,wTABLE]).1=false)(h2:(atRd r [wCREATE,wINDEX]).1=false)(h3:(atRd r [wDROP,wTABLE]).1=false)(h4:(atRd r [wINSERT,wINTO]).1=false)(h5:(atRd r [wDELETE,wFROM]).1=true):
 CallG gsP Tryz.prog 11 [.ptr 1000 0] [(1000,rdB r)] [(1000,rdB (psDelete (atRd r [wDELETE,wFROM]).2).2)] [] (.agg ((psDelete (atRd r [wDELETE,wFROM]).2).1.cs.map .iv)):=by
 have k1:=at_any (gs:=gsP) r [wCREATE,wTABLE] hr (by decide)
 have k2:=at_any (gs:=gsP) r [wCREATE,wINDEX] hr (by decide)
 have k3:=at_any (gs:=gsP) r [wDROP,wTABLE] hr (by decide)
 have k4:=at_any (gs:=gsP) r [wINSERT,wINTO] hr (by decide)
 have k5:=at_any (gs:=gsP) r [wDELETE,wFROM] hr (by decide)
 rw[h1,at_no h1] at k1
 rw[h2,at_no h2] at k2
 rw[h3,at_no h3] at k3
 rw[h4,at_no h4] at k4
 rw[h5] at k5
 have o:=(sf_at r [wDELETE,wFROM]).ok hr
 generalize (atRd r [wDELETE,wFROM]).2=r1 at*
 clear h1 h2 h3 h4 h5
 unfold psDelete
 have kn:=toP (name_any r1 o)
 have kw:=where_any' (nameM r1).2 ((sf_name r1).ok o)
 generalize psWhere (nameM r1).2=p3 at*
 generalize nameM r1=p2 at*
 obtain⟨nm,r2⟩:=p2
 obtain⟨e,r3⟩:=p3
 dsimp only at*
 refine CallG.intro _ Tryz.func11 rfl Tryz.ntmps11 rfl (fun w0 E0 hG=> ?_)
 (repeat' (first|(refine LW.is ?_;first|(apply s_callQ1 (q:=1000) (ha:=rfl);(case hb=>exact rfl);(case hc=>assumption);(case hG=>assumption);exact rfl;exact rfl;exact rfl;exact rfl))|(refine DR.is ?_;first|(apply d_callQ1 (q:=1000) (ha:=rfl);(case hb=>exact rfl);(case hc=>assumption);(case hG=>assumption);exact rfl;exact rfl;exact rfl;exact rfl))|refine wk1 ?_|refine wk2 (fun hb hp=> ?_) (fun hb hp=> ?_)|fail))
 all_goals refine wkq ?_ ?_
 all_goals rfl
end Go.Proofs.YtadjbegnlimepaaGreatDoor
namespace Go.Proofs.YtadjbegnlimepaaGreatDoor
open Go.Abs
set_option maxRecDepth 100000
attribute [local irreducible] L Code.wp bodyPost Exit.then Exit.inBlock
set_option linter.unusedVariables false
set_option linter.unusedSimpArgs false
variable [Errs]
set_option linter.unusedSectionVars false
set_option maxHeartbeats 16000000 in
theorem stmtUPDATE(r:Rd)(hr:RdOk r)(h1:(atRd r [wCREATE,wTABLE]).1=false)(h2:(atRd r [wCREATE,wINDEX]).1=false)(h3:(atRd r [wDROP,wTABLE]).1=false)(h4:(atRd r [wINSERT,wINTO]).1=false)(h5:(atRd r [wDELETE,wFROM]).1=false)(h6:(atRd r [wUPDATE]).1=true):
 CallG gsP Tryz.prog 11 [.ptr 1000 0] [(1000,rdB r)] [(1000,rdB (psUpdate (atRd r [wUPDATE]).2).2)] [] (.agg ((psUpdate (atRd r [wUPDATE]).2).1.cs.map .iv)):=by
 have k1:=at_any (gs:=gsP) r [wCREATE,wTABLE] hr (by decide)
 have k2:=at_any (gs:=gsP) r [wCREATE,wINDEX] hr (by decide)
 have k3:=at_any (gs:=gsP) r [wDROP,wTABLE] hr (by decide)
 have k4:=at_any (gs:=gsP) r [wINSERT,wINTO] hr (by decide)
 have k5:=at_any (gs:=gsP) r [wDELETE,wFROM] hr (by decide)
 have k6:=at_any (gs:=gsP) r [wUPDATE] hr (by decide)
 rw[h1,at_no h1] at k1
 rw[h2,at_no h2] at k2
 rw[h3,at_no h3] at k3
 rw[h4,at_no h4] at k4
 rw[h5,at_no h5] at k5
 rw[h6] at k6
 have o:=(sf_at r [wUPDATE]).ok hr
 generalize (atRd r [wUPDATE]).2=r1 at*
 clear h1 h2 h3 h4 h5 h6
 unfold psUpdate psUpd1
 have kn:=toP (name_any r1 o)
 have on:=(sf_name r1).ok o
 have kt:=take_any (gs:=gsP) (nameM r1).2 [wSET] on (by decide)
 have ot:=(sf_take (nameM r1).2 [wSET]).ok on
 have kl:=(list_pub 9 (fun x=>(sB 6 [] (nameM r1).1 .nils .nils (.iv x) .nils .nils).cs) (grows3 (nameM r1).1) sf_set (c:=Ast.c) (fun _=>rfl) (by decide) (by(repeat' (first|exact Subs.nil|refine Subs.cons (Sub.refl _) ?_|refine Subs.cons Sub.nilsI ?_))) (fun n es=>by(repeat' (first|exact Pubs.nil|refine Pubs.cons Pub.here ?_|refine Pubs.cons Pub.same ?_))) (takeM (nameM r1).2 [wSET]) ot).sws [(1001,3),(1003,1)] (args2:= [.ptr 1000 0,.fn 30 [.ptr 1 0,.ptr 3 0]]) (bx2:= [(1000,rdB (takeM (nameM r1).2 [wSET])),(3,sB 6 [] (nameM r1).1 .nils .nils .nils .nils .nils),(1,pB)]) (bx2':= [(1000,rdB (psList psSet (takeM (nameM r1).2 [wSET])).2),(3,sB 6 [] (nameM r1).1 .nils .nils (.iv (.sl ((psList psSet (takeM (nameM r1).2 [wSET])).1.map Ast.c))) .nils .nils),(1,pB)]) (tk2':= []) (res2:= .tup []) rfl rfl rfl rfl rfl
 have kw:=where_any' (psList psSet (takeM (nameM r1).2 [wSET])).2 ((sf_list sf_set _).ok ot)
 generalize psWhere (psList psSet (takeM (nameM r1).2 [wSET])).2=p5 at*
 generalize psList psSet (takeM (nameM r1).2 [wSET])=p4 at*
 generalize takeM (nameM r1).2 [wSET] =r3 at*
 generalize nameM r1=p2 at*
 obtain⟨nm,r2⟩:=p2
 obtain⟨sets,r4⟩:=p4
 obtain⟨e,r5⟩:=p5
 dsimp only at*
 refine CallG.intro _ Tryz.func11 rfl Tryz.ntmps11 rfl (fun w0 E0 hG=> ?_)
 (repeat' (first|(apply s_callW [];exact rfl;exact hG;exact kl;exact Subs.refl _;exact .cons rfl rfl (Subs.refl _) (.cons rfl rfl (Subs.refl _) (.cons rfl rfl (Subs.refl _) .nil));exact rfl;exact rfl;exact rfl;exact rfl)|(refine LW.is ?_;first|(apply s_callQ1 (q:=1000) (ha:=rfl);(case hb=>exact rfl);(case hc=>assumption);(case hG=>assumption);exact rfl;exact rfl;exact rfl;exact rfl))|(refine DR.is ?_;first|(apply d_callQ1 (q:=1000) (ha:=rfl);(case hb=>exact rfl);(case hc=>assumption);(case hG=>assumption);exact rfl;exact rfl;exact rfl;exact rfl))|refine wk1 ?_|refine wk2 (fun hb hp=> ?_) (fun hb hp=> ?_)|fail))
 all_goals refine wkq ?_ ?_
 all_goals rfl
end Go.Proofs.YtadjbegnlimepaaGreatDoor
