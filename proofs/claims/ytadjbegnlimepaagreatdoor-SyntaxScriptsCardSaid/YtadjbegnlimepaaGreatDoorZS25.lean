/- Several texts in one, each with its own sentence ahead of it. Conditions: each one says its own. -/
import Derived.Lib.AtoiAll
import Derived.Lib.ItoaNum
import Derived.Lib.AtoiErrMem
import Derived.Test.YtadjbegnlimepaaGreatDoorZS18
import Derived.Test.YtadjbegnlimepaaGreatDoorZS21
import Derived.Test.YtadjbegnlimepaaGreatDoorZS23
import Derived.Test.YtadjbegnlimepaaGreatDoorZS24
set_option linter.all false
namespace Go.Proofs.YtadjbegnlimepaaGreatDoor
open Go.Abs
set_option maxRecDepth 100000
attribute [local irreducible] L Code.wp bodyPost Exit.then Exit.inBlock
set_option linter.unusedVariables false
set_option linter.unusedSimpArgs false
def psRef(r:Rd):Ex×Rd:=
 if(atRd (nameM r).2 [[46]]).1 then(.mk 2 nilV (nameM r).1 (nameM (atRd (nameM r).2 [[46]]).2).1 0 [],(nameM (atRd (nameM r).2 [[46]]).2).2)
 else(.mk 2 nilV [] (nameM r).1 0 [],(atRd (nameM r).2 [[46]]).2)
theorem ref_any(r:Rd)(hr:RdOk r):CallG gs0 Tryz.prog 113 [.ptr 1000 0] [(1000,rdB r)] [(1000,rdB (psRef r).2)] [] (.agg ((psRef r).1.cs.map .iv)):=by
 have k1:=name_any r hr
 have k2:=at_any (gs:=gs0) (nameM r).2 [[46]] hr.name (by decide)
 have k3:=name_any (atRd (nameM r).2 [[46]]).2 (hr.name.at _)
 unfold psRef
 generalize nameM (atRd (nameM r).2 [[46]]).2=p3 at*
 generalize atRd (nameM r).2 [[46]] =p2 at*
 generalize nameM r=p1 at*
 obtain⟨s1,r1⟩:=p1
 obtain⟨b2,r2⟩:=p2
 obtain⟨s3,r3⟩:=p3
 dsimp only at k1 k2 k3⊢
 refine CallG.intro _ Tryz.func113 rfl Tryz.ntmps113 rfl (fun w0 E0 hG=> ?_)
 cases b2 with
 |true=>
  (repeat' (first|(refine LW.is ?_;first|(apply s_callQ1 (q:=1000) (ha:=rfl);(case hb=>exact rfl);(case hc=>assumption);(case hG=>assumption);exact rfl;exact rfl;exact rfl;exact rfl))|(refine DR.is ?_;first|(apply d_callQ1 (q:=1000) (ha:=rfl);(case hb=>exact rfl);(case hc=>assumption);(case hG=>assumption);exact rfl;exact rfl;exact rfl;exact rfl))|refine wk1 ?_|refine wk2 (fun hb hp=> ?_) (fun hb hp=> ?_)|fail))
  all_goals refine wkq ?_ ?_
  all_goals rfl
 |false=>
  (repeat' (first|(refine LW.is ?_;first|(apply s_callQ1 (q:=1000) (ha:=rfl);(case hb=>exact rfl);(case hc=>assumption);(case hG=>assumption);exact rfl;exact rfl;exact rfl;exact rfl))|(refine DR.is ?_;first|(apply d_callQ1 (q:=1000) (ha:=rfl);(case hb=>exact rfl);(case hc=>assumption);(case hG=>assumption);exact rfl;exact rfl;exact rfl;exact rfl))|refine wk1 ?_|refine wk2 (fun hb hp=> ?_) (fun hb hp=> ?_)|fail))
  all_goals refine wkq ?_ ?_
  all_goals rfl
end Go.Proofs.YtadjbegnlimepaaGreatDoor
namespace Go.Proofs.YtadjbegnlimepaaGreatDoor
open Go.Abs
set_option maxRecDepth 100000
set_option linter.unusedVariables false
set_option linter.unusedSimpArgs false
def numS(s:Str):Option Int:=match Lib.atoiAll s with
 | .ok n=>if Lib.itoa n=s∧n≤1000000 then some n else none
 |_=>none
def psNumber(r:Rd):Int×Rd:=match numS (nextM r).1 with
 |some n=>(n,(nextM r).2)
 |none=>(0,⟨(nextM r).2.l,true⟩)
def psText(s:Str):Val:=⟨2,0,(s.drop 1).take (s.length - 2)⟩
def psLit(r:Rd):(Val×Bool)×Rd:=
 if(atRd r [[110,117,108,108]]).1 then((nilV,true),(atRd r [[110,117,108,108]]).2)
 else if(atRd r [[45]]).1 then((⟨1,-(psNumber (atRd r [[45]]).2).1,[]⟩,true),(psNumber (atRd r [[45]]).2).2)
 else if r.front≠ [] ∧digC (r.front.headD 0)=true then((⟨1,(psNumber r).1,[]⟩,true),(psNumber r).2)
 else if r.front≠ [] ∧r.front.headD 0=39 then((psText r.front,true),⟨(nextM r).2.l,(nextM r).2.bad|| !goodM (psText r.front)⟩)
 else((nilV,false),r)
def psBad(r:Rd):Ex×Rd:=(nilE,⟨r.l,true⟩)
def ex2(op:Int)(a b:Ex):Ex:= .mk op nilV [] [] 0 [a,b]
def ex1(op:Int)(a:Ex):Ex:= .mk op nilV [] [] 0 [a]
def psAtom(orF:Rd→Ex×Rd)(r:Rd):Ex×Rd:=
 if r.bad then psBad r
 else if(atRd r [[40]]).1 then((orF (atRd r [[40]]).2).1,takeM (orF (atRd r [[40]]).2).2 [[41]])
 else if(psLit r).1.2 then(.mk 1 (psLit r).1.1 [] [] 0 [],(psLit r).2)
 else psRef r
def psSumL(atom:Rd→Ex×Rd):Nat→Ex→Rd→Ex×Rd
 |0,e,r=>(e,r)
 |n+1,e,r=>
  if r.bad then(e,r)
  else if(atRd r [[43]]).1 then psSumL atom n (ex2 3 e (atom (atRd r [[43]]).2).1) (atom (atRd r [[43]]).2).2
  else if(atRd r [[45]]).1 then psSumL atom n (ex2 4 e (atom (atRd r [[45]]).2).1) (atom (atRd r [[45]]).2).2
  else(e,r)
def psSum(atom:Rd→Ex×Rd)(r:Rd):Ex×Rd:=psSumL atom ((atom r).2.l.length+1) (atom r).1 (atom r).2
def psTest(testN sum:Rd→Ex×Rd)(r:Rd):Ex×Rd:=
 if r.bad then psBad r
 else if(atRd r [[110,111,116]]).1 then(ex1 9 (testN (atRd r [[110,111,116]]).2).1,(testN (atRd r [[110,111,116]]).2).2)
 else if(atRd (sum r).2 [[105,115],[110,117,108,108]]).1 then(ex1 10 (sum r).1,(atRd (sum r).2 [[105,115],[110,117,108,108]]).2)
 else if(atRd (sum r).2 [[61]]).1 then(ex2 5 (sum r).1 (sum (atRd (sum r).2 [[61]]).2).1,(sum (atRd (sum r).2 [[61]]).2).2)
 else if(atRd (sum r).2 [[60]]).1 then(ex2 6 (sum r).1 (sum (atRd (sum r).2 [[60]]).2).1,(sum (atRd (sum r).2 [[60]]).2).2)
 else sum r
def psJoinL(op:Int)(w:Str)(sub:Rd→Ex×Rd):Nat→Ex→Rd→Ex×Rd
 |0,e,r=>(e,r)
 |n+1,e,r=>
  if r.bad then(e,r)
  else if(atRd r [w]).1 then psJoinL op w sub n (ex2 op e (sub (atRd r [w]).2).1) (sub (atRd r [w]).2).2
  else(e,r)
def psJoin(op:Int)(w:Str)(sub:Rd→Ex×Rd)(r:Rd):Ex×Rd:=psJoinL op w sub ((sub r).2.l.length+1) (sub r).1 (sub r).2
def psAnd(test:Rd→Ex×Rd):Rd→Ex×Rd:=psJoin 7 [97,110,100] test
def psOr(test:Rd→Ex×Rd):Rd→Ex×Rd:=psJoin 8 [111,114] (psAnd test)
def psT:Nat→Rd→Ex×Rd
 |0=>psBad
 |k+1=>psTest (psT k) (psSum (psAtom (psOr (psT k))))
def psO(k:Nat):Rd→Ex×Rd:=psOr (psT k)
end Go.Proofs.YtadjbegnlimepaaGreatDoor
namespace Go.Proofs.YtadjbegnlimepaaGreatDoor
open Go.Abs
set_option maxRecDepth 100000
set_option linter.unusedVariables false
set_option linter.unusedSimpArgs false
structure Sf (r r':Rd):Prop where
 h:r'.l<:+r.l
theorem Sf.refl(r:Rd):Sf r r:=⟨List.suffix_refl _⟩
theorem Sf.trans{a b c:Rd}(h:Sf a b)(k:Sf b c):Sf a c:=⟨k.h.trans h.h⟩
theorem Sf.ok{r r':Rd}(h:Sf r r')(k:RdOk r):RdOk r':=⟨Nat.le_trans h.h.length_le k.n,fun s hs=>k.w s (h.h.subset hs)⟩
theorem Sf.le{r r':Rd}(h:Sf r r'):r'.l.length≤r.l.length:=h.h.length_le
theorem Sf.mark(r:Rd)(b:Bool):Sf r ⟨r.l,b⟩:=⟨List.suffix_refl _⟩
theorem Sf.to{r r':Rd}(h:Sf r r')(b:Bool):Sf r ⟨r'.l,b⟩:=⟨h.h⟩
theorem sf_next(r:Rd):Sf r (nextM r).2:=by
 unfold nextM;split
 · exact .mark r true
 · exact⟨List.drop_suffix _ _⟩
theorem sf_at(r:Rd)(ws:List Str):Sf r (atRd r ws).2:=by
 unfold atRd;split
 · exact .refl r
 · split
   · exact⟨List.drop_suffix _ _⟩
   · exact .refl r
theorem at_lt{r:Rd}{ws:List Str}(h:(atRd r ws).1=true)(hw:ws≠ []):(atRd r ws).2.l.length<r.l.length:=by
 unfold atRd at h⊢
 split at h
 · cases h
 · rename_i h1
   rw[if_neg h1]
   split at h
   · rename_i h2
     rw[if_pos h2]
     have:0<ws.length:=List.length_pos_iff.2 hw
     simp only[List.length_drop];omega
   · cases h
theorem sf_take(r:Rd)(ws:List Str):Sf r (takeM r ws):=by
 unfold takeM;split
 · exact sf_at r ws
 · exact(sf_at r ws).to true
theorem sf_name(r:Rd):Sf r (nameM r).2:=(sf_next r).to _
theorem sf_ref(r:Rd):Sf r (psRef r).2:=by
 unfold psRef;split
 · exact((sf_name r).trans (sf_at _ _)).trans (sf_name _)
 · exact(sf_name r).trans (sf_at _ _)
theorem sf_number(r:Rd):Sf r (psNumber r).2:=by
 unfold psNumber;split
 · exact sf_next r
 · exact(sf_next r).to true
theorem sf_lit(r:Rd):Sf r (psLit r).2:=by
 unfold psLit
 split
 · exact sf_at r _
 split
 · exact(sf_at r _).trans (sf_number _)
 split
 · exact sf_number r
 split
 · exact(sf_next r).to _
 · exact .refl r
def Eats(f:Rd→Ex×Rd):Prop:= ∀r,Sf r (f r).2
theorem eats_bad:Eats psBad:=fun r=> .mark r true
theorem eats_atom{o:Rd→Ex×Rd}(h:Eats o):Eats (psAtom o):=fun r=>by
 unfold psAtom
 split
 · exact eats_bad r
 split
 · exact((sf_at r _).trans (h _)).trans (sf_take _ _)
 split
 · exact sf_lit r
 · exact sf_ref r
theorem eats_sumL{a:Rd→Ex×Rd}(h:Eats a): ∀(n:Nat) (e:Ex) (r:Rd),Sf r (psSumL a n e r).2
 |0,e,r=> .refl r
 |n+1,e,r=>by
  unfold psSumL
  split
  · exact .refl r
  split
  · exact((sf_at r _).trans (h _)).trans (eats_sumL h n _ _)
  split
  · exact((sf_at r _).trans (h _)).trans (eats_sumL h n _ _)
  · exact .refl r
theorem eats_sum{a:Rd→Ex×Rd}(h:Eats a):Eats (psSum a):=fun r=>(h r).trans (eats_sumL h _ _ _)
theorem eats_test{t s:Rd→Ex×Rd}(ht:Eats t)(hs:Eats s):Eats (psTest t s):=fun r=>by
 unfold psTest
 split
 · exact eats_bad r
 split
 · exact(sf_at r _).trans (ht _)
 split
 · exact(hs r).trans (sf_at _ _)
 split
 · exact((hs r).trans (sf_at _ _)).trans (hs _)
 split
 · exact((hs r).trans (sf_at _ _)).trans (hs _)
 · exact hs r
theorem eats_joinL{op:Int}{w:Str}{s:Rd→Ex×Rd}(h:Eats s): ∀(n:Nat) (e:Ex) (r:Rd),Sf r (psJoinL op w s n e r).2
 |0,e,r=> .refl r
 |n+1,e,r=>by
  unfold psJoinL
  split
  · exact .refl r
  split
  · exact((sf_at r _).trans (h _)).trans (eats_joinL h n _ _)
  · exact .refl r
theorem eats_join{op:Int}{w:Str}{s:Rd→Ex×Rd}(h:Eats s):Eats (psJoin op w s):=fun r=>(h r).trans (eats_joinL h _ _ _)
theorem eats_T: ∀k,Eats (psT k)
 |0=>eats_bad
 |k+1=>eats_test (eats_T k) (eats_sum (eats_atom (eats_join (eats_join (eats_T k)))))
theorem eats_O(k:Nat):Eats (psO k):=eats_join (eats_join (eats_T k))
end Go.Proofs.YtadjbegnlimepaaGreatDoor
namespace Go.Proofs.YtadjbegnlimepaaGreatDoor
open Go.Abs
set_option maxRecDepth 100000
open Go.RowKit (Below)
attribute [local irreducible] L Code.wp bodyPost Exit.then Exit.inBlock
set_option linter.unusedVariables false
set_option linter.unusedSimpArgs false
variable [Errs]
set_option linter.unusedSectionVars false
def AtoiR(s:Str)(res:AV):Prop:=(∃v,Lib.atoiAll s= .ok v∧res= .tup [aI v,.iv (.im .nilIface)])∨((∀v,Lib.atoiAll s≠ .ok v)∧ ∃x te pe,res= .tup [aI x,.iv (.im (.iface te pe))])
theorem atoi_calls(s:Str)(hs:s.length≤1000000)(E:Env)(w:World)(us:List Value)(hr:RelL E w [aS s] us)(hG:Glob gsP E w):
 Calls Tryz.prog 58 us.toArray w fun e w'=> ∃res u,AtoiR s res∧e= .returned u∧RepA E w' res u∧Below w.heap.size w w':=by
 rw[hr.im1]
 have hsz:(⟨s.toArray⟩:ByteArray).size=s.length:=by simp[ByteArray.size]
 have hl:(⟨s.toArray⟩:ByteArray).data.toList=s:=rfl
 cases h:Lib.atoiAll s with
 |ok v=>
  refine(Any.strconv_Atoi_ok Tryz.laysAtoi ⟨s.toArray⟩ (by rw[hsz];omega) v (by rw[hl];exact h) w).mono ?_
  rintro e w' ⟨rfl,hw⟩
  refine⟨_,_,.inl ⟨v,h,rfl⟩,rfl,RepA.tup2 (.im rfl) (.im rfl),?_⟩
  rcases hw with rfl|⟨t,rfl⟩
  · exact Below.refl _ _
  · exact Lib.bytesWorld_below _ _ _
 |range=>
  refine(Any.strconv_Atoi_range Tryz.laysAtoi ⟨s.toArray⟩ (by rw[hsz];omega) (by rw[hl];exact h) Errs.r w (hG.one gsP_r) Errs.hr).mono ?_
  rintro e w' ⟨N,rfl,_,_,hb⟩
  exact⟨_,_,.inr ⟨fun v e=>(by rw[h] at e;cases e),_,_,_,rfl⟩,rfl,RepA.tup2 (.im rfl) (.im rfl),hb⟩
 |_=>
  refine(Any.strconv_Atoi_syntax Tryz.laysAtoi ⟨s.toArray⟩ (by rw[hsz];omega) (by rw[hl];exact h) Errs.s w (hG.one gsP_s) Errs.hs).mono ?_
  rintro e w' ⟨N,rfl,_,_,hb⟩
  exact⟨_,_,.inr ⟨fun v e=>(by rw[h] at e;cases e),_,_,_,rfl⟩,rfl,RepA.tup2 (.im rfl) (.im rfl),hb⟩
theorem itoa_any(n:Int)(h0: -9223372036854775808≤n)(h1:n≤9223372036854775807):CallG gsP Tryz.prog 59 [aI n] [] [] [] (aS (Lib.itoa n)):=by
 refine CallG.below rfl (fun E w us hr hG=> ?_)
 rw[hr.im1]
 have ht:Lib.TabIs Tryz.prog w "internal/strconv.uint64pow10" .u64 Lib.pow10Tab:=by
  obtain⟨cs,ty,sp,e1,e2⟩:=hG.1.2 _ _ gsP_p (fun e=>by have:=congrArg List.length e;simp[pow10,Lib.pow10Tab_length] at this)
  have hg:Program.globalNamed Tryz.prog "internal/strconv.uint64pow10" =some 8:=Tryz.laysItoa.m17
  have:cs=(Lib.pow10Tab.map fun z=>Value.int .u64 z).toArray:=by
   apply Array.ext
   · rw[e2];simp[pow10]
   · intro i h1 h2
     have hi:i<Lib.pow10Tab.length:=by simpa using h2
     obtain⟨_,v,c1,c2⟩:=hG.2 _ _ gsP_p i _ (by rw[pow10,List.getElem?_map,List.getElem?_eq_getElem hi];rfl)
     have:=c2.im_eq
     subst this
     simp only[World.cell?,e1] at c1
     simp at c1
     obtain⟨_,c1⟩:=Array.getElem?_eq_some_iff.1 c1
     simpa using c1
  subst this
  simp[Lib.TabIs,World.var?,hg,e1]
 refine(Any.strconv_Itoa Tryz.laysItoa n h0 h1 w ht).mono ?_
 rintro e w' ⟨rfl,k,os,rfl⟩
 refine⟨rfl,rfl,rfl,rfl,?_,fun j hj=> ?_⟩
 · simp[Go.Sort.grow,World.drewN]
 · simp[Go.Sort.grow,World.drewN,Array.getElem?_append,hj]
instance:IfTy Tryz.prog 89:=⟨by kernel_rfl⟩
theorem atoiR_ment{s:Str}: ∀res,AtoiR s res→AV.mentIn [] res=true:=by
 rintro res (⟨v,_,rfl⟩|⟨_,x,te,pe,rfl⟩)<;>rfl
set_option maxHeartbeats 8000000 in
theorem number_any(r:Rd)(hr:RdOk r):CallG gsP Tryz.prog 33 [.ptr 1000 0] [(1000,rdB r)] [(1000,rdB (psNumber r).2)] [] (aI (psNumber r).1):=by
 have kn:=next_any (gs:=gsP) r
 have hl:=next_len hr
 unfold psNumber
 generalize nextM r=p at*
 obtain⟨s,l,bad⟩:=p
 dsimp only at kn hl⊢
 have kA:=atoi_calls s hl
 refine CallG.intro _ Tryz.func33 rfl Tryz.ntmps33 rfl (fun w0 E0 hG=> ?_)
 (repeat' (first|(apply s_callE (AtoiR s);exact rfl;exact hG;exact kA;exact rfl;exact atoiR_ment)|(refine LW.is ?_;first|(apply s_callQ1 (q:=1000) (ha:=rfl);(case hb=>exact rfl);(case hc=>assumption);(case hG=>assumption);exact rfl;exact rfl;exact rfl;exact rfl))|(refine DR.is ?_;first|(apply d_callQ1 (q:=1000) (ha:=rfl);(case hb=>exact rfl);(case hc=>assumption);(case hG=>assumption);exact rfl;exact rfl;exact rfl;exact rfl))|refine wk1 ?_|refine wk2 (fun hb hp=> ?_) (fun hb hp=> ?_)|fail))
 rintro res (⟨v,hv,rfl⟩|⟨hno,x,te,pe,rfl⟩)
 · obtain⟨b0,b1⟩:=Lib.atoiAll_bounds hv
   have ki:=itoa_any v b0 b1
   have hN:numS s=if Lib.itoa v=s∧v≤1000000 then some v else none:=by unfold numS;rw[hv]
   by_cases h1:Lib.itoa v=s
   · have q1:(!(Lib.itoa v==s))=false:=by simp[h1]
     by_cases h2:v≤1000000
     · have q2:decide (1000000<v)=false:=decide_eq_false (by omega)
       rw[hN,if_pos ⟨h1,h2⟩]
       (repeat' (first|(refine LW.is ?_;first|(apply s_vr;exact rfl;apply v_neqIN;exact rfl))|(refine DR.is ?_;first|(apply d_vr;exact rfl;apply v_neqIN;exact rfl))|refine wk1 ?_|refine wk2 (fun hb hp=> ?_) (fun hb hp=> ?_)|fail))
       all_goals refine wkq ?_ ?_
       all_goals rfl
     · have q2:decide (1000000<v)=true:=decide_eq_true (by omega)
       rw[hN,if_neg (fun h=>h2 h.2)]
       (repeat' (first|(refine LW.is ?_;first|(apply s_vr;exact rfl;apply v_neqIN;exact rfl))|(refine DR.is ?_;first|(apply d_vr;exact rfl;apply v_neqIN;exact rfl))|refine wk1 ?_|refine wk2 (fun hb hp=> ?_) (fun hb hp=> ?_)|fail))
       all_goals refine wkq ?_ ?_
       all_goals rfl
   · have q1:(!(Lib.itoa v==s))=true:=by simp[h1]
     rw[hN,if_neg (fun h=>h1 h.1)]
     (repeat' (first|(refine LW.is ?_;first|(apply s_vr;exact rfl;apply v_neqIN;exact rfl))|(refine DR.is ?_;first|(apply d_vr;exact rfl;apply v_neqIN;exact rfl))|refine wk1 ?_|refine wk2 (fun hb hp=> ?_) (fun hb hp=> ?_)|fail))
     all_goals refine wkq ?_ ?_
     all_goals rfl
 · have hN:numS s=none:=by
    unfold numS
    split
    · rename_i v hv;exact absurd hv (hno v)
    · rfl
   rw[hN]
   (repeat' (first|(refine LW.is ?_;first|(apply s_vr;exact rfl;apply v_neqIS;exact rfl))|(refine DR.is ?_;first|(apply d_vr;exact rfl;apply v_neqIS;exact rfl))|refine wk1 ?_|refine wk2 (fun hb hp=> ?_) (fun hb hp=> ?_)|fail))
   all_goals refine wkq ?_ ?_
   all_goals rfl
end Go.Proofs.YtadjbegnlimepaaGreatDoor
namespace Go.Abs
set_option linter.unusedVariables false
theorem wkkq{c:Ctx}{st st1:St}(h:Wk c st st1:=by(refine Wk.mk' (by intro id h;simp[keys] at h;subst h;rfl) ?_ ?_ ?_<;>repeat' (first|exact WkF.nil|exact WkB.nil|exact WkT.nil|(refine WkF.cons rfl (Sub.refl _) ?_)|(refine WkB.cons rfl rfl (Subs.refl _) ?_)|(refine WkT.cons rfl ?_)))):Wk c st st1:=h
end Go.Abs
namespace Go.Proofs.YtadjbegnlimepaaGreatDoor
open Go.Abs
set_option maxRecDepth 100000
attribute [local irreducible] L Code.wp bodyPost Exit.then Exit.inBlock
set_option linter.unusedVariables false
set_option linter.unusedSimpArgs false
variable [Errs]
set_option linter.unusedSectionVars false
def Parses(f:FuncId)(d:Int)(m:Rd→Ex×Rd):Prop:= ∀r,RdOk r→CallG gsP Tryz.prog f [.ptr 1000 0,aI d] [(1000,rdB r)] [(1000,rdB (m r).2)] [] (.agg ((m r).1.cs.map .iv))
theorem sub_ex2{N:Nat}(op:Int)(a b:Ex):Subs [aI op,aI 0,aI 0,aS [],aS [],aS [],aI 0,.row N [a.cs,b.cs]] ((ex2 op a b).cs.map .iv):=by
 refine .cons (Sub.refl _) (.cons (Sub.refl _) (.cons (Sub.refl _) (.cons (Sub.refl _) (.cons (Sub.refl _) (.cons (Sub.refl _) (.cons (Sub.refl _) (.cons (Sub.trans (Sub.row _ _) (Sub.of_eq ?_)) .nil)))))))
 show AV.iv (.sl [a.cs,b.cs])= .iv (.sl ([a,b].map Ex.c))
 rw[List.map_cons,List.map_cons,Ex.c_cs,Ex.c_cs];rfl
theorem at_no{r:Rd}{ws:List Str}(h:(atRd r ws).1=false):(atRd r ws).2=r:=by
 unfold atRd at h⊢
 split
 · rfl
 · rename_i h1
   rw[if_neg h1] at h
   split
   · rename_i h2;rw[if_pos h2] at h;cases h
   · rfl
abbrev zeroE:Box:=⟨37,.l [aI 0,aI 0,aI 0,aS [],aS [],aS [],aI 0,.nils]⟩
set_option maxHeartbeats 8000000 in
theorem sum_any{d:Int}{f:Rd→Ex×Rd}(hf:Eats f)(ka:Parses 103 d f):Parses 89 d (psSum f):=by
 intro r hr
 have k0:=ka r hr
 have hr1:=(hf r).ok hr
 unfold psSum
 generalize hW:psSumL f ((f r).2.l.length+1) (f r).1 (f r).2=W
 refine CallG.intro _ Tryz.func89 rfl Tryz.ntmps89 rfl (fun w0 E0 hG=> ?_)
 (repeat' (first|(refine LW.is ?_;first|(apply s_callQ1 (q:=1000) (ha:=rfl);(case hb=>exact rfl);(case hc=>assumption);(case hG=>assumption);exact rfl;exact rfl;exact rfl;exact rfl))|(refine DR.is ?_;first|(apply d_callQ1 (q:=1000) (ha:=rfl);(case hb=>exact rfl);(case hc=>assumption);(case hG=>assumption);exact rfl;exact rfl;exact rfl;exact rfl))|refine wk1 ?_|refine wk2 (fun hb hp=> ?_) (fun hb hp=> ?_)|fail))
 refine L.loopP (ι:=Nat×Ex×Rd) (fun i=>⟨[(5,.ptr 5 0),(4,.ptr 4 0),(1,aI d),(0,.ptr 1000 0)],[(1000,rdB i.2.2),(5,⟨37,.l (i.2.1.cs.map .iv)⟩),(4,zeroE)],[]⟩) (fun i=>i.1) (fun i=>psSumL f i.1 i.2.1 i.2.2=W∧i.2.2.l.length<i.1∧RdOk i.2.2) (i0:=((f r).2.l.length+1,(f r).1,(f r).2)) ?_ ⟨hW,Nat.lt_succ_self _,hr1⟩ ?_
 · exact wkkq
 clear hW k0 hr1 hr
 rintro ⟨n,e,r⟩ ⟨hI,hn,hr⟩ K hK
 dsimp only at hI hn hr hK⊢
 cases n with
 |zero=>omega
 |succ n=>
 unfold psSumL at hI
 cases hb:r.bad with
 |true=>
  rw[if_pos hb] at hI
  subst hI
  have q:(!r.bad)=false:=by rw[hb];rfl
  (repeat' (first|refine wk1 ?_|refine wk2 (fun hb hp=> ?_) (fun hb hp=> ?_)|fail))
  all_goals refine wkq ?_ ?_
  all_goals rfl
 |false=>
  rw[if_neg (by rw[hb];decide)] at hI
  have q:(!r.bad)=true:=by rw[hb];rfl
  have k1:=at_any (gs:=gsP) r [[43]] hr (by decide)
  cases h1:(atRd r [[43]]).1 with
  |true=>
   rw[if_pos h1] at hI
   have hl:=at_lt h1 (by decide)
   have h2:=ka (atRd r [[43]]).2 ((sf_at r _).ok hr)
   have hs:=hf (atRd r [[43]]).2
   have hok:=hs.ok ((sf_at r _).ok hr)
   have hle:=hs.le
   rw[h1] at k1
   generalize f (atRd r [[43]]).2=p at*
   generalize (atRd r [[43]]).2=r1 at*
   obtain⟨x,r2⟩:=p
   dsimp only at h2 hI hok hle
   (repeat' (first|(refine LW.is ?_;first|(apply s_callQ1 (q:=1000) (ha:=rfl);(case hb=>exact rfl);(case hc=>assumption);(case hG=>assumption);exact rfl;exact rfl;exact rfl;exact rfl))|(refine DR.is ?_;first|(apply d_callQ1 (q:=1000) (ha:=rfl);(case hb=>exact rfl);(case hc=>assumption);(case hG=>assumption);exact rfl;exact rfl;exact rfl;exact rfl))|refine wk1 ?_|refine wk2 (fun hb hp=> ?_) (fun hb hp=> ?_)|fail))
   exact hK _ (n,ex2 3 e x,r2) ⟨hI,by dsimp only;omega,hok⟩ (Nat.lt_succ_self _) (Wk.mk' (by intro id h;simp[keys] at h;subst h;rfl) (.cons rfl (Sub.refl _) (.cons rfl (Sub.refl _) (.cons rfl (Sub.refl _) (.cons rfl (Sub.refl _) .nil)))) (.cons rfl rfl (Subs.refl _) (.cons rfl rfl (sub_ex2 3 e x) (.cons rfl rfl (Subs.refl _) .nil))) .nil)
  |false=>
   rw[if_neg (by rw[h1];decide)] at hI
   rw[h1,at_no h1] at k1
   have k2:=at_any (gs:=gsP) r [[45]] hr (by decide)
   cases h3:(atRd r [[45]]).1 with
   |true=>
    rw[if_pos h3] at hI
    have hl:=at_lt h3 (by decide)
    have h2:=ka (atRd r [[45]]).2 ((sf_at r _).ok hr)
    have hs:=hf (atRd r [[45]]).2
    have hok:=hs.ok ((sf_at r _).ok hr)
    have hle:=hs.le
    rw[h3] at k2
    generalize f (atRd r [[45]]).2=p at*
    generalize (atRd r [[45]]).2=r1 at*
    obtain⟨x,r2⟩:=p
    dsimp only at h2 hI hok hle
    (repeat' (first|(refine LW.is ?_;first|(apply s_callQ1 (q:=1000) (ha:=rfl);(case hb=>exact rfl);(case hc=>assumption);(case hG=>assumption);exact rfl;exact rfl;exact rfl;exact rfl))|(refine DR.is ?_;first|(apply d_callQ1 (q:=1000) (ha:=rfl);(case hb=>exact rfl);(case hc=>assumption);(case hG=>assumption);exact rfl;exact rfl;exact rfl;exact rfl))|refine wk1 ?_|refine wk2 (fun hb hp=> ?_) (fun hb hp=> ?_)|fail))
    exact hK _ (n,ex2 4 e x,r2) ⟨hI,by dsimp only;omega,hok⟩ (Nat.lt_succ_self _) (Wk.mk' (by intro id h;simp[keys] at h;subst h;rfl) (.cons rfl (Sub.refl _) (.cons rfl (Sub.refl _) (.cons rfl (Sub.refl _) (.cons rfl (Sub.refl _) .nil)))) (.cons rfl rfl (Subs.refl _) (.cons rfl rfl (sub_ex2 4 e x) (.cons rfl rfl (Subs.refl _) .nil))) .nil)
   |false=>
    rw[if_neg (by rw[h3];decide)] at hI
    subst hI
    rw[h3,at_no h3] at k2
    (repeat' (first|(refine LW.is ?_;first|(apply s_callQ1 (q:=1000) (ha:=rfl);(case hb=>exact rfl);(case hc=>assumption);(case hG=>assumption);exact rfl;exact rfl;exact rfl;exact rfl))|(refine DR.is ?_;first|(apply d_callQ1 (q:=1000) (ha:=rfl);(case hb=>exact rfl);(case hc=>assumption);(case hG=>assumption);exact rfl;exact rfl;exact rfl;exact rfl))|refine wk1 ?_|refine wk2 (fun hb hp=> ?_) (fun hb hp=> ?_)|fail))
    all_goals refine wkq ?_ ?_
    all_goals rfl
end Go.Proofs.YtadjbegnlimepaaGreatDoor
namespace Go.Proofs.YtadjbegnlimepaaGreatDoor
open Go.Abs
set_option maxRecDepth 100000
attribute [local irreducible] L Code.wp bodyPost Exit.then Exit.inBlock
set_option linter.unusedVariables false
set_option linter.unusedSimpArgs false
variable [Errs]
set_option linter.unusedSectionVars false
set_option maxHeartbeats 8000000 in
theorem psand_any{d:Int}{f:Rd→Ex×Rd}(hf:Eats f)(ka:Parses 75 d f):Parses 57 d (psJoin 7 [97,110,100] f):=by
 intro r hr
 have k0:=ka r hr
 have hr1:=(hf r).ok hr
 unfold psJoin
 generalize hW:psJoinL 7 [97,110,100] f ((f r).2.l.length+1) (f r).1 (f r).2=W
 refine CallG.intro _ Tryz.func57 rfl Tryz.ntmps57 rfl (fun w0 E0 hG=> ?_)
 (repeat' (first|(refine LW.is ?_;first|(apply s_callQ1 (q:=1000) (ha:=rfl);(case hb=>exact rfl);(case hc=>assumption);(case hG=>assumption);exact rfl;exact rfl;exact rfl;exact rfl))|(refine DR.is ?_;first|(apply d_callQ1 (q:=1000) (ha:=rfl);(case hb=>exact rfl);(case hc=>assumption);(case hG=>assumption);exact rfl;exact rfl;exact rfl;exact rfl))|refine wk1 ?_|refine wk2 (fun hb hp=> ?_) (fun hb hp=> ?_)|fail))
 refine L.loopP (ι:=Nat×Ex×Rd) (fun i=>⟨[(5,.ptr 5 0),(4,.ptr 4 0),(1,aI d),(0,.ptr 1000 0)],[(1000,rdB i.2.2),(5,⟨37,.l (i.2.1.cs.map .iv)⟩),(4,zeroE)],[]⟩) (fun i=>i.1) (fun i=>psJoinL 7 [97,110,100] f i.1 i.2.1 i.2.2=W∧i.2.2.l.length<i.1∧RdOk i.2.2) (i0:=((f r).2.l.length+1,(f r).1,(f r).2)) ?_ ⟨hW,Nat.lt_succ_self _,hr1⟩ ?_
 · exact wkkq
 clear hW k0 hr1 hr
 rintro ⟨n,e,r⟩ ⟨hI,hn,hr⟩ K hK
 dsimp only at hI hn hr hK⊢
 cases n with
 |zero=>omega
 |succ n=>
 unfold psJoinL at hI
 cases hb:r.bad with
 |true=>
  rw[if_pos hb] at hI
  subst hI
  have q:(!r.bad)=false:=by rw[hb];rfl
  (repeat' (first|refine wk1 ?_|refine wk2 (fun hb hp=> ?_) (fun hb hp=> ?_)|fail))
  all_goals refine wkq ?_ ?_
  all_goals rfl
 |false=>
  rw[if_neg (by rw[hb];decide)] at hI
  have q:(!r.bad)=true:=by rw[hb];rfl
  have k1:=at_any (gs:=gsP) r [[97,110,100]] hr (by decide)
  cases h1:(atRd r [[97,110,100]]).1 with
  |true=>
   rw[if_pos h1] at hI
   have hl:=at_lt h1 (by decide)
   have h2:=ka (atRd r [[97,110,100]]).2 ((sf_at r _).ok hr)
   have hs:=hf (atRd r [[97,110,100]]).2
   have hok:=hs.ok ((sf_at r _).ok hr)
   have hle:=hs.le
   rw[h1] at k1
   generalize f (atRd r [[97,110,100]]).2=p at*
   generalize (atRd r [[97,110,100]]).2=r1 at*
   obtain⟨x,r2⟩:=p
   dsimp only at h2 hI hok hle
   (repeat' (first|(refine LW.is ?_;first|(apply s_callQ1 (q:=1000) (ha:=rfl);(case hb=>exact rfl);(case hc=>assumption);(case hG=>assumption);exact rfl;exact rfl;exact rfl;exact rfl))|(refine DR.is ?_;first|(apply d_callQ1 (q:=1000) (ha:=rfl);(case hb=>exact rfl);(case hc=>assumption);(case hG=>assumption);exact rfl;exact rfl;exact rfl;exact rfl))|refine wk1 ?_|refine wk2 (fun hb hp=> ?_) (fun hb hp=> ?_)|fail))
   exact hK _ (n,ex2 7 e x,r2) ⟨hI,by dsimp only;omega,hok⟩ (Nat.lt_succ_self _) (Wk.mk' (by intro id h;simp[keys] at h;subst h;rfl) (.cons rfl (Sub.refl _) (.cons rfl (Sub.refl _) (.cons rfl (Sub.refl _) (.cons rfl (Sub.refl _) .nil)))) (.cons rfl rfl (Subs.refl _) (.cons rfl rfl (sub_ex2 7 e x) (.cons rfl rfl (Subs.refl _) .nil))) .nil)
  |false=>
   rw[if_neg (by rw[h1];decide)] at hI
   subst hI
   rw[h1,at_no h1] at k1
   (repeat' (first|(refine LW.is ?_;first|(apply s_callQ1 (q:=1000) (ha:=rfl);(case hb=>exact rfl);(case hc=>assumption);(case hG=>assumption);exact rfl;exact rfl;exact rfl;exact rfl))|(refine DR.is ?_;first|(apply d_callQ1 (q:=1000) (ha:=rfl);(case hb=>exact rfl);(case hc=>assumption);(case hG=>assumption);exact rfl;exact rfl;exact rfl;exact rfl))|refine wk1 ?_|refine wk2 (fun hb hp=> ?_) (fun hb hp=> ?_)|fail))
   all_goals refine wkq ?_ ?_
   all_goals rfl
set_option maxHeartbeats 8000000 in
theorem psor_any{d:Int}{f:Rd→Ex×Rd}(hf:Eats f)(ka:Parses 57 d f):Parses 28 d (psJoin 8 [111,114] f):=by
 intro r hr
 have k0:=ka r hr
 have hr1:=(hf r).ok hr
 unfold psJoin
 generalize hW:psJoinL 8 [111,114] f ((f r).2.l.length+1) (f r).1 (f r).2=W
 refine CallG.intro _ Tryz.func28 rfl Tryz.ntmps28 rfl (fun w0 E0 hG=> ?_)
 (repeat' (first|(refine LW.is ?_;first|(apply s_callQ1 (q:=1000) (ha:=rfl);(case hb=>exact rfl);(case hc=>assumption);(case hG=>assumption);exact rfl;exact rfl;exact rfl;exact rfl))|(refine DR.is ?_;first|(apply d_callQ1 (q:=1000) (ha:=rfl);(case hb=>exact rfl);(case hc=>assumption);(case hG=>assumption);exact rfl;exact rfl;exact rfl;exact rfl))|refine wk1 ?_|refine wk2 (fun hb hp=> ?_) (fun hb hp=> ?_)|fail))
 refine L.loopP (ι:=Nat×Ex×Rd) (fun i=>⟨[(5,.ptr 5 0),(4,.ptr 4 0),(1,aI d),(0,.ptr 1000 0)],[(1000,rdB i.2.2),(5,⟨37,.l (i.2.1.cs.map .iv)⟩),(4,zeroE)],[]⟩) (fun i=>i.1) (fun i=>psJoinL 8 [111,114] f i.1 i.2.1 i.2.2=W∧i.2.2.l.length<i.1∧RdOk i.2.2) (i0:=((f r).2.l.length+1,(f r).1,(f r).2)) ?_ ⟨hW,Nat.lt_succ_self _,hr1⟩ ?_
 · exact wkkq
 clear hW k0 hr1 hr
 rintro ⟨n,e,r⟩ ⟨hI,hn,hr⟩ K hK
 dsimp only at hI hn hr hK⊢
 cases n with
 |zero=>omega
 |succ n=>
 unfold psJoinL at hI
 cases hb:r.bad with
 |true=>
  rw[if_pos hb] at hI
  subst hI
  have q:(!r.bad)=false:=by rw[hb];rfl
  (repeat' (first|refine wk1 ?_|refine wk2 (fun hb hp=> ?_) (fun hb hp=> ?_)|fail))
  all_goals refine wkq ?_ ?_
  all_goals rfl
 |false=>
  rw[if_neg (by rw[hb];decide)] at hI
  have q:(!r.bad)=true:=by rw[hb];rfl
  have k1:=at_any (gs:=gsP) r [[111,114]] hr (by decide)
  cases h1:(atRd r [[111,114]]).1 with
  |true=>
   rw[if_pos h1] at hI
   have hl:=at_lt h1 (by decide)
   have h2:=ka (atRd r [[111,114]]).2 ((sf_at r _).ok hr)
   have hs:=hf (atRd r [[111,114]]).2
   have hok:=hs.ok ((sf_at r _).ok hr)
   have hle:=hs.le
   rw[h1] at k1
   generalize f (atRd r [[111,114]]).2=p at*
   generalize (atRd r [[111,114]]).2=r1 at*
   obtain⟨x,r2⟩:=p
   dsimp only at h2 hI hok hle
   (repeat' (first|(refine LW.is ?_;first|(apply s_callQ1 (q:=1000) (ha:=rfl);(case hb=>exact rfl);(case hc=>assumption);(case hG=>assumption);exact rfl;exact rfl;exact rfl;exact rfl))|(refine DR.is ?_;first|(apply d_callQ1 (q:=1000) (ha:=rfl);(case hb=>exact rfl);(case hc=>assumption);(case hG=>assumption);exact rfl;exact rfl;exact rfl;exact rfl))|refine wk1 ?_|refine wk2 (fun hb hp=> ?_) (fun hb hp=> ?_)|fail))
   exact hK _ (n,ex2 8 e x,r2) ⟨hI,by dsimp only;omega,hok⟩ (Nat.lt_succ_self _) (Wk.mk' (by intro id h;simp[keys] at h;subst h;rfl) (.cons rfl (Sub.refl _) (.cons rfl (Sub.refl _) (.cons rfl (Sub.refl _) (.cons rfl (Sub.refl _) .nil)))) (.cons rfl rfl (Subs.refl _) (.cons rfl rfl (sub_ex2 8 e x) (.cons rfl rfl (Subs.refl _) .nil))) .nil)
  |false=>
   rw[if_neg (by rw[h1];decide)] at hI
   subst hI
   rw[h1,at_no h1] at k1
   (repeat' (first|(refine LW.is ?_;first|(apply s_callQ1 (q:=1000) (ha:=rfl);(case hb=>exact rfl);(case hc=>assumption);(case hG=>assumption);exact rfl;exact rfl;exact rfl;exact rfl))|(refine DR.is ?_;first|(apply d_callQ1 (q:=1000) (ha:=rfl);(case hb=>exact rfl);(case hc=>assumption);(case hG=>assumption);exact rfl;exact rfl;exact rfl;exact rfl))|refine wk1 ?_|refine wk2 (fun hb hp=> ?_) (fun hb hp=> ?_)|fail))
   all_goals refine wkq ?_ ?_
   all_goals rfl
end Go.Proofs.YtadjbegnlimepaaGreatDoor
namespace Go.Proofs.YtadjbegnlimepaaGreatDoor
open Go.Abs
set_option maxRecDepth 100000
attribute [local irreducible] L Code.wp bodyPost Exit.then Exit.inBlock
set_option linter.unusedVariables false
set_option linter.unusedSimpArgs false
variable [Errs]
set_option linter.unusedSectionVars false
theorem ex1_cs(op:Int)(a:Ex): [I op,I 0,I 0,S [],S [],S [],I 0,.sl [a.cs]] =(ex1 op a).cs:=by
 show _= [I op,I 0,I 0,S [],S [],S [],I 0,.sl ([a].map Ex.c)]
 rw[List.map_cons,Ex.c_cs];rfl
theorem ex2_cs(op:Int)(a b:Ex): [I op,I 0,I 0,S [],S [],S [],I 0,.sl [a.cs,b.cs]] =(ex2 op a b).cs:=by
 show _= [I op,I 0,I 0,S [],S [],S [],I 0,.sl ([a,b].map Ex.c)]
 rw[List.map_cons,List.map_cons,Ex.c_cs,Ex.c_cs];rfl
theorem test_bad:Parses 75 7 psBad:=by
 intro r hr
 refine CallG.intro _ Tryz.func75 rfl Tryz.ntmps75 rfl (fun w0 E0 hG=> ?_)
 (repeat' (first|refine wk1 ?_|refine wk2 (fun hb hp=> ?_) (fun hb hp=> ?_)|fail))
 all_goals refine wkq ?_ ?_
 all_goals rfl
set_option maxHeartbeats 8000000 in
theorem test_any{d:Int}(h0:0≤d)(h6:d≤6){t s:Rd→Ex×Rd}(hs:Eats s)(kt:Parses 75 (d+1) t)(ks:Parses 89 d s):Parses 75 d (psTest t s):=by
 intro r hr
 have qd:decide (6<d)=false:=decide_eq_false (by omega)
 refine CallG.intro _ Tryz.func75 rfl Tryz.ntmps75 rfl (fun w0 E0 hG=> ?_)
 unfold psTest
 cases hb:r.bad with
 |true=>
  rw[if_pos rfl]
  (repeat' (first|refine wk1 ?_|refine wk2 (fun hb hp=> ?_) (fun hb hp=> ?_)|fail))
  all_goals refine wkq ?_ ?_
  all_goals rfl
 |false=>
  rw[if_neg (by decide)]
  have k1:=at_any (gs:=gsP) r [[110,111,116]] hr (by decide)
  cases h1:(atRd r [[110,111,116]]).1 with
  |true=>
   rw[if_pos rfl]
   have k2:=kt (atRd r [[110,111,116]]).2 ((sf_at r _).ok hr)
   rw[h1] at k1
   generalize t (atRd r [[110,111,116]]).2=p at*
   generalize (atRd r [[110,111,116]]).2=r1 at*
   obtain⟨x,r2⟩:=p
   dsimp only at k2⊢
   rw[←ex1_cs]
   (repeat' (first|(refine LW.is ?_;first|(apply s_callQ1 (q:=1000) (ha:=rfl);(case hb=>exact rfl);(case hc=>assumption);(case hG=>assumption);exact rfl;exact rfl;exact rfl;exact rfl))|(refine DR.is ?_;first|(apply d_callQ1 (q:=1000) (ha:=rfl);(case hb=>exact rfl);(case hc=>assumption);(case hG=>assumption);exact rfl;exact rfl;exact rfl;exact rfl))|refine wk1 ?_|refine wk2 (fun hb hp=> ?_) (fun hb hp=> ?_)|fail))
   all_goals refine wkq ?_ ?_
   all_goals rfl
  |false=>
   rw[if_neg (by decide)]
   rw[h1,at_no h1] at k1
   have k2:=ks r hr
   have hok:=(hs r).ok hr
   generalize s r=p at*
   obtain⟨e,r1⟩:=p
   dsimp only at k2 hok⊢
   have k3:=at_any (gs:=gsP) r1 [[105,115],[110,117,108,108]] hok (by decide)
   cases h3:(atRd r1 [[105,115],[110,117,108,108]]).1 with
   |true=>
    rw[if_pos rfl]
    rw[h3] at k3
    generalize (atRd r1 [[105,115],[110,117,108,108]]).2=r2 at*
    dsimp only
    rw[←ex1_cs]
    (repeat' (first|(refine LW.is ?_;first|(apply s_callQ1 (q:=1000) (ha:=rfl);(case hb=>exact rfl);(case hc=>assumption);(case hG=>assumption);exact rfl;exact rfl;exact rfl;exact rfl))|(refine DR.is ?_;first|(apply d_callQ1 (q:=1000) (ha:=rfl);(case hb=>exact rfl);(case hc=>assumption);(case hG=>assumption);exact rfl;exact rfl;exact rfl;exact rfl))|refine wk1 ?_|refine wk2 (fun hb hp=> ?_) (fun hb hp=> ?_)|fail))
    all_goals refine wkq ?_ ?_
    all_goals rfl
   |false=>
   rw[if_neg (by decide)]
   rw[h3,at_no h3] at k3
   have k4:=at_any (gs:=gsP) r1 [[61]] hok (by decide)
   cases h4:(atRd r1 [[61]]).1 with
   |true=>
    rw[if_pos rfl]
    have kz:=ks (atRd r1 [[61]]).2 ((sf_at r1 _).ok hok)
    rw[h4] at k4
    generalize s (atRd r1 [[61]]).2=p at*
    generalize (atRd r1 [[61]]).2=r2 at*
    obtain⟨x,r3⟩:=p
    dsimp only at kz⊢
    rw[←ex2_cs]
    (repeat' (first|(refine LW.is ?_;first|(apply s_callQ1 (q:=1000) (ha:=rfl);(case hb=>exact rfl);(case hc=>assumption);(case hG=>assumption);exact rfl;exact rfl;exact rfl;exact rfl))|(refine DR.is ?_;first|(apply d_callQ1 (q:=1000) (ha:=rfl);(case hb=>exact rfl);(case hc=>assumption);(case hG=>assumption);exact rfl;exact rfl;exact rfl;exact rfl))|refine wk1 ?_|refine wk2 (fun hb hp=> ?_) (fun hb hp=> ?_)|fail))
    all_goals refine wkq ?_ ?_
    all_goals rfl
   |false=>
   rw[if_neg (by decide)]
   rw[h4,at_no h4] at k4
   have k5:=at_any (gs:=gsP) r1 [[60]] hok (by decide)
   cases h5:(atRd r1 [[60]]).1 with
   |true=>
    rw[if_pos rfl]
    have kz:=ks (atRd r1 [[60]]).2 ((sf_at r1 _).ok hok)
    rw[h5] at k5
    generalize s (atRd r1 [[60]]).2=p at*
    generalize (atRd r1 [[60]]).2=r2 at*
    obtain⟨x,r3⟩:=p
    dsimp only at kz⊢
    rw[←ex2_cs]
    (repeat' (first|(refine LW.is ?_;first|(apply s_callQ1 (q:=1000) (ha:=rfl);(case hb=>exact rfl);(case hc=>assumption);(case hG=>assumption);exact rfl;exact rfl;exact rfl;exact rfl))|(refine DR.is ?_;first|(apply d_callQ1 (q:=1000) (ha:=rfl);(case hb=>exact rfl);(case hc=>assumption);(case hG=>assumption);exact rfl;exact rfl;exact rfl;exact rfl))|refine wk1 ?_|refine wk2 (fun hb hp=> ?_) (fun hb hp=> ?_)|fail))
    all_goals refine wkq ?_ ?_
    all_goals rfl
   |false=>
   rw[if_neg (by decide)]
   rw[h5,at_no h5] at k5
   (repeat' (first|(refine LW.is ?_;first|(apply s_callQ1 (q:=1000) (ha:=rfl);(case hb=>exact rfl);(case hc=>assumption);(case hG=>assumption);exact rfl;exact rfl;exact rfl;exact rfl))|(refine DR.is ?_;first|(apply d_callQ1 (q:=1000) (ha:=rfl);(case hb=>exact rfl);(case hc=>assumption);(case hG=>assumption);exact rfl;exact rfl;exact rfl;exact rfl))|refine wk1 ?_|refine wk2 (fun hb hp=> ?_) (fun hb hp=> ?_)|fail))
   all_goals refine wkq ?_ ?_
   all_goals rfl
end Go.Proofs.YtadjbegnlimepaaGreatDoor
namespace Go.Proofs.YtadjbegnlimepaaGreatDoor
open Go.Abs
set_option maxRecDepth 100000
attribute [local irreducible] L Code.wp bodyPost Exit.then Exit.inBlock
set_option linter.unusedVariables false
set_option linter.unusedSimpArgs false
variable [Errs]
set_option linter.unusedSectionVars false
def LitOk:Prop:= ∀r,RdOk r→CallG gsP Tryz.prog 112 [.ptr 1000 0] [(1000,rdB r)] [(1000,rdB (psLit r).2)] [] (.tup [.agg ((psLit r).1.1.c.map .iv),.iv (B (psLit r).1.2)])
theorem lit_no{r:Rd}(h:(psLit r).1.2=false):(psLit r).2=r:=by
 unfold psLit at h⊢
 repeat' split at h
 all_goals first|(cases h;done)|skip
 rename_i h1 h2 h3 h4
 rw[if_neg h1,if_neg h2,if_neg h3,if_neg h4]
set_option maxHeartbeats 8000000 in
theorem atom_any{d:Int}(h0:0≤d)(h6:d≤6){o:Rd→Ex×Rd}(ho:Eats o)(kl:LitOk)(ko:Parses 28 (d+1) o):Parses 103 d (psAtom o):=by
 intro r hr
 have qd:decide (6<d)=false:=decide_eq_false (by omega)
 refine CallG.intro _ Tryz.func103 rfl Tryz.ntmps103 rfl (fun w0 E0 hG=> ?_)
 unfold psAtom
 cases hb:r.bad with
 |true=>
  rw[if_pos rfl]
  (repeat' (first|refine wk1 ?_|refine wk2 (fun hb hp=> ?_) (fun hb hp=> ?_)|fail))
  all_goals refine wkq ?_ ?_
  all_goals rfl
 |false=>
  rw[if_neg (by decide)]
  have k1:=at_any (gs:=gsP) r [[40]] hr (by decide)
  cases h1:(atRd r [[40]]).1 with
  |true=>
   rw[if_pos rfl]
   have hk:=(sf_at r [[40]]).ok hr
   have k2:=ko (atRd r [[40]]).2 hk
   have hok:=(ho (atRd r [[40]]).2).ok hk
   have k3:=take_any (gs:=gsP) (o (atRd r [[40]]).2).2 [[41]] hok (by decide)
   rw[h1] at k1
   generalize takeM (o (atRd r [[40]]).2).2 [[41]] =r3 at*
   generalize o (atRd r [[40]]).2=p at*
   generalize (atRd r [[40]]).2=r1 at*
   obtain⟨x,r2⟩:=p
   dsimp only at k2 k3⊢
   (repeat' (first|(refine LW.is ?_;first|(apply s_callQ1 (q:=1000) (ha:=rfl);(case hb=>exact rfl);(case hc=>assumption);(case hG=>assumption);exact rfl;exact rfl;exact rfl;exact rfl))|(refine DR.is ?_;first|(apply d_callQ1 (q:=1000) (ha:=rfl);(case hb=>exact rfl);(case hc=>assumption);(case hG=>assumption);exact rfl;exact rfl;exact rfl;exact rfl))|refine wk1 ?_|refine wk2 (fun hb hp=> ?_) (fun hb hp=> ?_)|fail))
   all_goals refine wkq ?_ ?_
   all_goals rfl
  |false=>
   rw[if_neg (by decide)]
   rw[h1,at_no h1] at k1
   have k2:=kl r hr
   cases h2:(psLit r).1.2 with
   |true=>
    rw[if_pos rfl]
    rw[h2] at k2
    generalize (psLit r).1.1=v at*
    generalize (psLit r).2=r2 at*
    (repeat' (first|(refine LW.is ?_;first|(apply s_callQ1 (q:=1000) (ha:=rfl);(case hb=>exact rfl);(case hc=>assumption);(case hG=>assumption);exact rfl;exact rfl;exact rfl;exact rfl))|(refine DR.is ?_;first|(apply d_callQ1 (q:=1000) (ha:=rfl);(case hb=>exact rfl);(case hc=>assumption);(case hG=>assumption);exact rfl;exact rfl;exact rfl;exact rfl))|refine wk1 ?_|refine wk2 (fun hb hp=> ?_) (fun hb hp=> ?_)|fail))
    all_goals refine wkq ?_ ?_
    all_goals rfl
   |false=>
    rw[if_neg (by decide)]
    rw[h2,lit_no h2] at k2
    have k3:=toP (ref_any r hr)
    generalize psRef r=p at*
    obtain⟨x,r2⟩:=p
    dsimp only at k3⊢
    (repeat' (first|(refine LW.is ?_;first|(apply s_callQ1 (q:=1000) (ha:=rfl);(case hb=>exact rfl);(case hc=>assumption);(case hG=>assumption);exact rfl;exact rfl;exact rfl;exact rfl))|(refine DR.is ?_;first|(apply d_callQ1 (q:=1000) (ha:=rfl);(case hb=>exact rfl);(case hc=>assumption);(case hG=>assumption);exact rfl;exact rfl;exact rfl;exact rfl))|refine wk1 ?_|refine wk2 (fun hb hp=> ?_) (fun hb hp=> ?_)|fail))
    all_goals refine wkq ?_ ?_
    all_goals rfl
end Go.Proofs.YtadjbegnlimepaaGreatDoor
namespace Go.Proofs.YtadjbegnlimepaaGreatDoor
open Go.Abs
set_option maxRecDepth 100000
attribute [local irreducible] L Code.wp bodyPost Exit.then Exit.inBlock
set_option linter.unusedVariables false
variable [Errs]
set_option linter.unusedSectionVars false
theorem parses(kl:LitOk): ∀(k:Nat),k≤6→Parses 75 (7 - (k:Int)) (psT k)∧Parses 28 (7 - (k:Int)) (psO k)
 |0,_=>⟨test_bad,psor_any (eats_join eats_bad) (psand_any eats_bad test_bad)⟩
 |k+1,hk=>by
  obtain⟨h1,h2⟩:=parses kl k (by omega)
  have e:(7 - ((k+1:Nat):Int))+1=7 - (k:Int):=by omega
  have ht:Parses 75 (7 - ((k+1:Nat):Int)) (psT (k+1)):=
   test_any (by omega) (by omega) (eats_sum (eats_atom (eats_O k))) (by rw[e];exact h1) (sum_any (eats_atom (eats_O k)) (atom_any (by omega) (by omega) (eats_O k) kl (by rw[e];exact h2)))
  exact⟨ht,psor_any (eats_join (eats_T (k+1))) (psand_any (eats_T (k+1)) ht)⟩
theorem expr_any(kl:LitOk):Parses 28 1 (psO 6):=(parses kl 6 (by decide)).2
end Go.Proofs.YtadjbegnlimepaaGreatDoor
