/- Several texts in one, each with its own sentence ahead of it. Conditions: each one says its own. -/
import Derived.Test.YtadjbegnlimepaaGreatDoorZS25
set_option linter.all false
namespace Go.Proofs.YtadjbegnlimepaaGreatDoor
open Go.Abs
set_option maxRecDepth 100000
attribute [local irreducible] L Code.wp bodyPost Exit.then Exit.inBlock
set_option linter.unusedVariables false
set_option linter.unusedSimpArgs false
variable [Errs]
set_option linter.unusedSectionVars false
theorem parseU_ge: ∀(l:List UInt8) (a u:Nat),Lib.parseUint10 a l= .ok u→0≤(u:Int):=fun _ _ _ _=>by omega
theorem atoi_ge{s:Str}{v:Int}(h:Lib.atoiAll s= .ok v)(hk:TokOk s):0≤v:=by
 cases s with
 |nil=>cases h
 |cons c t=>
  by_cases h45:c.toNat=45
  · have hc:c=45:=by apply UInt8.toNat_inj.1;exact h45
    have hl:=hk.2.2 (by rw[hc];rfl)
    have ht:t= []:=by simpa using hl
    subst ht
    simp[Lib.atoiAll,h45,Lib.parseMag] at h
  · simp only[Lib.atoiAll,h45,if_false,false_and] at h
    split at h
    · cases h
    · cases h
    · split at h
      · cases h
      · cases h;omega
theorem numS_ge{s:Str}{v:Int}(h:numS s=some v)(hk:TokOk s):0≤v∧v≤1000000:=by
 unfold numS at h
 split at h
 · rename_i n hn
   split at h
   · rename_i hc;cases h;exact⟨atoi_ge hn hk,hc.2⟩
   · cases h
 · cases h
theorem next_tok{r:Rd}(h:RdOk r):TokOk (nextM r).1:=by
 unfold nextM;split
 · exact⟨by simp,by simp,by simp⟩
 · rename_i hf
   obtain⟨l,bad⟩:=r
   cases l with
   |nil=>exact absurd rfl hf
   |cons s l=>exact h.w s (by simp)
theorem psNumber_ge{r:Rd}(h:RdOk r):0≤(psNumber r).1∧(psNumber r).1≤1000000:=by
 unfold psNumber;split
 · rename_i n hn;exact numS_ge hn (next_tok h)
 · simp
set_option maxHeartbeats 16000000 in
theorem lit_any:LitOk:=by
 intro r hr
 have kf:=front_any (gs:=gsP) r
 have k1:=at_any (gs:=gsP) r [[110,117,108,108]] hr (by decide)
 refine CallG.intro _ Tryz.func112 rfl Tryz.ntmps112 rfl (fun w0 E0 hG=> ?_)
 unfold psLit
 cases h1:(atRd r [[110,117,108,108]]).1 with
 |true=>
  rw[if_pos rfl]
  rw[h1] at k1
  generalize (atRd r [[110,117,108,108]]).2=r1 at*
  generalize r.front=s at*
  (repeat' (first|(refine LW.is ?_;first|(apply s_callQ1 (q:=1000) (ha:=rfl);(case hb=>exact rfl);(case hc=>assumption);(case hG=>assumption);exact rfl;exact rfl;exact rfl;exact rfl))|(refine DR.is ?_;first|(apply d_callQ1 (q:=1000) (ha:=rfl);(case hb=>exact rfl);(case hc=>assumption);(case hG=>assumption);exact rfl;exact rfl;exact rfl;exact rfl))|refine wk1 ?_|refine wk2 (fun hb hp=> ?_) (fun hb hp=> ?_)|fail))
  all_goals refine wkq ?_ ?_
  all_goals rfl
 |false=>
 rw[if_neg (by decide)]
 rw[h1,at_no h1] at k1
 have k2:=at_any (gs:=gsP) r [[45]] hr (by decide)
 cases h2:(atRd r [[45]]).1 with
 |true=>
  rw[if_pos rfl]
  rw[h2] at k2
  have hok:=(sf_at r [[45]]).ok hr
  have kn:=number_any (atRd r [[45]]).2 hok
  obtain⟨n0,n1⟩:=psNumber_ge hok
  generalize psNumber (atRd r [[45]]).2=p at*
  generalize (atRd r [[45]]).2=r1 at*
  obtain⟨n,r2⟩:=p
  dsimp only at*
  rw[←Int.zero_sub]
  generalize r.front=s at*
  (repeat' (first|(refine LW.is ?_;first|(apply s_callQ1 (q:=1000) (ha:=rfl);(case hb=>exact rfl);(case hc=>assumption);(case hG=>assumption);exact rfl;exact rfl;exact rfl;exact rfl))|(refine DR.is ?_;first|(apply d_callQ1 (q:=1000) (ha:=rfl);(case hb=>exact rfl);(case hc=>assumption);(case hG=>assumption);exact rfl;exact rfl;exact rfl;exact rfl))|refine wk1 ?_|refine wk2 (fun hb hp=> ?_) (fun hb hp=> ?_)|fail))
  all_goals refine wkq ?_ ?_
  all_goals rfl
 |false=>
 rw[if_neg (by decide)]
 rw[h2,at_no h2] at k2
 have hfo:=hr.front
 have knx:=next_any (gs:=gsP) r
 have hnx:(nextM r).1=r.front:=by unfold nextM;split<;>simp_all
 rw[hnx] at knx
 have hft:r.front≠ [] →TokOk r.front:=fun h=>by rw[←hnx];exact next_tok hr
 have kn:=number_any r hr
 obtain⟨n0,n1⟩:=psNumber_ge hr
 generalize psNumber r=pn at*
 generalize (nextM r).2=rx at*
 obtain⟨n,rn⟩:=pn
 dsimp only at*
 cases hf:r.front with
 |nil=>
  rw[hf] at kf
  rw[if_neg (by simp),if_neg (by simp)]
  have q:(!(([]:Str)== []))=false:=rfl
  (repeat' (first|(refine LW.is ?_;first|(apply s_callQ1 (q:=1000) (ha:=rfl);(case hb=>exact rfl);(case hc=>assumption);(case hG=>assumption);exact rfl;exact rfl;exact rfl;exact rfl))|(refine DR.is ?_;first|(apply d_callQ1 (q:=1000) (ha:=rfl);(case hb=>exact rfl);(case hc=>assumption);(case hG=>assumption);exact rfl;exact rfl;exact rfl;exact rfl))|refine wk1 ?_|refine wk2 (fun hb hp=> ?_) (fun hb hp=> ?_)|fail))
  all_goals refine wkq ?_ ?_
  all_goals rfl
 |cons c t=>
  rw[hf] at kf knx hft hfo
  have htk:=hft (by simp)
  have q:(!((c::t:Str)== []))=true:=rfl
  have g0:(c::t:Str)[(0:Int).toNat]?=some c:=rfl
  by_cases hd:digC c=true
  · rw[if_pos ⟨by simp,hd⟩]
    have hd':=hd
    simp only[digC,Bool.and_eq_true,decide_eq_true_eq] at hd'
    have q1:decide ((48:Int)≤(c.toNat:Int))=true:=decide_eq_true (by omega)
    have q2:decide ((c.toNat:Int)≤57)=true:=decide_eq_true (by omega)
    (repeat' (first|(refine LW.is ?_;first|(apply s_callQ1 (q:=1000) (ha:=rfl);(case hb=>exact rfl);(case hc=>assumption);(case hG=>assumption);exact rfl;exact rfl;exact rfl;exact rfl)|(apply s_vr;exact rfl;apply v_indexS;exact rfl;exact rfl;decide;exact g0))|(refine DR.is ?_;first|(apply d_callQ1 (q:=1000) (ha:=rfl);(case hb=>exact rfl);(case hc=>assumption);(case hG=>assumption);exact rfl;exact rfl;exact rfl;exact rfl)|(apply d_vr;exact rfl;apply v_indexS;exact rfl;exact rfl;decide;exact g0))|refine wk1 ?_|refine wk2 (fun hb hp=> ?_) (fun hb hp=> ?_)|fail))
    all_goals refine wkq ?_ ?_
    all_goals rfl
  · rw[if_neg (fun h=>hd h.2)]
    have hd': ¬(48≤c.toNat∧c.toNat≤57):=by simpa[digC] using hd
    by_cases h39:c=39
    · rw[if_pos ⟨by simp,h39⟩]
      subst h39
      have hl:2≤(39::t:Str).length:=htk.2.1 rfl
      have e0:(39::t:Str).length=t.length+1:=rfl
      have q3:((((39:UInt8).toNat:Nat):Int)==39)=true:=rfl
      have es:((39::t:Str).drop (1:Int).toNat).take ((((39::t:Str).length:Int) - 1).toNat - (1:Int).toNat)=(psText (39::t)).s:=by
       show(t.drop 0).take _=t.take _
       rw[List.drop_zero];congr 1;simp
      have kg:=(good_any (psText (39::t))).toG (gs:=gsP)
      generalize hv:psText (39::t)=v at*
      have ev:v=⟨2,0,v.s⟩:=by rw[←hv];rfl
      obtain⟨vk,vn,vs⟩:=v
      cases ev
      dsimp only at*
      generalize goodM ⟨2,0,vs⟩=gd at*
      obtain⟨lx,bx⟩:=rx
      cases bx with
      |true=>
       (repeat' (first|(refine LW.is ?_;first|(apply s_callQ1 (q:=1000) (ha:=rfl);(case hb=>exact rfl);(case hc=>assumption);(case hG=>assumption);exact rfl;exact rfl;exact rfl;exact rfl)|(apply s_vr;exact rfl;apply v_indexS;exact rfl;exact rfl;decide;exact g0)|(apply s_vr;exact rfl;apply v_sliceSlh;exact rfl;exact rfl;exact rfl;decide;omega;omega;exact es))|(refine DR.is ?_;first|(apply d_callQ1 (q:=1000) (ha:=rfl);(case hb=>exact rfl);(case hc=>assumption);(case hG=>assumption);exact rfl;exact rfl;exact rfl;exact rfl)|(apply d_vr;exact rfl;apply v_indexS;exact rfl;exact rfl;decide;exact g0)|(apply d_vr;exact rfl;apply v_sliceSlh;exact rfl;exact rfl;exact rfl;decide;omega;omega;exact es))|refine wk1 ?_|refine wk2 (fun hb hp=> ?_) (fun hb hp=> ?_)|fail))
       all_goals refine wkq ?_ ?_
       all_goals rfl
      |false=>
       (repeat' (first|(refine LW.is ?_;first|(apply s_callQ1 (q:=1000) (ha:=rfl);(case hb=>exact rfl);(case hc=>assumption);(case hG=>assumption);exact rfl;exact rfl;exact rfl;exact rfl)|(apply s_vr;exact rfl;apply v_indexS;exact rfl;exact rfl;decide;exact g0)|(apply s_vr;exact rfl;apply v_sliceSlh;exact rfl;exact rfl;exact rfl;decide;omega;omega;exact es))|(refine DR.is ?_;first|(apply d_callQ1 (q:=1000) (ha:=rfl);(case hb=>exact rfl);(case hc=>assumption);(case hG=>assumption);exact rfl;exact rfl;exact rfl;exact rfl)|(apply d_vr;exact rfl;apply v_indexS;exact rfl;exact rfl;decide;exact g0)|(apply d_vr;exact rfl;apply v_sliceSlh;exact rfl;exact rfl;exact rfl;decide;omega;omega;exact es))|refine wk1 ?_|refine wk2 (fun hb hp=> ?_) (fun hb hp=> ?_)|fail))
       all_goals refine wkq ?_ ?_
       all_goals rfl
    · rw[if_neg (fun h=>h39 h.2)]
      have q3:((c.toNat:Int)==39)=false:=by
       have:c.toNat≠39:=fun e=>h39 (UInt8.toNat_inj.1 e)
       simp;omega
      by_cases ha:48≤c.toNat
      · have q1:decide ((48:Int)≤(c.toNat:Int))=true:=decide_eq_true (by omega)
        have q2:decide ((c.toNat:Int)≤57)=false:=decide_eq_false (by omega)
        (repeat' (first|(refine LW.is ?_;first|(apply s_callQ1 (q:=1000) (ha:=rfl);(case hb=>exact rfl);(case hc=>assumption);(case hG=>assumption);exact rfl;exact rfl;exact rfl;exact rfl)|(apply s_vr;exact rfl;apply v_indexS;exact rfl;exact rfl;decide;exact g0))|(refine DR.is ?_;first|(apply d_callQ1 (q:=1000) (ha:=rfl);(case hb=>exact rfl);(case hc=>assumption);(case hG=>assumption);exact rfl;exact rfl;exact rfl;exact rfl)|(apply d_vr;exact rfl;apply v_indexS;exact rfl;exact rfl;decide;exact g0))|refine wk1 ?_|refine wk2 (fun hb hp=> ?_) (fun hb hp=> ?_)|fail))
        all_goals refine wkq ?_ ?_
        all_goals rfl
      · have q1:decide ((48:Int)≤(c.toNat:Int))=false:=decide_eq_false (by omega)
        (repeat' (first|(refine LW.is ?_;first|(apply s_callQ1 (q:=1000) (ha:=rfl);(case hb=>exact rfl);(case hc=>assumption);(case hG=>assumption);exact rfl;exact rfl;exact rfl;exact rfl)|(apply s_vr;exact rfl;apply v_indexS;exact rfl;exact rfl;decide;exact g0))|(refine DR.is ?_;first|(apply d_callQ1 (q:=1000) (ha:=rfl);(case hb=>exact rfl);(case hc=>assumption);(case hG=>assumption);exact rfl;exact rfl;exact rfl;exact rfl)|(apply d_vr;exact rfl;apply v_indexS;exact rfl;exact rfl;decide;exact g0))|refine wk1 ?_|refine wk2 (fun hb hp=> ?_) (fun hb hp=> ?_)|fail))
        all_goals refine wkq ?_ ?_
        all_goals rfl
theorem exprP:Parses 28 1 (psO 6):=expr_any lit_any
end Go.Proofs.YtadjbegnlimepaaGreatDoor
