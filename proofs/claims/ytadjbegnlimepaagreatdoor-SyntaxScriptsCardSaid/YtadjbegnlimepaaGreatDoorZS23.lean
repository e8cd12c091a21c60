/- Several texts in one, each with its own sentence ahead of it. Conditions: each one says its own. -/
import Derived.Test.YtadjbegnlimepaaGreatDoorZS21
import Derived.Test.YtadjbegnlimepaaGreatDoorZS22
set_option linter.all false
namespace Go.Proofs.YtadjbegnlimepaaGreatDoor
open Go.Abs
set_option maxRecDepth 100000
attribute [local irreducible] L Code.wp bodyPost Exit.then Exit.inBlock
set_option linter.unusedVariables false
set_option linter.unusedSimpArgs false
def splitR(s:Str):List Str×Bool:=match splitM s with|some l=>(l,true)|none=>([],false)
theorem u8ne{c:UInt8}{n:Nat}(hn:n<256)(h: ¬c=UInt8.ofNat n):((c.toNat:Int)==(n:Int))=false:=by
 rw[beq_eq_false_iff_ne]
 intro e
 exact h (UInt8.toNat_inj.1 (by rw[UInt8.toNat_ofNat'];omega))
theorem ixb_lt: ∀(r:Str) (b:UInt8),Lib.indexByte r b<(r.length:Int)
 | [],b=>by simp[Lib.indexByte]
 |x::r,b=>by
  have:=ixb_lt r b
  unfold Lib.indexByte
  simp only[List.length_cons]
  split
  · omega
  · split<;>omega
set_option maxHeartbeats 16000000 in
theorem split_any(s:Str)(hs:s.length≤1000000):CallA Tryz.prog 10 [aS s] [] [] [] (.tup [.iv (.sl ((splitR s).1.map Str.c)),.iv (B (splitR s).2)]):=by
 refine CallA.intro _ Tryz.func10 rfl Tryz.ntmps10 rfl (fun w0 E0=> ?_)
 (repeat' (first|refine wk1 ?_|refine wk2 (fun hb hp=> ?_) (fun hb hp=> ?_)|fail))
 refine L.adopt 4 (s:=4) (t:=9) (k:=1) rfl rfl rfl ?_
 refine L.loopP (ι:=List Str×Str) (fun i=>⟨[(4,.row 4 (i.1.map Str.c)),(0,aS i.2)],[],[(4,⟨9,1⟩)]⟩) (fun i=>i.2.length) (fun i=>splitM s=(splitM i.2).map (i.1++ ·)∧i.1.length+i.2.length≤s.length) (i0:=([],s)) ?_ ⟨by cases splitM s<;>simp,by simp⟩ ?_
 · exact wkk
 rintro ⟨l,s'⟩ ⟨hi,hl⟩ K hK
 dsimp only at hi hl hK⊢
 cases s' with
 |nil=>
  have hne:(!(([]:List UInt8)== []))=false:=rfl
  (repeat' (first|refine wk1 ?_|refine wk2 (fun hb hp=> ?_) (fun hb hp=> ?_)|fail))
  all_goals refine wkf ?_
  rw[split_nil] at hi
  simp[splitR,hi]
 |cons c r=>
  have hne:(!(c::r==([]:List UInt8)))=true:=by simp
  simp only[List.length_cons] at hl
  have hrl:r.length≤1000000:=by omega
  have hll:l.length≤1000000:=by omega
  have cb:=c.toNat_lt
  by_cases hb:c=32∨c=10
  · rw[split_blank hb] at hi
    rcases hb with rfl|rfl
    · (repeat' (first|(refine LW.is ?_;first|(apply s_vr;exact rfl;apply v_indexS;exact rfl;exact rfl;decide;exact rfl)|(apply s_vr;exact rfl;apply v_sliceSl;exact rfl;exact rfl;decide;(simp<;>omega);(show _=r;exact rfl)))|(refine DR.is ?_;first|(apply d_vr;exact rfl;apply v_indexS;exact rfl;exact rfl;decide;exact rfl)|(apply d_vr;exact rfl;apply v_sliceSl;exact rfl;exact rfl;decide;(simp<;>omega);(show _=r;exact rfl)))|refine wk1 ?_|refine wk2 (fun hb hp=> ?_) (fun hb hp=> ?_)|fail))
      refine hK _ (l,r) ⟨hi,by dsimp only;omega⟩ (by dsimp only;simp) ?_
      exact wkk
    · (repeat' (first|(refine LW.is ?_;first|(apply s_vr;exact rfl;apply v_indexS;exact rfl;exact rfl;decide;exact rfl)|(apply s_vr;exact rfl;apply v_sliceSl;exact rfl;exact rfl;decide;(simp<;>omega);(show _=r;exact rfl)))|(refine DR.is ?_;first|(apply d_vr;exact rfl;apply v_indexS;exact rfl;exact rfl;decide;exact rfl)|(apply d_vr;exact rfl;apply v_sliceSl;exact rfl;exact rfl;decide;(simp<;>omega);(show _=r;exact rfl)))|refine wk1 ?_|refine wk2 (fun hb hp=> ?_) (fun hb hp=> ?_)|fail))
      refine hK _ (l,r) ⟨hi,by dsimp only;omega⟩ (by dsimp only;simp) ?_
      exact wkk
  have q32:((c.toNat:Int)==32)=false:=u8ne (n:=32) (by decide) (fun e=>hb (.inl e))
  have q10:((c.toNat:Int)==10)=false:=u8ne (n:=10) (by decide) (fun e=>hb (.inr e))
  have next: ∀n,tokLen c r=some n→splitM s=(splitM ((c::r).drop n)).map ((l++ [(c::r).take n])++ ·):=fun n hn=>by
   rw[hi,split_some hb hn,Option.map_map]
   congr 1;funext x;simp
  have bad:tokLen c r=none→splitR s=([],false):=fun hn=>by
   have:splitM s=none:=by rw[hi,split_none hb hn];rfl
   simp[splitR,this]
  have bm:(l.map Str.c).length+1≤maxLen:=by rw[List.length_map];simp only[maxLen];omega
  have bb:((l.map Str.c).length+1)*16≤225000000000000:=by rw[List.length_map];omega
  clear hi
  cases hp:lowC c with
  |true=>
   have hlo:decide ((97:Int)≤(c.toNat:Int))=true:=by simp[lowC] at hp;simp;omega
   have hhi:decide ((c.toNat:Int)≤122)=true:=by simp[lowC] at hp;simp;omega
   have htk:tokLen c r=some (1+(r.takeWhile lowC).length):=by simp[tokLen,hp]
   have nx: ∀j,(r.takeWhile lowC).length=j→splitM s=(splitM ((c::r).drop (j+1))).map ((l++ [(c::r).take (j+1)])++ ·):=fun j e=>next (j+1) (by rw[htk,e,Nat.add_comm])
   have hwl:=tw_le lowC r
   clear next bad htk
   (repeat' (first|(refine LW.is ?_;first|(apply s_vr;exact rfl;apply v_indexS;exact rfl;exact rfl;decide;exact rfl))|(refine DR.is ?_;first|(apply d_vr;exact rfl;apply v_indexS;exact rfl;exact rfl;decide;exact rfl))|refine wk1 ?_|refine wk2 (fun hb hp=> ?_) (fun hb hp=> ?_)|fail))
   refine L.loopP (ι:=Nat) (fun n=>⟨[(6,aI ((n+1:Nat):Int)),(4,.row 4 (l.map Str.c)),(0,aS (c::r))],[],[(4,⟨9,1⟩)]⟩) (fun n=>r.length+1 - n) (fun n=>n≤(r.takeWhile lowC).length) (i0:=0) ?_ (Nat.zero_le _) ?_
   · exact wkk
   intro j hj K2 hK2
   have d0:(0:Int)≤((j+1:Nat):Int):=by omega
   have d1:((j+1:Nat):Int)≤((c::r).length:Int):=by simp only[List.length_cons];omega
   cases hx:r[j]? with
   |none=>
    have hjl:=List.getElem?_eq_none_iff.1 hx
    have hlt:decide (((j+1:Nat):Int)<((c::r).length:Int))=false:=by simp only[List.length_cons];simp;omega
    have hnx:=nx j (by omega)
    clear nx hK2
    (repeat' (first|(refine LW.is ?_;first|(apply s_vr;exact rfl;apply v_sliceSh;exact rfl;exact rfl;exact d0;exact d1;exact rfl)|(apply s_vr;exact rfl;apply v_sliceSl;exact rfl;exact rfl;exact d0;exact d1;exact rfl))|(refine DR.is ?_;first|(apply d_vr;exact rfl;apply v_sliceSh;exact rfl;exact rfl;exact d0;exact d1;exact rfl)|(apply d_vr;exact rfl;apply v_sliceSl;exact rfl;exact rfl;exact d0;exact d1;exact rfl))|refine wk1 ?_|refine wk2 (fun hb hp=> ?_) (fun hb hp=> ?_)|fail))
    refine L.only [4,0] ?_
    refine L.retok 4 90 4 rfl rfl rfl rfl ?_
    refine hK _ (l++ [(c::r).take (j+1)],(c::r).drop (j+1)) ⟨hnx,by dsimp only;rw[List.length_append,List.length_drop];simp only[List.length_cons,List.length_nil];omega⟩ (by dsimp only;rw[List.length_drop];simp only[List.length_cons];omega) (Wk.mk' (by intro id h;cases h) (.cons rfl (Sub.of_eq (congrArg (AV.row 4) (by rw[List.map_append];rfl))) (.cons rfl (Sub.refl _) .nil)) .nil (.cons rfl .nil))
   |some b=>
    have hjl:=(List.getElem?_eq_some_iff.1 hx).1
    have hlt:decide (((j+1:Nat):Int)<((c::r).length:Int))=true:=by simp only[List.length_cons];simp;omega
    have gx:(c::r)[((j+1:Nat):Int).toNat]?=some b:=by rw[Int.toNat_natCast,List.getElem?_cons_succ];exact hx
    by_cases b1:97≤b.toNat
    · have z1:decide ((97:Int)≤(b.toNat:Int))=true:=by simp;omega
      by_cases b2:b.toNat≤122
      · have z2:decide ((b.toNat:Int)≤122)=true:=by simp;omega
        have hnext:=tw_next (p:=lowC) hx (by simp[lowC,b1,b2]) hj
        clear nx
        (repeat' (first|(refine LW.is ?_;first|(apply s_vr;exact rfl;apply v_indexS;exact rfl;exact rfl;exact d0;exact gx))|(refine DR.is ?_;first|(apply d_vr;exact rfl;apply v_indexS;exact rfl;exact rfl;exact d0;exact gx))|refine wk1 ?_|refine wk2 (fun hb hp=> ?_) (fun hb hp=> ?_)|fail))
        refine hK2 _ (j+1) hnext (by omega) ?_
        exact wkk
      · have z2:decide ((b.toNat:Int)≤122)=false:=by simp;omega
        have hnx:=nx j (tw_stop (p:=lowC) hx (by simp[lowC,b2]) hj)
        clear nx hK2
        (repeat' (first|(refine LW.is ?_;first|(apply s_vr;exact rfl;apply v_indexS;exact rfl;exact rfl;exact d0;exact gx)|(apply s_vr;exact rfl;apply v_sliceSh;exact rfl;exact rfl;exact d0;exact d1;exact rfl)|(apply s_vr;exact rfl;apply v_sliceSl;exact rfl;exact rfl;exact d0;exact d1;exact rfl))|(refine DR.is ?_;first|(apply d_vr;exact rfl;apply v_indexS;exact rfl;exact rfl;exact d0;exact gx)|(apply d_vr;exact rfl;apply v_sliceSh;exact rfl;exact rfl;exact d0;exact d1;exact rfl)|(apply d_vr;exact rfl;apply v_sliceSl;exact rfl;exact rfl;exact d0;exact d1;exact rfl))|refine wk1 ?_|refine wk2 (fun hb hp=> ?_) (fun hb hp=> ?_)|fail))
        refine L.only [4,0] ?_
        refine L.retok 4 90 4 rfl rfl rfl rfl ?_
        refine hK _ (l++ [(c::r).take (j+1)],(c::r).drop (j+1)) ⟨hnx,by dsimp only;rw[List.length_append,List.length_drop];simp only[List.length_cons,List.length_nil];omega⟩ (by dsimp only;rw[List.length_drop];simp only[List.length_cons];omega) (Wk.mk' (by intro id h;cases h) (.cons rfl (Sub.of_eq (congrArg (AV.row 4) (by rw[List.map_append];rfl))) (.cons rfl (Sub.refl _) .nil)) .nil (.cons rfl .nil))
    · have z1:decide ((97:Int)≤(b.toNat:Int))=false:=by simp;omega
      have hnx:=nx j (tw_stop (p:=lowC) hx (by simp[lowC,b1]) hj)
      clear nx hK2
      (repeat' (first|(refine LW.is ?_;first|(apply s_vr;exact rfl;apply v_indexS;exact rfl;exact rfl;exact d0;exact gx)|(apply s_vr;exact rfl;apply v_sliceSh;exact rfl;exact rfl;exact d0;exact d1;exact rfl)|(apply s_vr;exact rfl;apply v_sliceSl;exact rfl;exact rfl;exact d0;exact d1;exact rfl))|(refine DR.is ?_;first|(apply d_vr;exact rfl;apply v_indexS;exact rfl;exact rfl;exact d0;exact gx)|(apply d_vr;exact rfl;apply v_sliceSh;exact rfl;exact rfl;exact d0;exact d1;exact rfl)|(apply d_vr;exact rfl;apply v_sliceSl;exact rfl;exact rfl;exact d0;exact d1;exact rfl))|refine wk1 ?_|refine wk2 (fun hb hp=> ?_) (fun hb hp=> ?_)|fail))
      refine L.only [4,0] ?_
      refine L.retok 4 90 4 rfl rfl rfl rfl ?_
      refine hK _ (l++ [(c::r).take (j+1)],(c::r).drop (j+1)) ⟨hnx,by dsimp only;rw[List.length_append,List.length_drop];simp only[List.length_cons,List.length_nil];omega⟩ (by dsimp only;rw[List.length_drop];simp only[List.length_cons];omega) (Wk.mk' (by intro id h;cases h) (.cons rfl (Sub.of_eq (congrArg (AV.row 4) (by rw[List.map_append];rfl))) (.cons rfl (Sub.refl _) .nil)) .nil (.cons rfl .nil))
  |false=>
  have hp0:=hp
  have hlow:decide ((97:Int)≤(c.toNat:Int))=false∨(decide ((97:Int)≤(c.toNat:Int))=true∧decide ((c.toNat:Int)≤122)=false):=by
   by_cases b1:97≤c.toNat
   · right;simp[lowC,b1] at hp;constructor
     · simp;omega
     · simp;omega
   · left;simp;omega
  clear hp
  rcases hlow with q1|⟨q1,q2⟩
  all_goals
   cases hp:digC c with
   |true=>
    have hlo:decide ((48:Int)≤(c.toNat:Int))=true:=by simp[digC] at hp;simp;omega
    have hhi:decide ((c.toNat:Int)≤57)=true:=by simp[digC] at hp;simp;omega
    have htk:tokLen c r=some (1+(r.takeWhile digC).length):=by simp[tokLen,hp0,hp]
    have nx: ∀j,(r.takeWhile digC).length=j→splitM s=(splitM ((c::r).drop (j+1))).map ((l++ [(c::r).take (j+1)])++ ·):=fun j e=>next (j+1) (by rw[htk,e,Nat.add_comm])
    have hwl:=tw_le digC r
    clear next bad htk
    (repeat' (first|(refine LW.is ?_;first|(apply s_vr;exact rfl;apply v_indexS;exact rfl;exact rfl;decide;exact rfl))|(refine DR.is ?_;first|(apply d_vr;exact rfl;apply v_indexS;exact rfl;exact rfl;decide;exact rfl))|refine wk1 ?_|refine wk2 (fun hb hp=> ?_) (fun hb hp=> ?_)|fail))
    refine L.loopP (ι:=Nat) (fun n=>⟨[(6,aI ((n+1:Nat):Int)),(4,.row 4 (l.map Str.c)),(0,aS (c::r))],[],[(4,⟨9,1⟩)]⟩) (fun n=>r.length+1 - n) (fun n=>n≤(r.takeWhile digC).length) (i0:=0) ?_ (Nat.zero_le _) ?_
    · exact wkk
    intro j hj K2 hK2
    have d0:(0:Int)≤((j+1:Nat):Int):=by omega
    have d1:((j+1:Nat):Int)≤((c::r).length:Int):=by simp only[List.length_cons];omega
    cases hx:r[j]? with
    |none=>
     have hjl:=List.getElem?_eq_none_iff.1 hx
     have hlt:decide (((j+1:Nat):Int)<((c::r).length:Int))=false:=by simp only[List.length_cons];simp;omega
     have hnx:=nx j (by omega)
     clear nx hK2
     (repeat' (first|(refine LW.is ?_;first|(apply s_vr;exact rfl;apply v_sliceSh;exact rfl;exact rfl;exact d0;exact d1;exact rfl)|(apply s_vr;exact rfl;apply v_sliceSl;exact rfl;exact rfl;exact d0;exact d1;exact rfl))|(refine DR.is ?_;first|(apply d_vr;exact rfl;apply v_sliceSh;exact rfl;exact rfl;exact d0;exact d1;exact rfl)|(apply d_vr;exact rfl;apply v_sliceSl;exact rfl;exact rfl;exact d0;exact d1;exact rfl))|refine wk1 ?_|refine wk2 (fun hb hp=> ?_) (fun hb hp=> ?_)|fail))
     refine L.only [4,0] ?_
     refine L.retok 4 90 4 rfl rfl rfl rfl ?_
     refine hK _ (l++ [(c::r).take (j+1)],(c::r).drop (j+1)) ⟨hnx,by dsimp only;rw[List.length_append,List.length_drop];simp only[List.length_cons,List.length_nil];omega⟩ (by dsimp only;rw[List.length_drop];simp only[List.length_cons];omega) (Wk.mk' (by intro id h;cases h) (.cons rfl (Sub.of_eq (congrArg (AV.row 4) (by rw[List.map_append];rfl))) (.cons rfl (Sub.refl _) .nil)) .nil (.cons rfl .nil))
    |some b=>
     have hjl:=(List.getElem?_eq_some_iff.1 hx).1
     have hlt:decide (((j+1:Nat):Int)<((c::r).length:Int))=true:=by simp only[List.length_cons];simp;omega
     have gx:(c::r)[((j+1:Nat):Int).toNat]?=some b:=by rw[Int.toNat_natCast,List.getElem?_cons_succ];exact hx
     by_cases b1:48≤b.toNat
     · have z1:decide ((48:Int)≤(b.toNat:Int))=true:=by simp;omega
       by_cases b2:b.toNat≤57
       · have z2:decide ((b.toNat:Int)≤57)=true:=by simp;omega
         have hnext:=tw_next (p:=digC) hx (by simp[digC,b1,b2]) hj
         clear nx
         (repeat' (first|(refine LW.is ?_;first|(apply s_vr;exact rfl;apply v_indexS;exact rfl;exact rfl;exact d0;exact gx))|(refine DR.is ?_;first|(apply d_vr;exact rfl;apply v_indexS;exact rfl;exact rfl;exact d0;exact gx))|refine wk1 ?_|refine wk2 (fun hb hp=> ?_) (fun hb hp=> ?_)|fail))
         refine hK2 _ (j+1) hnext (by omega) ?_
         exact wkk
       · have z2:decide ((b.toNat:Int)≤57)=false:=by simp;omega
         have hnx:=nx j (tw_stop (p:=digC) hx (by simp[digC,b2]) hj)
         clear nx hK2
         (repeat' (first|(refine LW.is ?_;first|(apply s_vr;exact rfl;apply v_indexS;exact rfl;exact rfl;exact d0;exact gx)|(apply s_vr;exact rfl;apply v_sliceSh;exact rfl;exact rfl;exact d0;exact d1;exact rfl)|(apply s_vr;exact rfl;apply v_sliceSl;exact rfl;exact rfl;exact d0;exact d1;exact rfl))|(refine DR.is ?_;first|(apply d_vr;exact rfl;apply v_indexS;exact rfl;exact rfl;exact d0;exact gx)|(apply d_vr;exact rfl;apply v_sliceSh;exact rfl;exact rfl;exact d0;exact d1;exact rfl)|(apply d_vr;exact rfl;apply v_sliceSl;exact rfl;exact rfl;exact d0;exact d1;exact rfl))|refine wk1 ?_|refine wk2 (fun hb hp=> ?_) (fun hb hp=> ?_)|fail))
         refine L.only [4,0] ?_
         refine L.retok 4 90 4 rfl rfl rfl rfl ?_
         refine hK _ (l++ [(c::r).take (j+1)],(c::r).drop (j+1)) ⟨hnx,by dsimp only;rw[List.length_append,List.length_drop];simp only[List.length_cons,List.length_nil];omega⟩ (by dsimp only;rw[List.length_drop];simp only[List.length_cons];omega) (Wk.mk' (by intro id h;cases h) (.cons rfl (Sub.of_eq (congrArg (AV.row 4) (by rw[List.map_append];rfl))) (.cons rfl (Sub.refl _) .nil)) .nil (.cons rfl .nil))
     · have z1:decide ((48:Int)≤(b.toNat:Int))=false:=by simp;omega
       have hnx:=nx j (tw_stop (p:=digC) hx (by simp[digC,b1]) hj)
       clear nx hK2
       (repeat' (first|(refine LW.is ?_;first|(apply s_vr;exact rfl;apply v_indexS;exact rfl;exact rfl;exact d0;exact gx)|(apply s_vr;exact rfl;apply v_sliceSh;exact rfl;exact rfl;exact d0;exact d1;exact rfl)|(apply s_vr;exact rfl;apply v_sliceSl;exact rfl;exact rfl;exact d0;exact d1;exact rfl))|(refine DR.is ?_;first|(apply d_vr;exact rfl;apply v_indexS;exact rfl;exact rfl;exact d0;exact gx)|(apply d_vr;exact rfl;apply v_sliceSh;exact rfl;exact rfl;exact d0;exact d1;exact rfl)|(apply d_vr;exact rfl;apply v_sliceSl;exact rfl;exact rfl;exact d0;exact d1;exact rfl))|refine wk1 ?_|refine wk2 (fun hb hp=> ?_) (fun hb hp=> ?_)|fail))
       refine L.only [4,0] ?_
       refine L.retok 4 90 4 rfl rfl rfl rfl ?_
       refine hK _ (l++ [(c::r).take (j+1)],(c::r).drop (j+1)) ⟨hnx,by dsimp only;rw[List.length_append,List.length_drop];simp only[List.length_cons,List.length_nil];omega⟩ (by dsimp only;rw[List.length_drop];simp only[List.length_cons];omega) (Wk.mk' (by intro id h;cases h) (.cons rfl (Sub.of_eq (congrArg (AV.row 4) (by rw[List.map_append];rfl))) (.cons rfl (Sub.refl _) .nil)) .nil (.cons rfl .nil))
   |false=>
   have hdig:decide ((48:Int)≤(c.toNat:Int))=false∨(decide ((48:Int)≤(c.toNat:Int))=true∧decide ((c.toNat:Int)≤57)=false):=by
    by_cases b1:48≤c.toNat
    · right;simp[digC,b1] at hp;constructor
      · simp;omega
      · simp;omega
    · left;simp;omega
   rcases hdig with q3|⟨q3,q4⟩
   all_goals
    by_cases h39:c=39
    · have q5:((c.toNat:Int)==39)=true:=by rw[h39];rfl
      have i1:=ixb_any r 39
      have hge:=Lib.indexByte_ge r 39
      have hil:=ixb_lt r 39
      have htk:tokLen c r=(if Lib.indexByte r 39<0 then none else some ((Lib.indexByte r 39).toNat+2)):=by rw[tokLen,hp0,hp,if_neg (by decide),if_neg (by decide),if_pos h39]
      generalize Lib.indexByte r 39=i at*
      by_cases hi0:i<0
      · have qi:decide (i<0)=true:=decide_eq_true hi0
        rw[bad (by rw[htk,if_pos hi0])]
        clear next bad
        (repeat' (first|(refine LW.is ?_;first|(apply s_vr;exact rfl;apply v_indexS;exact rfl;exact rfl;decide;exact rfl)|(apply s_vr;exact rfl;apply v_sliceSl;exact rfl;exact rfl;decide;(simp<;>omega);(show _=r;exact rfl)))|(refine DR.is ?_;first|(apply d_vr;exact rfl;apply v_indexS;exact rfl;exact rfl;decide;exact rfl)|(apply d_vr;exact rfl;apply v_sliceSl;exact rfl;exact rfl;decide;(simp<;>omega);(show _=r;exact rfl)))|refine wk1 ?_|refine wk2 (fun hb hp=> ?_) (fun hb hp=> ?_)|fail))
        all_goals refine wkf ?_
        all_goals rfl
      · have qi:decide (i<0)=false:=decide_eq_false hi0
        have hnx:=next (i+2).toNat (by rw[htk,if_neg hi0];congr 1;omega)
        have d0:(0:Int)≤i+2:=by omega
        have d1:i+2≤((c::r).length:Int):=by simp only[List.length_cons];omega
        clear next bad
        (repeat' (first|(refine LW.is ?_;first|(apply s_vr;exact rfl;apply v_indexS;exact rfl;exact rfl;decide;exact rfl)|(apply s_vr;exact rfl;apply v_sliceSl;exact rfl;exact rfl;decide;(simp<;>omega);(show _=r;exact rfl))|(apply s_vr;exact rfl;apply v_sliceSh;exact rfl;exact rfl;exact d0;exact d1;exact rfl)|(apply s_vr;exact rfl;apply v_sliceSl;exact rfl;exact rfl;exact d0;exact d1;exact rfl))|(refine DR.is ?_;first|(apply d_vr;exact rfl;apply v_indexS;exact rfl;exact rfl;decide;exact rfl)|(apply d_vr;exact rfl;apply v_sliceSl;exact rfl;exact rfl;decide;(simp<;>omega);(show _=r;exact rfl))|(apply d_vr;exact rfl;apply v_sliceSh;exact rfl;exact rfl;exact d0;exact d1;exact rfl)|(apply d_vr;exact rfl;apply v_sliceSl;exact rfl;exact rfl;exact d0;exact d1;exact rfl))|refine wk1 ?_|refine wk2 (fun hb hp=> ?_) (fun hb hp=> ?_)|fail))
        refine L.only [4,0] ?_
        refine L.retok 4 90 4 rfl rfl rfl rfl ?_
        refine hK _ (l++ [(c::r).take (i+2).toNat],(c::r).drop (i+2).toNat) ⟨hnx,by dsimp only;rw[List.length_append,List.length_drop];simp only[List.length_cons,List.length_nil];omega⟩ (by dsimp only;rw[List.length_drop];simp only[List.length_cons];omega) (Wk.mk' (by intro id h;cases h) (.cons rfl (Sub.of_eq (congrArg (AV.row 4) (by rw[List.map_append];rfl))) (.cons rfl (Sub.refl _) .nil)) .nil (.cons rfl .nil))
    · have q5:((c.toNat:Int)==39)=false:=u8ne (n:=39) (by decide) h39
      have i2:=ixb_any signs c
      have htk:tokLen c r=(if 0≤Lib.indexByte signs c then some 1 else none):=by rw[tokLen,hp0,hp,if_neg (by decide),if_neg (by decide),if_neg h39]
      generalize Lib.indexByte signs c=i at*
      by_cases hi0:0≤i
      · have qi:decide (0≤i)=true:=decide_eq_true hi0
        have hnx:=next 1 (by rw[htk,if_pos hi0])
        have d0:(0:Int)≤1:=by omega
        have d1:(1:Int)≤((c::r).length:Int):=by simp only[List.length_cons];omega
        clear next bad
        (repeat' (first|(refine LW.is ?_;first|(apply s_vr;exact rfl;apply v_indexS;exact rfl;exact rfl;decide;exact rfl)|(apply s_vr;exact rfl;apply v_sliceSh;exact rfl;exact rfl;exact d0;exact d1;exact rfl)|(apply s_vr;exact rfl;apply v_sliceSl;exact rfl;exact rfl;exact d0;exact d1;exact rfl))|(refine DR.is ?_;first|(apply d_vr;exact rfl;apply v_indexS;exact rfl;exact rfl;decide;exact rfl)|(apply d_vr;exact rfl;apply v_sliceSh;exact rfl;exact rfl;exact d0;exact d1;exact rfl)|(apply d_vr;exact rfl;apply v_sliceSl;exact rfl;exact rfl;exact d0;exact d1;exact rfl))|refine wk1 ?_|refine wk2 (fun hb hp=> ?_) (fun hb hp=> ?_)|fail))
        refine L.only [4,0] ?_
        refine L.retok 4 90 4 rfl rfl rfl rfl ?_
        refine hK _ (l++ [(c::r).take 1],(c::r).drop 1) ⟨hnx,by dsimp only;rw[List.length_append,List.length_drop];simp only[List.length_cons,List.length_nil];omega⟩ (by dsimp only;rw[List.length_drop];simp only[List.length_cons];omega) (Wk.mk' (by intro id h;cases h) (.cons rfl (Sub.of_eq (congrArg (AV.row 4) (by rw[List.map_append];rfl))) (.cons rfl (Sub.refl _) .nil)) .nil (.cons rfl .nil))
      · have qi:decide (0≤i)=false:=decide_eq_false hi0
        rw[bad (by rw[htk,if_neg hi0])]
        clear next bad
        (repeat' (first|(refine LW.is ?_;first|(apply s_vr;exact rfl;apply v_indexS;exact rfl;exact rfl;decide;exact rfl))|(refine DR.is ?_;first|(apply d_vr;exact rfl;apply v_indexS;exact rfl;exact rfl;decide;exact rfl))|refine wk1 ?_|refine wk2 (fun hb hp=> ?_) (fun hb hp=> ?_)|fail))
        all_goals refine wkf ?_
        all_goals rfl
end Go.Proofs.YtadjbegnlimepaaGreatDoor
namespace Go.Abs
set_option linter.unusedVariables false
section
variable {P:Program}{c:Ctx}{st:St}{fn:Func}{res:AV}{rs:List ResultVar}{y z u:IV}{cs:List AV}
theorem L.endQ{bx':List (Nat×Box)}{vs:List AV}(hfn:fn.results=rs.toArray)(hv:(st.ress P rs).map AV.pub.pubs=some vs)(hw:Wk c st ⟨[],bx',[]⟩)(he:resOf vs=res):
 L c st (bodyPost P fn (Post c bx' [] res) .ret):=by
 cases h:st.ress P rs with
 |none=>rw[h] at hv;cases hv
 |some us=>rw[h] at hv;cases hv;exact L.ends hfn h (he▸Sub.resOf) hw
theorem L.endQN{bx':List (Nat×Box)}{vs:List AV}(hfn:fn.results=rs.toArray)(hv:(st.ress P rs).map AV.pub.pubs=some vs)(hw:Wk c st ⟨[],bx',[]⟩)(he:resOf vs=res):
 L c st (bodyPost P fn (Post c bx' [] res) .normal):=by
 cases h:st.ress P rs with
 |none=>rw[h] at hv;cases hv
 |some us=>rw[h] at hv;cases hv;exact L.endsN hfn h (he▸Sub.resOf) hw
variable {bx':List (Nat×Box)}
theorem L.endQ0(hfn:fn.results=rs.toArray)(hv:(st.ress P rs).map AV.pub.pubs=some [])(hw:Wk c st ⟨[],bx',[]⟩)(he:AV.tup [] =res):L c st (bodyPost P fn (Post c bx' [] res) .ret):=L.endQ hfn hv hw he
theorem L.endQ0N(hfn:fn.results=rs.toArray)(hv:(st.ress P rs).map AV.pub.pubs=some [])(hw:Wk c st ⟨[],bx',[]⟩)(he:AV.tup [] =res):L c st (bodyPost P fn (Post c bx' [] res) .normal):=L.endQN hfn hv hw he
theorem L.endQ1(hfn:fn.results=rs.toArray)(hv:(st.ress P rs).map AV.pub.pubs=some [.iv y])(hw:Wk c st ⟨[],bx',[]⟩)(he:AV.iv y=res):L c st (bodyPost P fn (Post c bx' [] res) .ret):=L.endQ hfn hv hw he
theorem L.endQA(hfn:fn.results=rs.toArray)(hv:(st.ress P rs).map AV.pub.pubs=some [.agg cs])(hw:Wk c st ⟨[],bx',[]⟩)(he:AV.agg cs=res):L c st (bodyPost P fn (Post c bx' [] res) .ret):=L.endQ hfn hv hw he
theorem L.endQAI(hfn:fn.results=rs.toArray)(hv:(st.ress P rs).map AV.pub.pubs=some [.agg cs,.iv y])(hw:Wk c st ⟨[],bx',[]⟩)(he:AV.tup [.agg cs,.iv y] =res):L c st (bodyPost P fn (Post c bx' [] res) .ret):=L.endQ hfn hv hw he
end
theorem wkq{X1 X2 Y:Prop}(h1:X1)(h2:X2)(hs:X1→X2→Y:=by(intro q1 q2;first|(apply L.endQ1;exact rfl;exact rfl;exact Wk.mk' (by intro id h;simp[keys] at h;subst h;rfl) .nil (.cons rfl rfl (Subs.of_eq q2) .nil) .nil;exact q1)|(apply L.endQ0;exact rfl;exact rfl;exact Wk.mk' (by intro id h;simp[keys] at h;subst h;rfl) .nil (.cons rfl rfl (Subs.of_eq q2) .nil) .nil;exact q1)|(apply L.endQ0N;exact rfl;exact rfl;exact Wk.mk' (by intro id h;simp[keys] at h;subst h;rfl) .nil (.cons rfl rfl (Subs.of_eq q2) .nil) .nil;exact q1)|(apply L.endQA;exact rfl;exact rfl;exact Wk.mk' (by intro id h;simp[keys] at h;subst h;rfl) .nil (.cons rfl rfl (Subs.of_eq q2) .nil) .nil;exact q1)|(apply L.endQAI;exact rfl;exact rfl;exact Wk.mk' (by intro id h;simp[keys] at h;subst h;rfl) .nil (.cons rfl rfl (Subs.of_eq q2) .nil) .nil;exact q1)|fail)):Y:=hs h1 h2
end Go.Abs
namespace Go.Proofs.YtadjbegnlimepaaGreatDoor
open Go.Abs
set_option maxRecDepth 100000
attribute [local irreducible] L Code.wp bodyPost Exit.then Exit.inBlock
set_option linter.unusedVariables false
set_option linter.unusedSimpArgs false
def eqSl:List Str→List Str→Bool
 | [],[] =>true
 |a::l,b::m=>a==b && eqSl l m
 |_,_=>false
theorem eqSl_len: ∀{l m:List Str},l.length≠m.length→eqSl l m=false
 | [],[],h=>absurd rfl h
 | [],_::_,_=>rfl
 |_::_,[],_=>rfl
 |a::l,b::m,h=>by rw[eqSl,eqSl_len (by simpa using h),Bool.and_false]
theorem eqSl_iff: ∀{l m:List Str},eqSl l m=true↔l=m
 | [],[] =>by simp[eqSl]
 | [],_::_=>by simp[eqSl]
 |_::_,[] =>by simp[eqSl]
 |a::l,b::m=>by simp[eqSl,eqSl_iff]
theorem equalS_any{gs:Globs}(a b:List Str)(ha:a.length≤1000000):CallG gs Tryz.prog 55 [.iv (.sl (a.map Str.c)),.iv (.sl (b.map Str.c))] [] [] [] (aB (eqSl a b)):=by
 refine CallG.intro _ Tryz.func55 rfl Tryz.ntmps55 rfl (fun w0 E0 hG=> ?_)
 by_cases hl:a.length=b.length
 case neg=>
  have q:(((a.map Str.c).length:Int) !=((b.map Str.c).length:Int))=true:=by rw[List.length_map,List.length_map];simp;omega
  rw[eqSl_len hl]
  (repeat' (first|refine wk1 ?_|refine wk2 (fun hb hp=> ?_) (fun hb hp=> ?_)|fail))
  all_goals refine wkf ?_
  all_goals rfl
 have q:(((a.map Str.c).length:Int) !=((b.map Str.c).length:Int))=false:=by rw[List.length_map,List.length_map];simp;omega
 (repeat' (first|refine wk1 ?_|refine wk2 (fun hb hp=> ?_) (fun hb hp=> ?_)|fail))
 refine L.loopP (ι:=Nat) (fun i=>⟨[(13,aI (i:Int)),(12,aI ((a.map Str.c).length:Int)),(0,.iv (.sl (a.map Str.c))),(1,.iv (.sl (b.map Str.c)))],[],[]⟩) (fun i=>a.length - i) (fun i=>eqSl a b=eqSl (a.drop i) (b.drop i)) (i0:=0) ?_ rfl ?_
 · exact wkk
 intro i hi K hK
 cases hx:a[i]? with
 |none=>
  have hlt:=ltF (l:=a.map Str.c) (getFN hx)
  have h1:=List.getElem?_eq_none_iff.1 hx
  rw[hi,List.drop_eq_nil_of_le h1,List.drop_eq_nil_of_le (by omega)]
  (repeat' (first|refine wk1 ?_|refine wk2 (fun hb hp=> ?_) (fun hb hp=> ?_)|fail))
  all_goals refine wkf ?_
  all_goals rfl
 |some x=>
  have hlt:=ltT (l:=a.map Str.c) (getF (f:=Str.c) hx)
  have hlt':=ltN hx
  obtain⟨y,hy⟩: ∃y,b[i]?=some y:=⟨_,List.getElem?_eq_getElem (by omega)⟩
  have g1:(a.map Str.c)[((i:Nat):Int).toNat]?=some [S x]:=by rw[Int.toNat_natCast,List.getElem?_map,hx];rfl
  have g2:(b.map Str.c)[((i:Nat):Int).toNat]?=some [S y]:=by rw[Int.toNat_natCast,List.getElem?_map,hy];rfl
  rw[dropC hx,dropC hy,eqSl] at hi
  cases he:(x==y) with
  |true=>
   have hq:(!(x==y))=false:=by rw[he];rfl
   rw[he,Bool.true_and] at hi
   (repeat' (first|refine wk1 ?_|refine wk2 (fun hb hp=> ?_) (fun hb hp=> ?_)|fail))
   refine hK _ (i+1) hi (by omega) ?_
   exact wkk
  |false=>
   have hq:(!(x==y))=true:=by rw[he];rfl
   rw[hi,he,Bool.false_and]
   (repeat' (first|refine wk1 ?_|refine wk2 (fun hb hp=> ?_) (fun hb hp=> ?_)|fail))
   all_goals refine wkf ?_
   all_goals rfl
structure Rd where
 l:List Str
 bad:Bool
abbrev rdB(r:Rd):Box:=⟨44,.l [.iv (.sl (r.l.map Str.c)),aB r.bad]⟩
def TokOk(s:Str):Prop:=s.length≤1000000∧(s.head?=some 39→2≤s.length)∧(s.head?=some 45→s.length=1)
structure RdOk (r:Rd):Prop where
 n:r.l.length≤1000000
 w: ∀s∈r.l,TokOk s
def Rd.front(r:Rd):Str:=r.l.headD []
theorem front_any{gs:Globs}(r:Rd):CallG gs Tryz.prog 74 [.ptr 1000 0] [(1000,rdB r)] [(1000,rdB r)] [] (aS r.front):=by
 refine CallG.intro _ Tryz.func74 rfl Tryz.ntmps74 rfl (fun w0 E0 hG=> ?_)
 obtain⟨l,bad⟩:=r
 cases l with
 |nil=>
  (repeat' (first|refine wk1 ?_|refine wk2 (fun hb hp=> ?_) (fun hb hp=> ?_)|fail))
  all_goals refine wkq ?_ ?_
  all_goals rfl
 |cons s l=>
  have q:((((s::l).map Str.c).length:Int)==0)=false:=by simp;omega
  have g:((s::l).map Str.c)[(0:Int).toNat]?=some [S s]:=rfl
  (repeat' (first|refine wk1 ?_|refine wk2 (fun hb hp=> ?_) (fun hb hp=> ?_)|fail))
  all_goals refine wkq ?_ ?_
  all_goals rfl
def nextM(r:Rd):Str×Rd:=if r.front= [] then([],⟨r.l,true⟩) else(r.front,⟨r.l.drop 1,r.bad⟩)
theorem next_any{gs:Globs}(r:Rd):CallG gs Tryz.prog 56 [.ptr 1000 0] [(1000,rdB r)] [(1000,rdB (nextM r).2)] [] (aS (nextM r).1):=by
 have kf:=front_any (gs:=gs) r
 refine CallG.intro _ Tryz.func56 rfl Tryz.ntmps56 rfl (fun w0 E0 hG=> ?_)
 by_cases h:r.front= []
 · rw[show nextM r=([],⟨r.l,true⟩) from if_pos h]
   have q:(r.front==([]:Str))=true:=by rw[h];rfl
   (repeat' (first|(refine LW.is ?_;first|(apply s_callQ1 (q:=1000) (ha:=rfl);(case hb=>exact rfl);(case hc=>assumption);(case hG=>assumption);exact rfl;exact rfl;exact rfl;exact rfl))|(refine DR.is ?_;first|(apply d_callQ1 (q:=1000) (ha:=rfl);(case hb=>exact rfl);(case hc=>assumption);(case hG=>assumption);exact rfl;exact rfl;exact rfl;exact rfl))|refine wk1 ?_|refine wk2 (fun hb hp=> ?_) (fun hb hp=> ?_)|fail))
   all_goals refine wkq ?_ ?_
   all_goals rfl
 · rw[show nextM r=(r.front,⟨r.l.drop 1,r.bad⟩) from if_neg h]
   have q:(r.front==([]:Str))=false:=by simpa using h
   obtain⟨l,bad⟩:=r
   cases l with
   |nil=>exact absurd rfl h
   |cons s l=>
    have d0:(0:Int)≤1:=by decide
    have d1:(1:Int)≤(((s::l).map Str.c).length:Int):=by simp;omega
    (repeat' (first|(refine LW.is ?_;first|(apply s_callQ1 (q:=1000) (ha:=rfl);(case hb=>exact rfl);(case hc=>assumption);(case hG=>assumption);exact rfl;exact rfl;exact rfl;exact rfl)|(apply s_vr;exact rfl;apply v_sliceVl;exact rfl;exact rfl;exact lenS1 _;exact d0;exact d1;exact rfl))|(refine DR.is ?_;first|(apply d_callQ1 (q:=1000) (ha:=rfl);(case hb=>exact rfl);(case hc=>assumption);(case hG=>assumption);exact rfl;exact rfl;exact rfl;exact rfl)|(apply d_vr;exact rfl;apply v_sliceVl;exact rfl;exact rfl;exact lenS1 _;exact d0;exact d1;exact rfl))|refine wk1 ?_|refine wk2 (fun hb hp=> ?_) (fun hb hp=> ?_)|fail))
    all_goals refine wkq ?_ ?_
    all_goals rfl
def atRd(r:Rd)(ws:List Str):Bool×Rd:=if r.l.length<ws.length then(false,r) else if eqSl (r.l.take ws.length) ws then(true,⟨r.l.drop ws.length,r.bad⟩) else(false,r)
theorem at_any{gs:Globs}(r:Rd)(ws:List Str)(hr:RdOk r)(hw:ws.length≤1000000):CallG gs Tryz.prog 21 [.ptr 1000 0,.iv (.sl (ws.map Str.c))] [(1000,rdB r)] [(1000,rdB (atRd r ws).2)] [] (aB (atRd r ws).1):=by
 refine CallG.intro _ Tryz.func21 rfl Tryz.ntmps21 rfl (fun w0 E0 hG=> ?_)
 obtain⟨l,bad⟩:=r
 have hn:=hr.n
 dsimp only at hn
 by_cases h:l.length<ws.length
 · rw[show atRd ⟨l,bad⟩ ws=(false,⟨l,bad⟩) from if_pos h]
   have q:decide (((l.map Str.c).length:Int)<((ws.map Str.c).length:Int))=true:=decide_eq_true (by rw[List.length_map,List.length_map];omega)
   (repeat' (first|refine wk1 ?_|refine wk2 (fun hb hp=> ?_) (fun hb hp=> ?_)|fail))
   all_goals refine wkq ?_ ?_
   all_goals rfl
 have q:decide (((l.map Str.c).length:Int)<((ws.map Str.c).length:Int))=false:=decide_eq_false (by rw[List.length_map,List.length_map];omega)
 have ke:=equalS_any (gs:=gs) (l.take ws.length) ws (by rw[List.length_take];omega)
 have d0:(0:Int)≤((ws.map Str.c).length:Int):=by omega
 have d1:((ws.map Str.c).length:Int)≤((l.map Str.c).length:Int):=by rw[List.length_map,List.length_map];omega
 have e1:(l.map Str.c).take ((ws.map Str.c).length:Int).toNat=(l.take ws.length).map Str.c:=by rw[Int.toNat_natCast,List.length_map,List.map_take]
 have e2:(l.map Str.c).drop ((ws.map Str.c).length:Int).toNat=(l.drop ws.length).map Str.c:=by rw[Int.toNat_natCast,List.length_map,List.map_drop]
 rw[show atRd ⟨l,bad⟩ ws=if eqSl (l.take ws.length) ws then(true,⟨l.drop ws.length,bad⟩) else(false,⟨l,bad⟩) from if_neg h]
 cases he:eqSl (l.take ws.length) ws with
 |true=>
  rw[he] at ke
  (repeat' (first|(refine LW.is ?_;first|(apply s_vr;exact rfl;apply v_sliceVh;exact rfl;exact rfl;exact lenS1 _;exact d0;exact d1;exact e1)|(apply s_vr;exact rfl;apply v_sliceVl;exact rfl;exact rfl;exact lenS1 _;exact d0;exact d1;exact e2))|(refine DR.is ?_;first|(apply d_vr;exact rfl;apply v_sliceVh;exact rfl;exact rfl;exact lenS1 _;exact d0;exact d1;exact e1)|(apply d_vr;exact rfl;apply v_sliceVl;exact rfl;exact rfl;exact lenS1 _;exact d0;exact d1;exact e2))|refine wk1 ?_|refine wk2 (fun hb hp=> ?_) (fun hb hp=> ?_)|fail))
  all_goals refine wkq ?_ ?_
  all_goals rfl
 |false=>
  rw[he] at ke
  (repeat' (first|(refine LW.is ?_;first|(apply s_vr;exact rfl;apply v_sliceVh;exact rfl;exact rfl;exact lenS1 _;exact d0;exact d1;exact e1))|(refine DR.is ?_;first|(apply d_vr;exact rfl;apply v_sliceVh;exact rfl;exact rfl;exact lenS1 _;exact d0;exact d1;exact e1))|refine wk1 ?_|refine wk2 (fun hb hp=> ?_) (fun hb hp=> ?_)|fail))
  all_goals refine wkq ?_ ?_
  all_goals rfl
def takeM(r:Rd)(ws:List Str):Rd:=if(atRd r ws).1 then(atRd r ws).2 else⟨(atRd r ws).2.l,true⟩
theorem take_any{gs:Globs}(r:Rd)(ws:List Str)(hr:RdOk r)(hw:ws.length≤1000000):CallG gs Tryz.prog 12 [.ptr 1000 0,.iv (.sl (ws.map Str.c))] [(1000,rdB r)] [(1000,rdB (takeM r ws))] [] (.tup []):=by
 have ka:=at_any (gs:=gs) r ws hr hw
 unfold takeM
 generalize atRd r ws=p at*
 obtain⟨b,l,bad⟩:=p
 refine CallG.intro _ Tryz.func12 rfl Tryz.ntmps12 rfl (fun w0 E0 hG=> ?_)
 cases b with
 |true=>
  (repeat' (first|(refine LW.is ?_;first|(apply s_callQ1 (q:=1000) (ha:=rfl);(case hb=>exact rfl);(case hc=>assumption);(case hG=>assumption);exact rfl;exact rfl;exact rfl;exact rfl))|(refine DR.is ?_;first|(apply d_callQ1 (q:=1000) (ha:=rfl);(case hb=>exact rfl);(case hc=>assumption);(case hG=>assumption);exact rfl;exact rfl;exact rfl;exact rfl))|refine wk1 ?_|refine wk2 (fun hb hp=> ?_) (fun hb hp=> ?_)|fail))
  all_goals refine wkq ?_ ?_
  all_goals rfl
 |false=>
  (repeat' (first|(refine LW.is ?_;first|(apply s_callQ1 (q:=1000) (ha:=rfl);(case hb=>exact rfl);(case hc=>assumption);(case hG=>assumption);exact rfl;exact rfl;exact rfl;exact rfl))|(refine DR.is ?_;first|(apply d_callQ1 (q:=1000) (ha:=rfl);(case hb=>exact rfl);(case hc=>assumption);(case hG=>assumption);exact rfl;exact rfl;exact rfl;exact rfl))|refine wk1 ?_|refine wk2 (fun hb hp=> ?_) (fun hb hp=> ?_)|fail))
  all_goals refine wkq ?_ ?_
  all_goals rfl
theorem RdOk.front{r:Rd}(h:RdOk r):r.front.length≤1000000:=by
 unfold Rd.front
 cases hl:r.l with
 |nil=>simp
 |cons s l=>exact(h.w s (by rw[hl];simp)).1
theorem RdOk.drop{r:Rd}(h:RdOk r)(n:Nat)(b:Bool):RdOk ⟨r.l.drop n,b⟩:=⟨by have:=h.n;simp only[List.length_drop];omega,fun s hs=>h.w s (List.mem_of_mem_drop hs)⟩
theorem RdOk.mark{r:Rd}(h:RdOk r)(b:Bool):RdOk ⟨r.l,b⟩:=⟨h.n,h.w⟩
theorem RdOk.next{r:Rd}(h:RdOk r):RdOk (nextM r).2:=by
 unfold nextM;split
 · exact h.mark true
 · exact h.drop 1 r.bad
theorem next_len{r:Rd}(h:RdOk r):(nextM r).1.length≤1000000:=by
 unfold nextM;split
 · simp
 · exact h.front
theorem RdOk.at{r:Rd}(h:RdOk r)(ws:List Str):RdOk (atRd r ws).2:=by
 unfold atRd;split
 · exact h
 · split
   · exact h.drop _ _
   · exact h
def nameM(r:Rd):Str×Rd:=((nextM r).1,⟨(nextM r).2.l,(nextM r).2.bad|| !namedM (nextM r).1⟩)
theorem RdOk.name{r:Rd}(h:RdOk r):RdOk (nameM r).2:=h.next.mark _
theorem name_any(r:Rd)(hr:RdOk r):CallG gs0 Tryz.prog 22 [.ptr 1000 0] [(1000,rdB r)] [(1000,rdB (nameM r).2)] [] (aS (nameM r).1):=by
 have kn:=next_any (gs:=gs0) r
 have kN:=named_any (nextM r).1 (by have:=next_len hr;omega)
 unfold nameM
 generalize nextM r=p at*
 obtain⟨s,l,bad⟩:=p
 refine CallG.intro _ Tryz.func22 rfl Tryz.ntmps22 rfl (fun w0 E0 hG=> ?_)
 cases bad with
 |true=>
  (repeat' (first|(refine LW.is ?_;first|(apply s_callQ1 (q:=1000) (ha:=rfl);(case hb=>exact rfl);(case hc=>assumption);(case hG=>assumption);exact rfl;exact rfl;exact rfl;exact rfl))|(refine DR.is ?_;first|(apply d_callQ1 (q:=1000) (ha:=rfl);(case hb=>exact rfl);(case hc=>assumption);(case hG=>assumption);exact rfl;exact rfl;exact rfl;exact rfl))|refine wk1 ?_|refine wk2 (fun hb hp=> ?_) (fun hb hp=> ?_)|fail))
  all_goals refine wkq ?_ ?_
  all_goals rfl
 |false=>
  (repeat' (first|(refine LW.is ?_;first|(apply s_callQ1 (q:=1000) (ha:=rfl);(case hb=>exact rfl);(case hc=>assumption);(case hG=>assumption);exact rfl;exact rfl;exact rfl;exact rfl))|(refine DR.is ?_;first|(apply d_callQ1 (q:=1000) (ha:=rfl);(case hb=>exact rfl);(case hc=>assumption);(case hG=>assumption);exact rfl;exact rfl;exact rfl;exact rfl))|refine wk1 ?_|refine wk2 (fun hb hp=> ?_) (fun hb hp=> ?_)|fail))
  all_goals refine wkq ?_ ?_
  all_goals rfl
end Go.Proofs.YtadjbegnlimepaaGreatDoor
