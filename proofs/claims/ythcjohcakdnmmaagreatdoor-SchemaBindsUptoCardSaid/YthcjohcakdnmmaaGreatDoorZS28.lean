/- Several texts in one, each with its own sentence ahead of it. Conditions: each one says its own. -/
import Derived.Test.YthcjohcakdnmmaaGreatDoorZS19
import Derived.Test.YthcjohcakdnmmaaGreatDoorZS23
import Derived.Test.YthcjohcakdnmmaaGreatDoorZS26
set_option linter.all false
namespace Go.Proofs.YthcjohcakdnmmaaGreatDoor
open Go.Abs
set_option maxRecDepth 100000
attribute [local irreducible] L Code.wp bodyPost Exit.then Exit.inBlock
set_option linter.unusedVariables false
set_option linter.unusedSimpArgs false
instance plainInt:PlainTy Tryz.prog 3:=⟨by kernel_rfl⟩
instance zero11:ZeroTy Tryz.prog 105 [.int .i64 0,.int .i64 0,.int .i64 0,.int .i64 0,.int .i64 0,.int .i64 0,.int .i64 0,.int .i64 0,.int .i64 0,.int .i64 0,.int .i64 0]:=⟨by kernel_rfl⟩
def argT:List Int:= [0,0,0,2,2,2,2,2,2,1,1]
theorem tbl_arg{op:Int}(h1:1≤op)(h2:op≤10): ∃k:Int,lookM tblE op=some k∧argT[op.toNat]?=some k:=by
 have:op=1∨op=2∨op=3∨op=4∨op=5∨op=6∨op=7∨op=8∨op=9∨op=10:=by omega
 rcases this with rfl|rfl|rfl|rfl|rfl|rfl|rfl|rfl|rfl|rfl<;>exact⟨_,rfl,rfl⟩
theorem tbl_no{op:Int}(h:op<1∨10<op):lookM tblE op=none:=by
 unfold lookM
 rw[List.find?_eq_none.2,Option.map_none]
 intro p hp
 simp only[tblE,List.mem_cons,List.not_mem_nil,or_false] at hp
 rcases hp with rfl|rfl|rfl|rfl|rfl|rfl|rfl|rfl|rfl|rfl<;>simp<;>omega
inductive Ex.VS:Ex→Prop
 |mk {op:Int} {v:Val} {s name:List UInt8} {n:Int} {l:List Ex} (hv:v.s.length≤140737488355328) (h: ∀x∈l,x.VS):Ex.VS (.mk op v s name n l)
theorem allX_step{g:Ex→Bool}{l:List Ex}{i:Nat}{x:Ex}(h:l[i]?=some x):(l.take (i+1)).all g=((l.take i).all g && g x):=by rw[takeC h,List.all_append];simp
theorem any_not{g:Ex→Bool}(l:List Ex):(!l.any fun x=> !g x)=l.all g:=by
 induction l with
 |nil=>rfl
 |cons x l ih=>simp only[List.any_cons,List.all_cons,Bool.not_or,Bool.not_not,ih]
set_option maxHeartbeats 16000000 in
theorem isExpr_any{gs:Globs}(m:Int)(hgm:maxG m∈gs): ∀(e:Ex) (hok:e.OkS) (hvs:e.VS) (left:Int) (h0:0≤left) (h4:left≤40),CallG gs Tryz.prog 32 [.agg (e.cs.map .iv),aI left] [] [] [] (aB (goodExM (41 - left) e))
 | .mk op v s name n l,hok,hvs,left,h0,h4=>by
   have ih:0<left→ ∀x∈l,CallG gs Tryz.prog 32 [.agg (x.cs.map .iv),aI (left - 1)] [] [] [] (aB (goodExM (41 - (left - 1)) x)):=fun hp x hx=>isExpr_any m hgm x (by cases hok with|mk _ _ _ h=>exact h x hx) (by cases hvs with|mk _ h=>exact h x hx) (left - 1) (by omega) (by omega)
   obtain⟨hl,hsl,hnl⟩:l.length*104≤140737488355328∧s.length≤140737488355328∧name.length≤140737488355328:=by cases hok with|mk hl hs hn _=>exact⟨hl,hs,hn⟩
   have hvl:v.s.length≤140737488355328:=by cases hvs with|mk hv _=>exact hv
   have hc:(Ex.mk op v s name n l).cs= [I op,I v.k,I v.n,S v.s,S s,S name,I n,.sl (l.map Ex.c)]:=rfl
   rw[goodExM_eq,hc]
   clear hc hok hvs
   have kn:=isName_any m hgm name hnl
   have ks:=isName_any m hgm s hsl
   have kv:=isval_any v hvl
   have hvc:v.c= [I v.k,I v.n,S v.s]:=rfl
   rw[hvc] at kv
   have ll:(((l.map Ex.c).length:Nat):Int)=(l.length:Int):=by simp
   have eT:([.iv (I 0),.iv (I 0),.iv (I 0),.iv (I 2),.iv (I 2),.iv (I 2),.iv (I 2),.iv (I 2),.iv (I 2),.iv (I 1),.iv (I 1)]:List AV)=argT.map (fun k=> .iv (I k)):=rfl
   refine CallG.intro _ Tryz.func32 rfl Tryz.ntmps32 rfl (fun w0 E0 hG=> ?_)
   by_cases h1:op<1
   · have q1:decide (op<1)=true:=decide_eq_true h1
     rw[tbl_no (.inl h1)]
     (repeat' (first|refine wk1 ?_|refine wk2 (fun hb hp=> ?_) (fun hb hp=> ?_)|fail))
     all_goals refine wkf ?_
     all_goals rfl
   have q1:decide (op<1)=false:=decide_eq_false h1
   by_cases h2:10<op
   · have q2:decide ((10:Int)<op)=true:=decide_eq_true h2
     rw[tbl_no (.inr h2)]
     (repeat' (first|refine wk1 ?_|refine wk2 (fun hb hp=> ?_) (fun hb hp=> ?_)|fail))
     all_goals refine wkf ?_
     all_goals rfl
   have q2:decide ((10:Int)<op)=false:=decide_eq_false h2
   obtain⟨k,hk,ha⟩:=tbl_arg (op:=op) (by omega) (by omega)
   rw[hk]
   dsimp only
   by_cases h3:left=0
   · subst h3
     rw[show decide ((40:Int)<41 - 0)=true by decide,Bool.or_true]
     have q3:((0:Int)==0)=true:=rfl
     (repeat' (first|refine wk1 ?_|refine wk2 (fun hb hp=> ?_) (fun hb hp=> ?_)|fail))
     all_goals refine wkf ?_
     all_goals rfl
   have q3:(left==0)=false:=by simp[h3]
   rw[show decide ((40:Int)<41 - left)=false from decide_eq_false (by omega),Bool.or_false]
   have ga:(argT.map (fun k=>AV.iv (I k)))[op.toNat]?=some (.iv (I k)):=by rw[List.getElem?_map,ha];rfl
   have p0:0≤op:=by omega
   cases h5:(((l.map Ex.c).length:Nat):Int) !=k with
   |true=>
    rw[show((l.length:Int) !=k)=true by rw[←ll];exact h5]
    (repeat' (first|(refine LW.is ?_;first|(apply s_vr;exact rfl;apply v_buildArr;exact rfl;(apply n_some;exact rfl;exact nlq))|(apply s_vr;exact rfl;apply v_indexArr;exact rfl;exact rfl;exact rfl;exact p0;first|exact ga|exact eT▸ga))|(refine DR.is ?_;first|(apply d_vr;exact rfl;apply v_buildArr;exact rfl;(apply n_some;exact rfl;exact nlq))|(apply d_vr;exact rfl;apply v_indexArr;exact rfl;exact rfl;exact rfl;exact p0;first|exact ga|exact eT▸ga))|refine wk1 ?_|refine wk2 (fun hb hp=> ?_) (fun hb hp=> ?_)|fail))
    all_goals refine wkf ?_
    all_goals rfl
   |false=>
   rw[show((l.length:Int) !=k)=false by rw[←ll];exact h5]
   have ih:=ih (by omega)
   rw[show(!false && (!bad2M op v s name && !l.any fun x=> !goodExM (41 - left+1) x))=(!bad2M op v s name && !l.any fun x=> !goodExM (41 - left+1) x) from rfl,any_not]
   rw[show 41 - (left - 1)=41 - left+1 by omega] at ih
   generalize 41 - left+1=dd at*
   apply L.cutK (ι:=Bool) (fun b=>⟨[(57,aI 0),(56,aI ((l.map Ex.c).length:Int)),(55,.iv (.sl (l.map Ex.c))),(1,aI left),(4,aB false),(5,aB b)],[],[]⟩) (fun b=>b= !bad2M op v s name)
   · intro hK
     by_cases o12:op≠1∧op≠2
     · have r1:(op !=1)=true:=by simp[o12.1]
       have r2:(op==2)=false:=by simp[o12.2]
       (repeat' (first|(refine LW.is ?_;first|(apply s_vr;exact rfl;apply v_buildArr;exact rfl;(apply n_some;exact rfl;exact nlq))|(apply s_vr;exact rfl;apply v_indexArr;exact rfl;exact rfl;exact rfl;exact p0;first|exact ga|exact eT▸ga))|(refine DR.is ?_;first|(apply d_vr;exact rfl;apply v_buildArr;exact rfl;(apply n_some;exact rfl;exact nlq))|(apply d_vr;exact rfl;apply v_indexArr;exact rfl;exact rfl;exact rfl;exact p0;first|exact ga|exact eT▸ga))|refine wk1 ?_|refine wk2 (fun hb hp=> ?_) (fun hb hp=> ?_)|fail))
       refine hK _ true (by simp[bad2M,o12.1,o12.2]) ?_
       exact wkk
     have hJ:=hK
     clear hK
     by_cases o1:op=1
     · have r1:(op !=1)=false:=by simp[o1]
       have r2:(op==2)=false:=by simp[o1]
       (repeat' (first|(refine LW.is ?_;first|(apply s_vr;exact rfl;apply v_buildArr;exact rfl;(apply n_some;exact rfl;exact nlq))|(apply s_vr;exact rfl;apply v_indexArr;exact rfl;exact rfl;exact rfl;exact p0;first|exact ga|exact eT▸ga))|(refine DR.is ?_;first|(apply d_vr;exact rfl;apply v_buildArr;exact rfl;(apply n_some;exact rfl;exact nlq))|(apply d_vr;exact rfl;apply v_indexArr;exact rfl;exact rfl;exact rfl;exact p0;first|exact ga|exact eT▸ga))|refine wk1 ?_|refine wk2 (fun hb hp=> ?_) (fun hb hp=> ?_)|fail))
       refine hJ _ (goodM v) (by simp[bad2M,o1]) ?_
       exact wkk
     have o2:op=2:=by
      by_cases h:op=2
      · exact h
      · exact absurd ⟨o1,h⟩ o12
     have r1:(op !=1)=true:=by simp[o2]
     have r2:(op==2)=true:=by simp[o2]
     by_cases hn:namedM name=true
     · rw[hn] at kn
       by_cases hs:(s== [])=true
       · have hn':true=namedM name:=hn.symm
         clear hn
         (repeat' (first|(refine LW.is ?_;first|(apply s_vr;exact rfl;apply v_buildArr;exact rfl;(apply n_some;exact rfl;exact nlq))|(apply s_vr;exact rfl;apply v_indexArr;exact rfl;exact rfl;exact rfl;exact p0;first|exact ga|exact eT▸ga))|(refine DR.is ?_;first|(apply d_vr;exact rfl;apply v_buildArr;exact rfl;(apply n_some;exact rfl;exact nlq))|(apply d_vr;exact rfl;apply v_indexArr;exact rfl;exact rfl;exact rfl;exact p0;first|exact ga|exact eT▸ga))|refine wk1 ?_|refine wk2 (fun hb hp=> ?_) (fun hb hp=> ?_)|fail))
         refine hJ _ true (by simp[bad2M,o2,←hn',hs]) ?_
         exact wkk
       · have hs:(s== [])=false:=by simpa using hs
         have hn':true=namedM name:=hn.symm
         clear hn
         generalize hz:namedM s=z at ks
         have hz':z=namedM s:=hz.symm
         clear hz
         (repeat' (first|(refine LW.is ?_;first|(apply s_vr;exact rfl;apply v_buildArr;exact rfl;(apply n_some;exact rfl;exact nlq))|(apply s_vr;exact rfl;apply v_indexArr;exact rfl;exact rfl;exact rfl;exact p0;first|exact ga|exact eT▸ga))|(refine DR.is ?_;first|(apply d_vr;exact rfl;apply v_buildArr;exact rfl;(apply n_some;exact rfl;exact nlq))|(apply d_vr;exact rfl;apply v_indexArr;exact rfl;exact rfl;exact rfl;exact p0;first|exact ga|exact eT▸ga))|refine wk1 ?_|refine wk2 (fun hb hp=> ?_) (fun hb hp=> ?_)|fail))
         refine hJ _ z (by simp[bad2M,o2,←hn',hs,hz']) ?_
         exact wkk
     · have hn:namedM name=false:=by simpa using hn
       rw[hn] at kn
       have hz:false=namedM name:=hn.symm
       clear hn
       (repeat' (first|(refine LW.is ?_;first|(apply s_vr;exact rfl;apply v_buildArr;exact rfl;(apply n_some;exact rfl;exact nlq))|(apply s_vr;exact rfl;apply v_indexArr;exact rfl;exact rfl;exact rfl;exact p0;first|exact ga|exact eT▸ga))|(refine DR.is ?_;first|(apply d_vr;exact rfl;apply v_buildArr;exact rfl;(apply n_some;exact rfl;exact nlq))|(apply d_vr;exact rfl;apply v_indexArr;exact rfl;exact rfl;exact rfl;exact p0;first|exact ga|exact eT▸ga))|refine wk1 ?_|refine wk2 (fun hb hp=> ?_) (fun hb hp=> ?_)|fail))
       refine hJ _ false (by simp[bad2M,o2,←hz]) ?_
       exact wkk
   · rintro b hb
     rw[←hb]
     clear hb kn ks kv ga ha hk q1 q2 q3 h5 eT p0
     refine L.loopP (ι:=Nat) (fun i=>⟨[(57,aI (i:Int)),(56,aI ((l.map Ex.c).length:Int)),(55,.iv (.sl (l.map Ex.c))),(1,aI left),(4,aB false),(5,aB (b && (l.take i).all (goodExM dd)))],[],[]⟩) (fun i=>l.length - i) (fun i=>True) (i0:=0) ?_ trivial ?_
     · (refine Wk.mk' (by intro id h;cases h) ?_ ?_ ?_<;>repeat' (first|exact WkF.nil|exact WkB.nil|exact WkT.nil|(refine WkF.cons rfl (Sub.refl _) ?_)|(refine WkF.cons rfl (Sub.of_eq (congrArg aB (by simp))) ?_)))
     intro i _ K hK
     cases hx:l[i]? with
     |none=>
      have hlt:=ltF (l:=l.map Ex.c) (getFN hx)
      rw[List.take_of_length_le (List.getElem?_eq_none_iff.1 hx)]
      clear hK ih
      generalize (b && l.all (goodExM dd))=z
      (repeat' (first|refine wk1 ?_|refine wk2 (fun hb hp=> ?_) (fun hb hp=> ?_)|fail))
      all_goals refine wkf ?_
      all_goals rfl
     |some x=>
      have hlt:=ltT (l:=l.map Ex.c) (getF (f:=Ex.c) hx)
      have hlt':=ltN hx
      have g1:(l.map Ex.c)[((i:Nat):Int).toNat]?=some [I x.op,I x.v.k,I x.v.n,S x.v.s,S x.s,S x.name,I x.n,.sl (x.l.map Ex.c)]:=by rw[Int.toNat_natCast,List.getElem?_map,hx];exact congrArg some (Ex.c_cs x)
      have ke:=ih x (List.mem_of_getElem? hx)
      have hst:=allX_step (g:=goodExM dd) hx
      have hst2:(b && (l.take (i+1)).all (goodExM dd))=((b && (l.take i).all (goodExM dd)) && goodExM dd x):=by rw[hst,Bool.and_assoc]
      have hxc:x.cs= [I x.op,I x.v.k,I x.v.n,S x.v.s,S x.s,S x.name,I x.n,.sl (x.l.map Ex.c)]:=by cases x;rfl
      rw[hxc] at ke
      clear hst ih
      generalize (b && (l.take i).all (goodExM dd))=B at*
      generalize goodExM dd x=G at*
      cases B with
      |false=>
       (repeat' (first|refine wk1 ?_|refine wk2 (fun hb hp=> ?_) (fun hb hp=> ?_)|fail))
       refine hK _ (i+1) trivial (by omega) ?_
       rw[hst2]
       exact wkk
      |true=>
       (repeat' (first|refine wk1 ?_|refine wk2 (fun hb hp=> ?_) (fun hb hp=> ?_)|fail))
       refine hK _ (i+1) trivial (by omega) ?_
       rw[hst2]
       exact wkk
 termination_by e=>SizeOf.sizeOf e
 decreasing_by
  have:=List.sizeOf_lt_of_mem hx
  simp;omega
end Go.Proofs.YthcjohcakdnmmaaGreatDoor
