/- Several texts in one, each with its own sentence ahead of it. Conditions: each one says its own. -/
import Derived.Test.YtadjbegnlimepaaGreatDoorZS24
import Derived.Test.YtadjbegnlimepaaGreatDoorZS48
set_option linter.all false
namespace Go.Proofs.YtadjbegnlimepaaGreatDoor
open Go.Abs
set_option maxRecDepth 100000
attribute [local irreducible] L Code.wp bodyPost Exit.then Exit.inBlock
set_option linter.unusedVariables false
set_option linter.unusedSimpArgs false
def gsS[Errs](m:Int):Globs:=maxG m::(1,spTab)::gsP
theorem gsS_max[Errs](m:Int):maxG m∈gsS m:=by simp[gsS]
theorem gsS_sp[Errs](m:Int):(1,spTab)∈gsS m:=by simp[gsS]
theorem gsS_P[Errs](m:Int): ∀p∈gsP,p∈gsS m:=fun p h=>by simp only[gsS,List.mem_cons];exact .inr (.inr h)
theorem gsS_0[Errs](m:Int): ∀p∈gs0,p∈gsS m:=fun p h=>gsS_P m p (gsP_sub p h)
attribute [irreducible] gsS
def splitF:Nat→Str→Option (List Str)
 |_,[] =>some []
 |0,_::_=>none
 |n+1,c::r=>if c=32∨c=10 then splitF n r else match tokLen c r with
  |none=>none
  |some k=>(splitF n ((c::r).drop k)).map ((c::r).take k:: ·)
theorem splitF_eq: ∀(n:Nat) (s:Str),s.length≤n→splitF n s=splitM s
 |n,[],_=>by rw[split_nil];cases n<;>rfl
 |0,c::r,h=>by simp at h
 |n+1,c::r,h=>by
  simp only[List.length_cons] at h
  rw[splitF]
  by_cases hb:c=32∨c=10
  · rw[if_pos hb,split_blank hb,splitF_eq n r (by omega)]
  · rw[if_neg hb]
    cases ht:tokLen c r with
    |none=>rw[split_none hb ht]
    |some k=>
     have hp:=tok_pos ht
     rw[split_some hb ht]
     dsimp only
     rw[splitF_eq n _ (by simp;omega)]
def litS:Str:= [115,101,108,101,99,116,32,97,32,102,114,111,109,32,116,32,119,104,101,114,101,32,110,111,116,32,98,32,61,32,39,120,39,59]
theorem lit_rd:rdOf litS=match splitF 34 litS with
 |none=>⟨[],true⟩
 |some l=>⟨l,false⟩:=by
 rw[splitF_eq 34 litS (Nat.le_refl _)]
 unfold rdOf
 cases splitM litS<;>rfl
theorem lit_ok: ∃x:Stm,psScript litS=([x],0)∧x.kind=7∧x.wh.op=9:=by
 have h1:((psScriptL ((rdOf litS).l.length+1) [] (rdOf litS)).1.map fun s=>(s.kind,s.wh.op))= [(7,9)] ∧(psScriptL ((rdOf litS).l.length+1) [] (rdOf litS)).2.bad=false:=by
  rw[lit_rd]
  exact⟨by kernel_rfl,by kernel_rfl⟩
 unfold psScript
 rw[if_neg (by decide)]
 generalize psScriptL ((rdOf litS).l.length+1) [] (rdOf litS)=p at*
 obtain⟨l,r⟩:=p
 dsimp only at h1⊢
 obtain⟨h1,h2⟩:=h1
 cases l with
 |nil=>simp at h1
 |cons x t=>
 cases t with
 |cons y t=>simp at h1
 |nil=>
 simp only[List.map_cons,List.map_nil,List.cons.injEq,Prod.mk.injEq,and_true] at h1
 refine⟨x,?_,h1.1,h1.2⟩
 rw[h2,if_neg Bool.false_ne_true,if_neg (by simp)]
theorem scripts_any[Errs]:CallG gsP Tryz.prog 8 [] [] [] [] (aB true):=by
 have ks:=script_any litS
 obtain⟨x,hx,h1,h2⟩:=lit_ok
 rw[hx] at ks
 have g1:([x].map Stm.cs)[(0:Int).toNat]?=some [I 7,S x.name,S x.table,S x.col,.sl (x.cols.map Col.c),.sl (x.rows.map exRow),.sl (x.sets.map Ast.c),.sl (x.frm.map Str.c),.sl (x.out.map Ex.c),I 9,I x.wh.v.k,I x.wh.v.n,S x.wh.v.s,S x.wh.s,S x.wh.name,I x.wh.n,.sl (x.wh.l.map Ex.c),.sl (x.ord.map Ex.c),.im (.bool x.down),I x.n]:=by
  rw[←h1,←h2];rfl
 clear hx h1 h2
 have q1:((([x].map Stm.cs).length:Int)==1)=true:=rfl
 refine CallG.intro _ Tryz.func8 rfl Tryz.ntmps8 rfl (fun w0 E0 hG=> ?_)
 (repeat' (first|refine wk1 ?_|refine wk2 (fun hb hp=> ?_) (fun hb hp=> ?_)|fail))
 all_goals refine wkf ?_
 all_goals rfl
set_option maxHeartbeats 16000000 in
theorem syntaxScripts_any[Errs](m:Int)(s:Str)(hs:s.length≤140737488355328):CallG (gsS m) Tryz.prog 3 [aS s] [] [] [] (aB true):=by
 have k1:=(script_any s).sub (gsS_P m)
 have k2:=scriptOf_any m (gsS_max m) (gsS_sp m) s
 have k3:=(named_any s hs).sub (gsS_0 m)
 have k4:=isName_any m (gsS_max m) s hs
 have k5:=scripts_any.sub (gsS_P m)
 rw[script_same] at k1
 generalize dcScript s=p at k1 k2
 obtain⟨l,e⟩:=p
 dsimp only at k1 k2
 generalize namedM s=b at k3 k4
 have q0:(!(((l.map Stm.cs).length:Int)==((l.map Stm.cs).length:Int)))=false:=by simp
 have q1:(!(e==e))=false:=by simp
 have q2:(!(b==b))=false:=by simp
 refine CallG.intro _ Tryz.func3 rfl Tryz.ntmps3 rfl (fun w0 E0 hG=> ?_)
 (repeat' (first|refine wk1 ?_|refine wk2 (fun hb hp=> ?_) (fun hb hp=> ?_)|fail))
 refine L.lenS 39 (es:=l.map Stm.cs) rfl (fun hlen=> ?_)
 rw[List.length_map] at hlen
 refine L.loopP (ι:=Nat) (fun i=>⟨[(41,aI (i:Int)),(40,aI ((l.map Stm.cs).length:Int)),(3,.iv (.sl (l.map Stm.cs))),(5,.iv (.sl (l.map Stm.cs)))],[],[]⟩) (fun i=>l.length - i) (fun i=>True) (i0:=0) ?_ trivial ?_
 · exact wkk
 clear k1 k2 k3 k4 k5 q0 q1 q2
 intro i _ K hK
 cases hx:l[i]? with
 |none=>
  have hlt:=ltF (l:=l.map Stm.cs) (getFN hx)
  (repeat' (first|refine wk1 ?_|refine wk2 (fun hb hp=> ?_) (fun hb hp=> ?_)|fail))
  all_goals refine wkf ?_
  all_goals rfl
 |some x=>
  have hlt:=ltT (l:=l.map Stm.cs) (getF (f:=Stm.cs) hx)
  have hlt':=ltN hx
  have ke:=stmt_same (gs:=gsS m) x
  have g1:(l.map Stm.cs)[((i:Nat):Int).toNat]?=some x.cs:=by rw[Int.toNat_natCast,List.getElem?_map,hx];rfl
  (repeat' (first|refine wk1 ?_|refine wk2 (fun hb hp=> ?_) (fun hb hp=> ?_)|fail))
  refine hK _ (i+1) trivial (by omega) ?_
  exact wkk
end Go.Proofs.YtadjbegnlimepaaGreatDoor
