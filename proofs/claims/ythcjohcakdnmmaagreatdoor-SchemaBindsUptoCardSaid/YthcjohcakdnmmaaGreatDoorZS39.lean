/- Several texts in one, each with its own sentence ahead of it. Conditions: each one says its own. -/
import Derived.Test.YthcjohcakdnmmaaGreatDoorZS29
import Derived.Test.YthcjohcakdnmmaaGreatDoorZS36
set_option linter.all false
namespace Go.Proofs.YthcjohcakdnmmaaGreatDoor
open Go.Abs
set_option maxRecDepth 100000
attribute [local irreducible] L Code.wp bodyPost Exit.then Exit.inBlock
set_option linter.unusedVariables false
set_option linter.unusedSimpArgs false
def stepW{α:Type}(a b g n:Bool)(x t:α)(st:List α×Bool):List α×Bool:=((st.1++(if a && (!st.2 && g) then [x] else []))++(if b||n then [t] else []),st.2||(a && g))
def stepT(s:Stm)(st:List Tab×Bool)(t:Tab):List Tab×Bool:=stepW (s.kind==1) (s.kind !=3) (!(Op.bytesLess t.n s.name)) (t.n !=s.name) ⟨s.name,s.cols⟩ t st
def stepI(s:Stm)(st:List Idx×Bool)(t:Idx):List Idx×Bool:=stepW (s.kind==2) (s.kind !=3) (!(Op.bytesLess t.n s.name)) (t.tb !=s.name) ⟨s.name,s.table,s.col⟩ t st
def endW{α:Type}(a:Bool)(x:α)(st:List α×Bool):List α:=st.1++(if a && !st.2 then [x] else [])
def dcWith(c:Cat)(s:Stm):Cat:=⟨endW (s.kind==1) ⟨s.name,s.cols⟩ (c.ts.foldl (stepT s) ([],false)),endW (s.kind==2) ⟨s.name,s.table,s.col⟩ (c.is.foldl (stepI s) ([],false))⟩
theorem stepW_len{α:Type}(a b g n:Bool)(x t:α)(st:List α×Bool):(stepW a b g n x t st).1.length≤st.1.length+2:=by
 unfold stepW
 simp only[List.length_append]
 split<;>split<;>simp
set_option maxHeartbeats 64000000 in
theorem withS_any{gs:Globs}(c:Cat)(s:Stm)(hct:c.ts.length≤1000)(hci:c.is.length≤1000):CallG gs Tryz.prog 20 [.agg (c.c.map .iv),.agg (s.cs.map .iv)] [] [] [] (.agg ((dcWith c s).c.map .iv)):=by
 refine CallG.intro _ Tryz.func20 rfl Tryz.ntmps20 rfl (fun w0 E0 hG=> ?_)
 (repeat' (first|refine wk1 ?_|refine wk2 (fun hb hp=> ?_) (fun hb hp=> ?_)|fail))
 refine L.adoptB 5 50 47 2 rfl (by simp) rfl rfl (.cons .here (.cons .same .nil)) ?_
 refine L.loopP (ι:=Nat) (fun i=>⟨[(15,aI (i:Int)),(14,aI ((c.ts.map Tab.c).length:Int)),(13,.iv (.sl (c.ts.map Tab.c))),(2,.ptr 2 0),(3,.ptr 3 0),(4,.ptr 4 0),(5,.ptr 5 0),(6,aB ((c.ts.take i).foldl (stepT s) ([],false)).2)],[(2,⟨25,.l (c.c.map .iv)⟩),(3,⟨36,.l (s.cs.map .iv)⟩),(4,⟨25,.l [.nils,.nils]⟩),(5,⟨25,.l [.row 50 (((c.ts.take i).foldl (stepT s) ([],false)).1.map Tab.c),.nils]⟩)],[(50,⟨47,2⟩)]⟩) (fun i=>c.ts.length - i) (fun i=>((c.ts.take i).foldl (stepT s) ([],false)).1.length≤2*i∧i≤c.ts.length) (i0:=0) ?_ ⟨by simp,Nat.zero_le _⟩ ?_
 · (refine Wk.mk' (by intro id h;cases h) ?_ ?_ ?_<;>repeat' (first|exact WkF.nil|exact WkB.nil|exact WkT.nil|exact Subs.nil|(refine WkF.cons rfl (Sub.refl _) ?_)|(refine WkF.cons rfl (Sub.of_eq rfl) ?_)|(refine WkF.cons rfl (Sub.of_eq (congrArg aB (by assumption))) ?_)|(refine WkF.cons rfl (Sub.of_eq (congrArg aB (by first|assumption|(symm;assumption)))) ?_)|(refine WkB.cons rfl rfl (Subs.refl _) ?_)|(refine WkB.cons rfl rfl ?_ ?_)|(refine Subs.cons (Sub.refl _) ?_)|(refine Subs.cons (Sub.of_eq (rfl)) ?_)|(refine Subs.cons (Sub.row _ _) ?_)|(refine WkT.cons rfl ?_)))
 intro i hI K hK
 cases hx:c.ts[i]? with
 |some t=>
  have hlt:=ltT (l:=c.ts.map Tab.c) (getF (f:=Tab.c) hx)
  have hlt':=ltN hx
  have hil:i<c.ts.length:=(List.getElem?_eq_some_iff.1 hx).1
  have g1:(c.ts.map Tab.c)[((i:Nat):Int).toNat]?=some [S t.n,.sl (t.cols.map Col.c)]:=by rw[Int.toNat_natCast,List.getElem?_map,hx];rfl
  have hst:(c.ts.take (i+1)).foldl (stepT s) ([],false)=stepT s ((c.ts.take i).foldl (stepT s) ([],false)) t:=by rw[takeA hx,List.foldl_append];rfl
  have hlen:=stepW_len (s.kind==1) (s.kind !=3) (!(Op.bytesLess t.n s.name)) (t.n !=s.name) (⟨s.name,s.cols⟩:Tab) t ((c.ts.take i).foldl (stepT s) ([],false))
  have hI':((c.ts.take (i+1)).foldl (stepT s) ([],false)).1.length≤2*(i+1)∧i+1≤c.ts.length:=by
   refine⟨?_,hil⟩
   rw[hst];exact Nat.le_trans hlen (by omega)
  clear hlen
  generalize (c.ts.take i).foldl (stepT s) ([],false)=r at*
  obtain⟨out,p⟩:=r
  dsimp only at hI hst⊢
  have kl:=map_len (f:=Tab.c) (k:=2) (fun _=>rfl) out
  have kl2: ∀e∈out.map Tab.c++ [[S s.name,.sl (s.cols.map Col.c)]],e.length=2:=fun e he=>by
   rcases List.mem_append.1 he with h|h
   · exact kl e h
   · rw[List.mem_singleton.1 h];rfl
  have lo:(out.map Tab.c).length=out.length:=List.length_map _
  obtain⟨R,hR⟩: ∃R,(c.ts.take (i+1)).foldl (stepT s) ([],false)=R:=⟨_,rfl⟩
  rw[hR] at hst
  unfold stepT stepW at hst
  dsimp only at hst
  cases e1:s.kind==1 with
  |true=>
   have e3:(s.kind !=3)=true:=by rw[beq_iff_eq] at e1;rw[e1];rfl
   cases p with
   |true=>
    rw[e1,e3] at hst
    simp only[Bool.true_and,Bool.false_and,Bool.and_true,Bool.and_false,Bool.not_true,Bool.not_false,Bool.or_true,Bool.true_or,Bool.false_or,Bool.or_false,if_true,if_false,Bool.false_eq_true,List.append_nil] at hst
    (repeat' (first|(refine LW.is ?_;first|(apply s_append;exact rfl;exact rfl;exact rfl;exact rfl;exact kl;exact len_cons rfl len_nil;(simp only[maxLen,List.length_append,List.length_cons,List.length_nil];omega);(simp only[List.length_append,List.length_cons,List.length_nil];omega);exact rfl;exact rfl))|(refine DR.is ?_;first|(apply d_append;exact rfl;exact rfl;exact rfl;exact rfl;exact kl;exact len_cons rfl len_nil;(simp only[maxLen,List.length_append,List.length_cons,List.length_nil];omega);(simp only[List.length_append,List.length_cons,List.length_nil];omega);exact rfl;exact rfl))|refine wk1 ?_|refine wk2 (fun hb hp=> ?_) (fun hb hp=> ?_)|fail))
    refine L.onlyS [15,14,13,2,3,4,5,6] [2,3,4,5] rfl ?_
    refine L.retokB 5 57 50 rfl (by simp) rfl rfl rfl (.cons .row (.cons .same .nil)) ?_
    refine hK _ (i+1) hI' (by omega) ?_
    rw[hR,hst]
    (refine Wk.mk' (by intro id h;cases h) ?_ ?_ ?_<;>repeat' (first|exact WkF.nil|exact WkB.nil|exact WkT.nil|exact Subs.nil|(refine WkF.cons rfl (Sub.refl _) ?_)|(refine WkF.cons rfl (Sub.of_eq rfl) ?_)|(refine WkF.cons rfl (Sub.of_eq (congrArg aB (by assumption))) ?_)|(refine WkF.cons rfl (Sub.of_eq (congrArg aB (by first|assumption|(symm;assumption)))) ?_)|(refine WkB.cons rfl rfl (Subs.refl _) ?_)|(refine WkB.cons rfl rfl ?_ ?_)|(refine Subs.cons (Sub.refl _) ?_)|(refine Subs.cons (Sub.of_eq (congrArg (AV.row 50) (by rw[List.map_append];rfl))) ?_)|(refine Subs.cons (Sub.row _ _) ?_)|(refine WkT.cons rfl ?_)))
   |false=>
    cases hg: !(Op.bytesLess t.n s.name) with
    |true=>
     rw[e1,e3,hg] at hst
     simp only[Bool.true_and,Bool.false_and,Bool.and_true,Bool.and_false,Bool.not_true,Bool.not_false,Bool.or_true,Bool.true_or,Bool.false_or,Bool.or_false,if_true,if_false,Bool.false_eq_true,List.append_nil] at hst
     (repeat' (first|(refine LW.is ?_;first|(apply s_append;exact rfl;exact rfl;exact rfl;exact rfl;exact kl2;exact len_cons rfl len_nil;(simp only[maxLen,List.length_append,List.length_cons,List.length_nil];omega);(simp only[List.length_append,List.length_cons,List.length_nil];omega);exact rfl;exact rfl)|(apply s_append;exact rfl;exact rfl;exact rfl;exact rfl;exact kl;exact len_cons rfl len_nil;(simp only[maxLen,List.length_append,List.length_cons,List.length_nil];omega);(simp only[List.length_append,List.length_cons,List.length_nil];omega);exact rfl;exact rfl))|(refine DR.is ?_;first|(apply d_append;exact rfl;exact rfl;exact rfl;exact rfl;exact kl2;exact len_cons rfl len_nil;(simp only[maxLen,List.length_append,List.length_cons,List.length_nil];omega);(simp only[List.length_append,List.length_cons,List.length_nil];omega);exact rfl;exact rfl)|(apply d_append;exact rfl;exact rfl;exact rfl;exact rfl;exact kl;exact len_cons rfl len_nil;(simp only[maxLen,List.length_append,List.length_cons,List.length_nil];omega);(simp only[List.length_append,List.length_cons,List.length_nil];omega);exact rfl;exact rfl))|refine wk1 ?_|refine wk2 (fun hb hp=> ?_) (fun hb hp=> ?_)|fail))
     refine L.onlyS [15,14,13,2,3,4,5,6] [2,3,4,5] rfl ?_
     refine L.retokB 5 57 50 rfl (by simp) rfl rfl rfl (.cons .row (.cons .same .nil)) ?_
     refine hK _ (i+1) hI' (by omega) ?_
     rw[hR,hst]
     (refine Wk.mk' (by intro id h;cases h) ?_ ?_ ?_<;>repeat' (first|exact WkF.nil|exact WkB.nil|exact WkT.nil|exact Subs.nil|(refine WkF.cons rfl (Sub.refl _) ?_)|(refine WkF.cons rfl (Sub.of_eq rfl) ?_)|(refine WkF.cons rfl (Sub.of_eq (congrArg aB (by assumption))) ?_)|(refine WkF.cons rfl (Sub.of_eq (congrArg aB (by first|assumption|(symm;assumption)))) ?_)|(refine WkB.cons rfl rfl (Subs.refl _) ?_)|(refine WkB.cons rfl rfl ?_ ?_)|(refine Subs.cons (Sub.refl _) ?_)|(refine Subs.cons (Sub.of_eq (congrArg (AV.row 50) (by rw[List.map_append,List.map_append];rfl))) ?_)|(refine Subs.cons (Sub.row _ _) ?_)|(refine WkT.cons rfl ?_)))
    |false=>
     rw[e1,e3,hg] at hst
     simp only[Bool.true_and,Bool.false_and,Bool.and_true,Bool.and_false,Bool.not_true,Bool.not_false,Bool.or_true,Bool.true_or,Bool.false_or,Bool.or_false,if_true,if_false,Bool.false_eq_true,List.append_nil] at hst
     (repeat' (first|(refine LW.is ?_;first|(apply s_append;exact rfl;exact rfl;exact rfl;exact rfl;exact kl;exact len_cons rfl len_nil;(simp only[maxLen,List.length_append,List.length_cons,List.length_nil];omega);(simp only[List.length_append,List.length_cons,List.length_nil];omega);exact rfl;exact rfl))|(refine DR.is ?_;first|(apply d_append;exact rfl;exact rfl;exact rfl;exact rfl;exact kl;exact len_cons rfl len_nil;(simp only[maxLen,List.length_append,List.length_cons,List.length_nil];omega);(simp only[List.length_append,List.length_cons,List.length_nil];omega);exact rfl;exact rfl))|refine wk1 ?_|refine wk2 (fun hb hp=> ?_) (fun hb hp=> ?_)|fail))
     refine L.onlyS [15,14,13,2,3,4,5,6] [2,3,4,5] rfl ?_
     refine L.retokB 5 57 50 rfl (by simp) rfl rfl rfl (.cons .row (.cons .same .nil)) ?_
     refine hK _ (i+1) hI' (by omega) ?_
     rw[hR,hst]
     (refine Wk.mk' (by intro id h;cases h) ?_ ?_ ?_<;>repeat' (first|exact WkF.nil|exact WkB.nil|exact WkT.nil|exact Subs.nil|(refine WkF.cons rfl (Sub.refl _) ?_)|(refine WkF.cons rfl (Sub.of_eq rfl) ?_)|(refine WkF.cons rfl (Sub.of_eq (congrArg aB (by assumption))) ?_)|(refine WkF.cons rfl (Sub.of_eq (congrArg aB (by first|assumption|(symm;assumption)))) ?_)|(refine WkB.cons rfl rfl (Subs.refl _) ?_)|(refine WkB.cons rfl rfl ?_ ?_)|(refine Subs.cons (Sub.refl _) ?_)|(refine Subs.cons (Sub.of_eq (congrArg (AV.row 50) (by rw[List.map_append];rfl))) ?_)|(refine Subs.cons (Sub.row _ _) ?_)|(refine WkT.cons rfl ?_)))
  |false=>
   cases e3:s.kind !=3 with
   |true=>
    rw[e1,e3] at hst
    simp only[Bool.true_and,Bool.false_and,Bool.and_true,Bool.and_false,Bool.not_true,Bool.not_false,Bool.or_true,Bool.true_or,Bool.false_or,Bool.or_false,if_true,if_false,Bool.false_eq_true,List.append_nil] at hst
    (repeat' (first|(refine LW.is ?_;first|(apply s_append;exact rfl;exact rfl;exact rfl;exact rfl;exact kl;exact len_cons rfl len_nil;(simp only[maxLen,List.length_append,List.length_cons,List.length_nil];omega);(simp only[List.length_append,List.length_cons,List.length_nil];omega);exact rfl;exact rfl))|(refine DR.is ?_;first|(apply d_append;exact rfl;exact rfl;exact rfl;exact rfl;exact kl;exact len_cons rfl len_nil;(simp only[maxLen,List.length_append,List.length_cons,List.length_nil];omega);(simp only[List.length_append,List.length_cons,List.length_nil];omega);exact rfl;exact rfl))|refine wk1 ?_|refine wk2 (fun hb hp=> ?_) (fun hb hp=> ?_)|fail))
    refine L.onlyS [15,14,13,2,3,4,5,6] [2,3,4,5] rfl ?_
    refine L.retokB 5 57 50 rfl (by simp) rfl rfl rfl (.cons .row (.cons .same .nil)) ?_
    refine hK _ (i+1) hI' (by omega) ?_
    rw[hR,hst]
    (refine Wk.mk' (by intro id h;cases h) ?_ ?_ ?_<;>repeat' (first|exact WkF.nil|exact WkB.nil|exact WkT.nil|exact Subs.nil|(refine WkF.cons rfl (Sub.refl _) ?_)|(refine WkF.cons rfl (Sub.of_eq rfl) ?_)|(refine WkF.cons rfl (Sub.of_eq (congrArg aB (by assumption))) ?_)|(refine WkF.cons rfl (Sub.of_eq (congrArg aB (by first|assumption|(symm;assumption)))) ?_)|(refine WkB.cons rfl rfl (Subs.refl _) ?_)|(refine WkB.cons rfl rfl ?_ ?_)|(refine Subs.cons (Sub.refl _) ?_)|(refine Subs.cons (Sub.of_eq (congrArg (AV.row 50) (by rw[List.map_append];rfl))) ?_)|(refine Subs.cons (Sub.row _ _) ?_)|(refine WkT.cons rfl ?_)))
   |false=>
    cases hn:t.n !=s.name with
    |true=>
     rw[e1,e3,hn] at hst
     simp only[Bool.true_and,Bool.false_and,Bool.and_true,Bool.and_false,Bool.not_true,Bool.not_false,Bool.or_true,Bool.true_or,Bool.false_or,Bool.or_false,if_true,if_false,Bool.false_eq_true,List.append_nil] at hst
     (repeat' (first|(refine LW.is ?_;first|(apply s_append;exact rfl;exact rfl;exact rfl;exact rfl;exact kl;exact len_cons rfl len_nil;(simp only[maxLen,List.length_append,List.length_cons,List.length_nil];omega);(simp only[List.length_append,List.length_cons,List.length_nil];omega);exact rfl;exact rfl))|(refine DR.is ?_;first|(apply d_append;exact rfl;exact rfl;exact rfl;exact rfl;exact kl;exact len_cons rfl len_nil;(simp only[maxLen,List.length_append,List.length_cons,List.length_nil];omega);(simp only[List.length_append,List.length_cons,List.length_nil];omega);exact rfl;exact rfl))|refine wk1 ?_|refine wk2 (fun hb hp=> ?_) (fun hb hp=> ?_)|fail))
     refine L.onlyS [15,14,13,2,3,4,5,6] [2,3,4,5] rfl ?_
     refine L.retokB 5 57 50 rfl (by simp) rfl rfl rfl (.cons .row (.cons .same .nil)) ?_
     refine hK _ (i+1) hI' (by omega) ?_
     rw[hR,hst]
     (refine Wk.mk' (by intro id h;cases h) ?_ ?_ ?_<;>repeat' (first|exact WkF.nil|exact WkB.nil|exact WkT.nil|exact Subs.nil|(refine WkF.cons rfl (Sub.refl _) ?_)|(refine WkF.cons rfl (Sub.of_eq rfl) ?_)|(refine WkF.cons rfl (Sub.of_eq (congrArg aB (by assumption))) ?_)|(refine WkF.cons rfl (Sub.of_eq (congrArg aB (by first|assumption|(symm;assumption)))) ?_)|(refine WkB.cons rfl rfl (Subs.refl _) ?_)|(refine WkB.cons rfl rfl ?_ ?_)|(refine Subs.cons (Sub.refl _) ?_)|(refine Subs.cons (Sub.of_eq (congrArg (AV.row 50) (by rw[List.map_append];rfl))) ?_)|(refine Subs.cons (Sub.row _ _) ?_)|(refine WkT.cons rfl ?_)))
    |false=>
     rw[e1,e3,hn] at hst
     simp only[Bool.true_and,Bool.false_and,Bool.and_true,Bool.and_false,Bool.not_true,Bool.not_false,Bool.or_true,Bool.true_or,Bool.false_or,Bool.or_false,if_true,if_false,Bool.false_eq_true,List.append_nil] at hst
     (repeat' (first|refine wk1 ?_|refine wk2 (fun hb hp=> ?_) (fun hb hp=> ?_)|fail))
     refine L.onlyS [15,14,13,2,3,4,5,6] [2,3,4,5] rfl ?_
     refine hK _ (i+1) hI' (by omega) ?_
     rw[hR,hst]
     (refine Wk.mk' (by intro id h;cases h) ?_ ?_ ?_<;>repeat' (first|exact WkF.nil|exact WkB.nil|exact WkT.nil|exact Subs.nil|(refine WkF.cons rfl (Sub.refl _) ?_)|(refine WkF.cons rfl (Sub.of_eq rfl) ?_)|(refine WkF.cons rfl (Sub.of_eq (congrArg aB (by assumption))) ?_)|(refine WkF.cons rfl (Sub.of_eq (congrArg aB (by first|assumption|(symm;assumption)))) ?_)|(refine WkB.cons rfl rfl (Subs.refl _) ?_)|(refine WkB.cons rfl rfl ?_ ?_)|(refine Subs.cons (Sub.refl _) ?_)|(refine Subs.cons (Sub.of_eq (rfl)) ?_)|(refine Subs.cons (Sub.row _ _) ?_)|(refine WkT.cons rfl ?_)))
 |none=>
 have hlt:=ltF (l:=c.ts.map Tab.c) (getFN hx)
 rw[List.take_of_length_le (List.getElem?_eq_none_iff.1 hx)] at hI⊢
 clear hK
 generalize hfT:c.ts.foldl (stepT s) ([],false)=fT at hI⊢
 obtain⟨out,p⟩:=fT
 dsimp only at hI⊢
 have hio:out.length≤2000:=by
  omega
 have kl:=map_len (f:=Tab.c) (k:=2) (fun _=>rfl) out
 have lo:(out.map Tab.c).length=out.length:=List.length_map _
 apply L.cutK (ι:=Unit) (fun _=>⟨[(80,aI 0),(79,aI ((c.is.map Idx.c).length:Int)),(78,.iv (.sl (c.is.map Idx.c))),(2,.ptr 2 0),(3,.ptr 3 0),(4,.ptr 4 0),(5,.ptr 5 0),(6,aB false)],[(2,⟨25,.l (c.c.map .iv)⟩),(3,⟨36,.l (s.cs.map .iv)⟩),(4,⟨25,.l [.nils,.nils]⟩),(5,⟨25,.l [.iv (.sl ((endW (s.kind==1) ⟨s.name,s.cols⟩ (out,p)).map Tab.c)),.nils]⟩)],[]⟩) (fun _=>True)
 · intro hK
   unfold endW at hK
   dsimp only at hK
   by_cases hn:(s.kind==1)=true∧p=false
   · have e1:=hn.1
     have e2:=hn.2
     have e5:(!p)=true:=by rw[e2];rfl
     rw[e1,e2] at hK
     simp only[Bool.true_and,Bool.not_false,if_true,List.map_append] at hK
     clear hn
     (repeat' (first|(refine LW.is ?_;first|(apply s_append;exact rfl;exact rfl;exact rfl;exact rfl;exact kl;exact len_cons rfl len_nil;(simp only[maxLen,List.length_append,List.length_cons,List.length_nil];omega);(simp only[List.length_append,List.length_cons,List.length_nil];omega);exact rfl;exact rfl))|(refine DR.is ?_;first|(apply d_append;exact rfl;exact rfl;exact rfl;exact rfl;exact kl;exact len_cons rfl len_nil;(simp only[maxLen,List.length_append,List.length_cons,List.length_nil];omega);(simp only[List.length_append,List.length_cons,List.length_nil];omega);exact rfl;exact rfl))|refine wk1 ?_|refine wk2 (fun hb hp=> ?_) (fun hb hp=> ?_)|fail))
     refine hK _ () trivial ?_
     (refine Wk.mk' (by intro id h;cases h) ?_ ?_ ?_<;>repeat' (first|exact WkF.nil|exact WkB.nil|exact WkT.nil|exact Subs.nil|(refine WkF.cons rfl (Sub.refl _) ?_)|(refine WkF.cons rfl (Sub.of_eq rfl) ?_)|(refine WkF.cons rfl (Sub.of_eq (congrArg aB (by assumption))) ?_)|(refine WkF.cons rfl (Sub.of_eq (congrArg aB (by first|assumption|(symm;assumption)))) ?_)|(refine WkB.cons rfl rfl (Subs.refl _) ?_)|(refine WkB.cons rfl rfl ?_ ?_)|(refine Subs.cons (Sub.refl _) ?_)|(refine Subs.cons (Sub.of_eq (rfl)) ?_)|(refine Subs.cons (Sub.row _ _) ?_)|(refine WkT.cons rfl ?_)))
   · have hJ:=hK
     clear hK
     by_cases h1:(s.kind==1)=true
     · have e2:p=true:=by
        by_cases h:p=true
        · exact h
        · exact absurd ⟨h1,by simpa using h⟩ hn
       have e5:(!p)=false:=by rw[e2];rfl
       rw[h1,e2] at hJ
       simp only[Bool.true_and,Bool.not_true,Bool.false_eq_true,if_false,List.append_nil] at hJ
       clear hn
       (repeat' (first|refine wk1 ?_|refine wk2 (fun hb hp=> ?_) (fun hb hp=> ?_)|fail))
       refine hJ _ () trivial ?_
       (refine Wk.mk' (by intro id h;cases h) ?_ ?_ ?_<;>repeat' (first|exact WkF.nil|exact WkB.nil|exact WkT.nil|exact Subs.nil|(refine WkF.cons rfl (Sub.refl _) ?_)|(refine WkF.cons rfl (Sub.of_eq rfl) ?_)|(refine WkF.cons rfl (Sub.of_eq (congrArg aB (by assumption))) ?_)|(refine WkF.cons rfl (Sub.of_eq (congrArg aB (by first|assumption|(symm;assumption)))) ?_)|(refine WkB.cons rfl rfl (Subs.refl _) ?_)|(refine WkB.cons rfl rfl ?_ ?_)|(refine Subs.cons (Sub.refl _) ?_)|(refine Subs.cons (Sub.of_eq (rfl)) ?_)|(refine Subs.cons (Sub.row _ _) ?_)|(refine WkT.cons rfl ?_)))
     · have e1:(s.kind==1)=false:=by simpa using h1
       rw[e1] at hJ
       simp only[Bool.false_and,Bool.false_eq_true,if_false,List.append_nil] at hJ
       clear hn h1
       (repeat' (first|refine wk1 ?_|refine wk2 (fun hb hp=> ?_) (fun hb hp=> ?_)|fail))
       refine hJ _ () trivial ?_
       (refine Wk.mk' (by intro id h;cases h) ?_ ?_ ?_<;>repeat' (first|exact WkF.nil|exact WkB.nil|exact WkT.nil|exact Subs.nil|(refine WkF.cons rfl (Sub.refl _) ?_)|(refine WkF.cons rfl (Sub.of_eq rfl) ?_)|(refine WkF.cons rfl (Sub.of_eq (congrArg aB (by assumption))) ?_)|(refine WkF.cons rfl (Sub.of_eq (congrArg aB (by first|assumption|(symm;assumption)))) ?_)|(refine WkB.cons rfl rfl (Subs.refl _) ?_)|(refine WkB.cons rfl rfl ?_ ?_)|(refine Subs.cons (Sub.refl _) ?_)|(refine Subs.cons (Sub.of_eq (rfl)) ?_)|(refine Subs.cons (Sub.row _ _) ?_)|(refine WkT.cons rfl ?_)))
 rintro u0 _
 have hdc:dcWith c s=⟨endW (s.kind==1) ⟨s.name,s.cols⟩ (out,p),endW (s.kind==2) ⟨s.name,s.table,s.col⟩ (c.is.foldl (stepI s) ([],false))⟩:=by unfold dcWith;rw[hfT]
 rw[hdc]
 clear hdc hfT
 generalize endW (s.kind==1) ⟨s.name,s.cols⟩ (out,p)=ts2
 clear hI hio kl lo hx hlt
 refine L.adoptB 5 51 64 3 rfl (by simp) rfl rfl (.cons .same (.cons .here .nil)) ?_
 refine L.loopP (ι:=Nat) (fun i=>⟨[(80,aI (i:Int)),(79,aI ((c.is.map Idx.c).length:Int)),(78,.iv (.sl (c.is.map Idx.c))),(2,.ptr 2 0),(3,.ptr 3 0),(4,.ptr 4 0),(5,.ptr 5 0),(6,aB ((c.is.take i).foldl (stepI s) ([],false)).2)],[(2,⟨25,.l (c.c.map .iv)⟩),(3,⟨36,.l (s.cs.map .iv)⟩),(4,⟨25,.l [.nils,.nils]⟩),(5,⟨25,.l [.iv (.sl (ts2.map Tab.c)),.row 51 (((c.is.take i).foldl (stepI s) ([],false)).1.map Idx.c)]⟩)],[(51,⟨64,3⟩)]⟩) (fun i=>c.is.length - i) (fun i=>((c.is.take i).foldl (stepI s) ([],false)).1.length≤2*i∧i≤c.is.length) (i0:=0) ?_ ⟨by simp,Nat.zero_le _⟩ ?_
 · (refine Wk.mk' (by intro id h;cases h) ?_ ?_ ?_<;>repeat' (first|exact WkF.nil|exact WkB.nil|exact WkT.nil|exact Subs.nil|(refine WkF.cons rfl (Sub.refl _) ?_)|(refine WkF.cons rfl (Sub.of_eq rfl) ?_)|(refine WkF.cons rfl (Sub.of_eq (congrArg aB (by assumption))) ?_)|(refine WkF.cons rfl (Sub.of_eq (congrArg aB (by first|assumption|(symm;assumption)))) ?_)|(refine WkB.cons rfl rfl (Subs.refl _) ?_)|(refine WkB.cons rfl rfl ?_ ?_)|(refine Subs.cons (Sub.refl _) ?_)|(refine Subs.cons (Sub.of_eq (rfl)) ?_)|(refine Subs.cons (Sub.row _ _) ?_)|(refine WkT.cons rfl ?_)))
 intro i hI K hK
 cases hx:c.is[i]? with
 |some t=>
  have hlt:=ltT (l:=c.is.map Idx.c) (getF (f:=Idx.c) hx)
  have hlt':=ltN hx
  have hil:i<c.is.length:=(List.getElem?_eq_some_iff.1 hx).1
  have g1:(c.is.map Idx.c)[((i:Nat):Int).toNat]?=some [S t.n,S t.tb,S t.co]:=by rw[Int.toNat_natCast,List.getElem?_map,hx];rfl
  have hst:(c.is.take (i+1)).foldl (stepI s) ([],false)=stepI s ((c.is.take i).foldl (stepI s) ([],false)) t:=by rw[takeA hx,List.foldl_append];rfl
  have hlen:=stepW_len (s.kind==2) (s.kind !=3) (!(Op.bytesLess t.n s.name)) (t.tb !=s.name) (⟨s.name,s.table,s.col⟩:Idx) t ((c.is.take i).foldl (stepI s) ([],false))
  have hI':((c.is.take (i+1)).foldl (stepI s) ([],false)).1.length≤2*(i+1)∧i+1≤c.is.length:=by
   refine⟨?_,hil⟩
   rw[hst];exact Nat.le_trans hlen (by omega)
  clear hlen
  generalize (c.is.take i).foldl (stepI s) ([],false)=r at*
  obtain⟨out,p⟩:=r
  dsimp only at hI hst⊢
  have kl:=map_len (f:=Idx.c) (k:=3) (fun _=>rfl) out
  have kl2: ∀e∈out.map Idx.c++ [[S s.name,S s.table,S s.col]],e.length=3:=fun e he=>by
   rcases List.mem_append.1 he with h|h
   · exact kl e h
   · rw[List.mem_singleton.1 h];rfl
  have lo:(out.map Idx.c).length=out.length:=List.length_map _
  obtain⟨R,hR⟩: ∃R,(c.is.take (i+1)).foldl (stepI s) ([],false)=R:=⟨_,rfl⟩
  rw[hR] at hst
  unfold stepI stepW at hst
  dsimp only at hst
  cases e1:s.kind==2 with
  |true=>
   have e3:(s.kind !=3)=true:=by rw[beq_iff_eq] at e1;rw[e1];rfl
   cases p with
   |true=>
    rw[e1,e3] at hst
    simp only[Bool.true_and,Bool.false_and,Bool.and_true,Bool.and_false,Bool.not_true,Bool.not_false,Bool.or_true,Bool.true_or,Bool.false_or,Bool.or_false,if_true,if_false,Bool.false_eq_true,List.append_nil] at hst
    (repeat' (first|(refine LW.is ?_;first|(apply s_append;exact rfl;exact rfl;exact rfl;exact rfl;exact kl;exact len_cons rfl len_nil;(simp only[maxLen,List.length_append,List.length_cons,List.length_nil];omega);(simp only[List.length_append,List.length_cons,List.length_nil];omega);exact rfl;exact rfl))|(refine DR.is ?_;first|(apply d_append;exact rfl;exact rfl;exact rfl;exact rfl;exact kl;exact len_cons rfl len_nil;(simp only[maxLen,List.length_append,List.length_cons,List.length_nil];omega);(simp only[List.length_append,List.length_cons,List.length_nil];omega);exact rfl;exact rfl))|refine wk1 ?_|refine wk2 (fun hb hp=> ?_) (fun hb hp=> ?_)|fail))
    refine L.onlyS [80,79,78,2,3,4,5,6] [2,3,4,5] rfl ?_
    refine L.retokB 5 124 51 rfl (by simp) rfl rfl rfl (.cons .same (.cons .row .nil)) ?_
    refine hK _ (i+1) hI' (by omega) ?_
    rw[hR,hst]
    (refine Wk.mk' (by intro id h;cases h) ?_ ?_ ?_<;>repeat' (first|exact WkF.nil|exact WkB.nil|exact WkT.nil|exact Subs.nil|(refine WkF.cons rfl (Sub.refl _) ?_)|(refine WkF.cons rfl (Sub.of_eq rfl) ?_)|(refine WkF.cons rfl (Sub.of_eq (congrArg aB (by assumption))) ?_)|(refine WkF.cons rfl (Sub.of_eq (congrArg aB (by first|assumption|(symm;assumption)))) ?_)|(refine WkB.cons rfl rfl (Subs.refl _) ?_)|(refine WkB.cons rfl rfl ?_ ?_)|(refine Subs.cons (Sub.refl _) ?_)|(refine Subs.cons (Sub.of_eq (congrArg (AV.row 51) (by rw[List.map_append];rfl))) ?_)|(refine Subs.cons (Sub.row _ _) ?_)|(refine WkT.cons rfl ?_)))
   |false=>
    cases hg: !(Op.bytesLess t.n s.name) with
    |true=>
     rw[e1,e3,hg] at hst
     simp only[Bool.true_and,Bool.false_and,Bool.and_true,Bool.and_false,Bool.not_true,Bool.not_false,Bool.or_true,Bool.true_or,Bool.false_or,Bool.or_false,if_true,if_false,Bool.false_eq_true,List.append_nil] at hst
     (repeat' (first|(refine LW.is ?_;first|(apply s_append;exact rfl;exact rfl;exact rfl;exact rfl;exact kl2;exact len_cons rfl len_nil;(simp only[maxLen,List.length_append,List.length_cons,List.length_nil];omega);(simp only[List.length_append,List.length_cons,List.length_nil];omega);exact rfl;exact rfl)|(apply s_append;exact rfl;exact rfl;exact rfl;exact rfl;exact kl;exact len_cons rfl len_nil;(simp only[maxLen,List.length_append,List.length_cons,List.length_nil];omega);(simp only[List.length_append,List.length_cons,List.length_nil];omega);exact rfl;exact rfl))|(refine DR.is ?_;first|(apply d_append;exact rfl;exact rfl;exact rfl;exact rfl;exact kl2;exact len_cons rfl len_nil;(simp only[maxLen,List.length_append,List.length_cons,List.length_nil];omega);(simp only[List.length_append,List.length_cons,List.length_nil];omega);exact rfl;exact rfl)|(apply d_append;exact rfl;exact rfl;exact rfl;exact rfl;exact kl;exact len_cons rfl len_nil;(simp only[maxLen,List.length_append,List.length_cons,List.length_nil];omega);(simp only[List.length_append,List.length_cons,List.length_nil];omega);exact rfl;exact rfl))|refine wk1 ?_|refine wk2 (fun hb hp=> ?_) (fun hb hp=> ?_)|fail))
     refine L.onlyS [80,79,78,2,3,4,5,6] [2,3,4,5] rfl ?_
     refine L.retokB 5 124 51 rfl (by simp) rfl rfl rfl (.cons .same (.cons .row .nil)) ?_
     refine hK _ (i+1) hI' (by omega) ?_
     rw[hR,hst]
     (refine Wk.mk' (by intro id h;cases h) ?_ ?_ ?_<;>repeat' (first|exact WkF.nil|exact WkB.nil|exact WkT.nil|exact Subs.nil|(refine WkF.cons rfl (Sub.refl _) ?_)|(refine WkF.cons rfl (Sub.of_eq rfl) ?_)|(refine WkF.cons rfl (Sub.of_eq (congrArg aB (by assumption))) ?_)|(refine WkF.cons rfl (Sub.of_eq (congrArg aB (by first|assumption|(symm;assumption)))) ?_)|(refine WkB.cons rfl rfl (Subs.refl _) ?_)|(refine WkB.cons rfl rfl ?_ ?_)|(refine Subs.cons (Sub.refl _) ?_)|(refine Subs.cons (Sub.of_eq (congrArg (AV.row 51) (by rw[List.map_append,List.map_append];rfl))) ?_)|(refine Subs.cons (Sub.row _ _) ?_)|(refine WkT.cons rfl ?_)))
    |false=>
     rw[e1,e3,hg] at hst
     simp only[Bool.true_and,Bool.false_and,Bool.and_true,Bool.and_false,Bool.not_true,Bool.not_false,Bool.or_true,Bool.true_or,Bool.false_or,Bool.or_false,if_true,if_false,Bool.false_eq_true,List.append_nil] at hst
     (repeat' (first|(refine LW.is ?_;first|(apply s_append;exact rfl;exact rfl;exact rfl;exact rfl;exact kl;exact len_cons rfl len_nil;(simp only[maxLen,List.length_append,List.length_cons,List.length_nil];omega);(simp only[List.length_append,List.length_cons,List.length_nil];omega);exact rfl;exact rfl))|(refine DR.is ?_;first|(apply d_append;exact rfl;exact rfl;exact rfl;exact rfl;exact kl;exact len_cons rfl len_nil;(simp only[maxLen,List.length_append,List.length_cons,List.length_nil];omega);(simp only[List.length_append,List.length_cons,List.length_nil];omega);exact rfl;exact rfl))|refine wk1 ?_|refine wk2 (fun hb hp=> ?_) (fun hb hp=> ?_)|fail))
     refine L.onlyS [80,79,78,2,3,4,5,6] [2,3,4,5] rfl ?_
     refine L.retokB 5 124 51 rfl (by simp) rfl rfl rfl (.cons .same (.cons .row .nil)) ?_
     refine hK _ (i+1) hI' (by omega) ?_
     rw[hR,hst]
     (refine Wk.mk' (by intro id h;cases h) ?_ ?_ ?_<;>repeat' (first|exact WkF.nil|exact WkB.nil|exact WkT.nil|exact Subs.nil|(refine WkF.cons rfl (Sub.refl _) ?_)|(refine WkF.cons rfl (Sub.of_eq rfl) ?_)|(refine WkF.cons rfl (Sub.of_eq (congrArg aB (by assumption))) ?_)|(refine WkF.cons rfl (Sub.of_eq (congrArg aB (by first|assumption|(symm;assumption)))) ?_)|(refine WkB.cons rfl rfl (Subs.refl _) ?_)|(refine WkB.cons rfl rfl ?_ ?_)|(refine Subs.cons (Sub.refl _) ?_)|(refine Subs.cons (Sub.of_eq (congrArg (AV.row 51) (by rw[List.map_append];rfl))) ?_)|(refine Subs.cons (Sub.row _ _) ?_)|(refine WkT.cons rfl ?_)))
  |false=>
   cases e3:s.kind !=3 with
   |true=>
    rw[e1,e3] at hst
    simp only[Bool.true_and,Bool.false_and,Bool.and_true,Bool.and_false,Bool.not_true,Bool.not_false,Bool.or_true,Bool.true_or,Bool.false_or,Bool.or_false,if_true,if_false,Bool.false_eq_true,List.append_nil] at hst
    (repeat' (first|(refine LW.is ?_;first|(apply s_append;exact rfl;exact rfl;exact rfl;exact rfl;exact kl;exact len_cons rfl len_nil;(simp only[maxLen,List.length_append,List.length_cons,List.length_nil];omega);(simp only[List.length_append,List.length_cons,List.length_nil];omega);exact rfl;exact rfl))|(refine DR.is ?_;first|(apply d_append;exact rfl;exact rfl;exact rfl;exact rfl;exact kl;exact len_cons rfl len_nil;(simp only[maxLen,List.length_append,List.length_cons,List.length_nil];omega);(simp only[List.length_append,List.length_cons,List.length_nil];omega);exact rfl;exact rfl))|refine wk1 ?_|refine wk2 (fun hb hp=> ?_) (fun hb hp=> ?_)|fail))
    refine L.onlyS [80,79,78,2,3,4,5,6] [2,3,4,5] rfl ?_
    refine L.retokB 5 124 51 rfl (by simp) rfl rfl rfl (.cons .same (.cons .row .nil)) ?_
    refine hK _ (i+1) hI' (by omega) ?_
    rw[hR,hst]
    (refine Wk.mk' (by intro id h;cases h) ?_ ?_ ?_<;>repeat' (first|exact WkF.nil|exact WkB.nil|exact WkT.nil|exact Subs.nil|(refine WkF.cons rfl (Sub.refl _) ?_)|(refine WkF.cons rfl (Sub.of_eq rfl) ?_)|(refine WkF.cons rfl (Sub.of_eq (congrArg aB (by assumption))) ?_)|(refine WkF.cons rfl (Sub.of_eq (congrArg aB (by first|assumption|(symm;assumption)))) ?_)|(refine WkB.cons rfl rfl (Subs.refl _) ?_)|(refine WkB.cons rfl rfl ?_ ?_)|(refine Subs.cons (Sub.refl _) ?_)|(refine Subs.cons (Sub.of_eq (congrArg (AV.row 51) (by rw[List.map_append];rfl))) ?_)|(refine Subs.cons (Sub.row _ _) ?_)|(refine WkT.cons rfl ?_)))
   |false=>
    cases hn:t.tb !=s.name with
    |true=>
     rw[e1,e3,hn] at hst
     simp only[Bool.true_and,Bool.false_and,Bool.and_true,Bool.and_false,Bool.not_true,Bool.not_false,Bool.or_true,Bool.true_or,Bool.false_or,Bool.or_false,if_true,if_false,Bool.false_eq_true,List.append_nil] at hst
     (repeat' (first|(refine LW.is ?_;first|(apply s_append;exact rfl;exact rfl;exact rfl;exact rfl;exact kl;exact len_cons rfl len_nil;(simp only[maxLen,List.length_append,List.length_cons,List.length_nil];omega);(simp only[List.length_append,List.length_cons,List.length_nil];omega);exact rfl;exact rfl))|(refine DR.is ?_;first|(apply d_append;exact rfl;exact rfl;exact rfl;exact rfl;exact kl;exact len_cons rfl len_nil;(simp only[maxLen,List.length_append,List.length_cons,List.length_nil];omega);(simp only[List.length_append,List.length_cons,List.length_nil];omega);exact rfl;exact rfl))|refine wk1 ?_|refine wk2 (fun hb hp=> ?_) (fun hb hp=> ?_)|fail))
     refine L.onlyS [80,79,78,2,3,4,5,6] [2,3,4,5] rfl ?_
     refine L.retokB 5 124 51 rfl (by simp) rfl rfl rfl (.cons .same (.cons .row .nil)) ?_
     refine hK _ (i+1) hI' (by omega) ?_
     rw[hR,hst]
     (refine Wk.mk' (by intro id h;cases h) ?_ ?_ ?_<;>repeat' (first|exact WkF.nil|exact WkB.nil|exact WkT.nil|exact Subs.nil|(refine WkF.cons rfl (Sub.refl _) ?_)|(refine WkF.cons rfl (Sub.of_eq rfl) ?_)|(refine WkF.cons rfl (Sub.of_eq (congrArg aB (by assumption))) ?_)|(refine WkF.cons rfl (Sub.of_eq (congrArg aB (by first|assumption|(symm;assumption)))) ?_)|(refine WkB.cons rfl rfl (Subs.refl _) ?_)|(refine WkB.cons rfl rfl ?_ ?_)|(refine Subs.cons (Sub.refl _) ?_)|(refine Subs.cons (Sub.of_eq (congrArg (AV.row 51) (by rw[List.map_append];rfl))) ?_)|(refine Subs.cons (Sub.row _ _) ?_)|(refine WkT.cons rfl ?_)))
    |false=>
     rw[e1,e3,hn] at hst
     simp only[Bool.true_and,Bool.false_and,Bool.and_true,Bool.and_false,Bool.not_true,Bool.not_false,Bool.or_true,Bool.true_or,Bool.false_or,Bool.or_false,if_true,if_false,Bool.false_eq_true,List.append_nil] at hst
     (repeat' (first|refine wk1 ?_|refine wk2 (fun hb hp=> ?_) (fun hb hp=> ?_)|fail))
     refine L.onlyS [80,79,78,2,3,4,5,6] [2,3,4,5] rfl ?_
     refine hK _ (i+1) hI' (by omega) ?_
     rw[hR,hst]
     (refine Wk.mk' (by intro id h;cases h) ?_ ?_ ?_<;>repeat' (first|exact WkF.nil|exact WkB.nil|exact WkT.nil|exact Subs.nil|(refine WkF.cons rfl (Sub.refl _) ?_)|(refine WkF.cons rfl (Sub.of_eq rfl) ?_)|(refine WkF.cons rfl (Sub.of_eq (congrArg aB (by assumption))) ?_)|(refine WkF.cons rfl (Sub.of_eq (congrArg aB (by first|assumption|(symm;assumption)))) ?_)|(refine WkB.cons rfl rfl (Subs.refl _) ?_)|(refine WkB.cons rfl rfl ?_ ?_)|(refine Subs.cons (Sub.refl _) ?_)|(refine Subs.cons (Sub.of_eq (rfl)) ?_)|(refine Subs.cons (Sub.row _ _) ?_)|(refine WkT.cons rfl ?_)))
 |none=>
 have hlt:=ltF (l:=c.is.map Idx.c) (getFN hx)
 rw[List.take_of_length_le (List.getElem?_eq_none_iff.1 hx)] at hI⊢
 clear hK
 generalize hfI:c.is.foldl (stepI s) ([],false)=fI at hI⊢
 obtain⟨ous,q⟩:=fI
 dsimp only at hI⊢
 have hio:ous.length≤2000:=by
  omega
 have kl:=map_len (f:=Idx.c) (k:=3) (fun _=>rfl) ous
 have lo:(ous.map Idx.c).length=ous.length:=List.length_map _
 cases e1:s.kind==2 with
 |false=>
  rw[show endW false ⟨s.name,s.table,s.col⟩ (ous,q)=ous by simp[endW]]
  (repeat' (first|refine wk1 ?_|refine wk2 (fun hb hp=> ?_) (fun hb hp=> ?_)|fail))
  all_goals refine wkf ?_
  all_goals rfl
 |true=>
  cases q with
  |true=>
   rw[show endW true ⟨s.name,s.table,s.col⟩ (ous,true)=ous by simp[endW]]
   (repeat' (first|refine wk1 ?_|refine wk2 (fun hb hp=> ?_) (fun hb hp=> ?_)|fail))
   all_goals refine wkf ?_
   all_goals rfl
  |false=>
   rw[show endW true ⟨s.name,s.table,s.col⟩ (ous,false)=ous++ [⟨s.name,s.table,s.col⟩] by simp[endW]]
   have em:(ous++ [(⟨s.name,s.table,s.col⟩:Idx)]).map Idx.c=ous.map Idx.c++ [[S s.name,S s.table,S s.col]]:=by rw[List.map_append];rfl
   have ec:(⟨ts2,ous++ [⟨s.name,s.table,s.col⟩]⟩:Cat).c= [.sl (ts2.map Tab.c),.sl ((ous++ [(⟨s.name,s.table,s.col⟩:Idx)]).map Idx.c)]:=rfl
   rw[ec,em]
   (repeat' (first|(refine LW.is ?_;first|(apply s_append;exact rfl;exact rfl;exact rfl;exact rfl;exact kl;exact len_cons rfl len_nil;(simp only[maxLen,List.length_append,List.length_cons,List.length_nil];omega);(simp only[List.length_append,List.length_cons,List.length_nil];omega);exact rfl;exact rfl))|(refine DR.is ?_;first|(apply d_append;exact rfl;exact rfl;exact rfl;exact rfl;exact kl;exact len_cons rfl len_nil;(simp only[maxLen,List.length_append,List.length_cons,List.length_nil];omega);(simp only[List.length_append,List.length_cons,List.length_nil];omega);exact rfl;exact rfl))|refine wk1 ?_|refine wk2 (fun hb hp=> ?_) (fun hb hp=> ?_)|fail))
   all_goals refine wkf ?_
   all_goals rfl
end Go.Proofs.YthcjohcakdnmmaaGreatDoor
