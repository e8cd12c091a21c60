/- Several texts in one, each with its own sentence ahead of it. Conditions: each one says its own. -/
import Derived.Test.YthcjohcakdnmmaaGreatDoorZS20
import Derived.Test.YthcjohcakdnmmaaGreatDoorZS31
import Derived.Test.YthcjohcakdnmmaaGreatDoorZS36
set_option linter.all false
namespace Go.Proofs.YthcjohcakdnmmaaGreatDoor
open Go.Abs
set_option maxRecDepth 100000
attribute [local irreducible] L LF Code.wp bodyPost Exit.then Exit.inBlock
set_option linter.unusedVariables false
set_option linter.unusedSimpArgs false
def fromE(c:Cat)(s:Stm):Int:=errM (s.frm.zipIdx.map fun p=>(fromOne c s.frm p).2)
def fromT(c:Cat)(s:Stm):List Tab:=s.frm.zipIdx.map fun p=>(fromOne c s.frm p).1
set_option maxHeartbeats 16000000 in
theorem fromL{gs:Globs}(c:Cat)(s:Stm)(hcat:c.Ok)(vo vd:IV)(hf1:1≤s.frm.length)(hf2:s.frm.length≤2){w0:World}{E0:Env}(hG:Glob gs E0 w0){K:Act→World→Prop}{Q2:Exit→Act→World→Prop}
 (hE:fromE c s≠0→ ∀st',Wk ⟨512,w0,E0,[2,3,4]⟩ st' (noSt c (fromE c s))→L ⟨512,w0,E0,[2,3,4]⟩ st' (Q2 .ret))
 (hK0:fromE c s=0→ ∀st',Wk ⟨512,w0,E0,[2,3,4]⟩ st' ⟨[(2,.ptr 2 0),(3,.ptr 3 0),(4,.ptr 4 0),(6,.fn 31 []),(24,.iv (.sl ((fromT c s).map Tab.c)))],[(2,⟨25,.l (c.c.map .iv)⟩),(3,⟨36,.l (stmA s (.iv (.sl (s.rows.map exRow))) (.iv (.sl (s.sets.map Ast.c))) (.iv vo) (.iv vd))⟩),(4,⟨36,.l stm0A⟩)],[]⟩→L ⟨512,w0,E0,[2,3,4]⟩ st' K):
 L ⟨512,w0,E0,[2,3,4]⟩ ⟨[(375,aI 0),(374,aI ((s.frm.map Str.c).length:Int)),(373,.iv (.sl (s.frm.map Str.c))),(24,.nils),(2,.ptr 2 0),(3,.ptr 3 0),(4,.ptr 4 0),(6,.fn 31 [])],[(2,⟨25,.l (c.c.map .iv)⟩),(3,⟨36,.l (stmA s (.iv (.sl (s.rows.map exRow))) (.iv (.sl (s.sets.map Ast.c))) (.iv vo) (.iv vd))⟩),(4,⟨36,.l stm0A⟩)],[]⟩ ((Code.loop (nav [1,1,1,1,1,1,1,1,1,1,1,1,0,1,0,1,1,1,1,1,1,1,0,1,1,0,1,0,0] ((Tryz.f7.body).getD .skip))).wp Tryz.prog (Exit.inBlock 17 (Exit.then K Q2))):=by
 have kn: ∀e:Int,CallG gs Tryz.prog 31 ([aI e] ++ []) [] [] [] (.tup [.agg (nilSt.cs.map .iv),.iv (I e)]):=fun e=>no_any e
 have lf:((s.frm.map Str.c).length:Int)=(s.frm.length:Int):=by simp
 refine L.adopt 24 (s:=24) (t:=47) (k:=2) rfl rfl rfl ?_
 refine L.loopP (ι:=Nat) (fun i=>⟨[(375,aI (i:Int)),(374,aI ((s.frm.map Str.c).length:Int)),(373,.iv (.sl (s.frm.map Str.c))),(24,.row 24 (((s.frm.zipIdx.take i).map fun p=>(fromOne c s.frm p).1).map Tab.c)),(2,.ptr 2 0),(3,.ptr 3 0),(4,.ptr 4 0),(6,.fn 31 [])],[(2,⟨25,.l (c.c.map .iv)⟩),(3,⟨36,.l (stmA s (.iv (.sl (s.rows.map exRow))) (.iv (.sl (s.sets.map Ast.c))) (.iv vo) (.iv vd))⟩),(4,⟨36,.l stm0A⟩)],[(24,⟨47,2⟩)]⟩) (fun i=>s.frm.length - i) (fun i=> ∀p∈s.frm.zipIdx.take i,(fromOne c s.frm p).2=0) (i0:=0) ?_ (by simp) ?_
 · (refine Wk.mk' (keysA rfl) ?_ ?_ ?_<;>repeat' (first|exact WkF.nil|exact WkB.nil|exact WkT.nil|exact Subs.nil|(refine WkF.cons rfl (Sub.refl _) ?_)|(refine WkF.cons rfl (Sub.of_eq rfl) ?_)|(refine WkF.cons rfl (Sub.row _ _) ?_)|(refine WkF.cons rfl (Sub.of_eq (rfl)) ?_)|(refine WkB.cons rfl rfl (Subs.refl _) ?_)|(refine WkB.cons rfl rfl (subs20 rfl) ?_)|(refine WkB.cons rfl rfl (Subs.of_eq rfl) ?_)|(refine WkT.cons rfl ?_)))
 intro i hI K2 hK
 cases hx:s.frm[i]? with
 |none=>
  have hlt:=ltF (l:=s.frm.map Str.c) (getFN hx)
  have hzn:=zip_none hx
  rw[take_all hzn] at hI⊢
  have h0:fromE c s=0:=errT_no hI
  have hK3:=hK0 h0
  clear hK hI hE hK0
  (repeat' (first|refine wk1 ?_|refine wk2 (fun hb hp=> ?_) (fun hb hp=> ?_)|fail))
  refine hK3 _ ?_
  (refine Wk.mk' (keysA rfl) ?_ ?_ ?_<;>repeat' (first|exact WkF.nil|exact WkB.nil|exact WkT.nil|exact Subs.nil|(refine WkF.cons rfl (Sub.refl _) ?_)|(refine WkF.cons rfl (Sub.of_eq rfl) ?_)|(refine WkF.cons rfl (Sub.row _ _) ?_)|(refine WkF.cons rfl (Sub.of_eq (rfl)) ?_)|(refine WkB.cons rfl rfl (Subs.refl _) ?_)|(refine WkB.cons rfl rfl (subs20 rfl) ?_)|(refine WkB.cons rfl rfl (Subs.of_eq rfl) ?_)|(refine WkT.cons rfl ?_)))
 |some x=>
  clear hK0
  have hlt:=ltT (l:=s.frm.map Str.c) (getF (f:=Str.c) hx)
  have hlt':=ltN hx
  have hz:=zip_at hx
  have hil:i<s.frm.length:=(List.getElem?_eq_some_iff.1 hx).1
  have g1:(s.frm.map Str.c)[((i:Nat):Int).toNat]?=some [S x]:=by rw[Int.toNat_natCast,List.getElem?_map,hx];rfl
  have kt:=tableOf_any c x hcat.t
  have hone:fromOne c s.frm (x,i)=if(findT c x).2=false then((findT c x).1,3) else if(s.frm.take i).any (fun y=>x==y) then((findT c x).1,4) else((findT c x).1,0):=rfl
  have hEr:(fromOne c s.frm (x,i)).2≠0→fromE c s=(fromOne c s.frm (x,i)).2:=fun h=>errT_at (g:=fun p=>(fromOne c s.frm p).2) hI hz h
  have n1:(((s.frm.zipIdx.take (i+1)).map fun p=>(fromOne c s.frm p).1).map Tab.c)=((s.frm.zipIdx.take i).map fun p=>(fromOne c s.frm p).1).map Tab.c++ [(fromOne c s.frm (x,i)).1.c]:=by rw[takeC hz,List.map_append,List.map_append];rfl
  have hI':=takeT_snoc (g:=fun p=>(fromOne c s.frm p).2) hI hz
  have l1:(((s.frm.zipIdx.take i).map fun p=>(fromOne c s.frm p).1).map Tab.c).length+1≤2:=by rw[List.length_map,List.length_map,List.length_take,List.length_zipIdx];omega
  have bm:(((s.frm.zipIdx.take i).map fun p=>(fromOne c s.frm p).1).map Tab.c).length+1≤maxLen:=Nat.le_trans l1 (by rw[maxL];decide)
  have bb:((((s.frm.zipIdx.take i).map fun p=>(fromOne c s.frm p).1).map Tab.c).length+1)*40≤225000000000000:=Nat.le_trans (Nat.mul_le_mul_right 40 l1) (by decide)
  have k1: ∀e∈((s.frm.zipIdx.take i).map fun p=>(fromOne c s.frm p).1).map Tab.c,e.length=2:=fun e he=>by obtain⟨y,_,rfl⟩:=List.mem_map.1 he;rfl
  cases hb:(findT c x).2 with
  |false=>
   rw[hb,if_pos rfl] at hone
   rw[hb] at kt
   have hee:=hEr (by rw[hone];exact(by decide:(3:Int)≠0))
   rw[hone] at hee
   dsimp only at hee
   rw[hee] at hE
   have hE2:=hE (by decide)
   clear hE hK hI' n1 hI hEr hone
   generalize ((s.frm.zipIdx.take i).map fun p=>(fromOne c s.frm p).1).map Tab.c=es at*
   generalize (findT c x).1=tt at*
   (repeat' (first|(apply s_callFnW [] (f:=31) (avs:= [aI 3]) (caps:= []) (bxi:= []);exact rfl;exact hG;exact rfl;exact kn 3;exact Subs.of_eq rfl;exact .nil;exact rfl;exact rfl;exact rfl;exact rfl)|refine wk1 ?_|refine wk2 (fun hb hp=> ?_) (fun hb hp=> ?_)|fail))
   refine hE2 _ ?_
   (refine Wk.mk' (keysA rfl) ?_ ?_ ?_<;>repeat' (first|exact WkF.nil|exact WkB.nil|exact WkT.nil|exact Subs.nil|(refine WkF.cons rfl (Sub.refl _) ?_)|(refine WkF.cons rfl (Sub.of_eq rfl) ?_)|(refine WkF.cons rfl (Sub.row _ _) ?_)|(refine WkF.cons rfl (Sub.of_eq (rfl)) ?_)|(refine WkB.cons rfl rfl (Subs.refl _) ?_)|(refine WkB.cons rfl rfl (subs20 rfl) ?_)|(refine WkB.cons rfl rfl (Subs.of_eq rfl) ?_)|(refine WkT.cons rfl ?_)))
  |true=>
  rw[hb,if_neg (by decide)] at hone
  rw[hb] at kt
  have hi01:i=0∨i=1:=by omega
  rcases hi01 with rfl|rfl
  · rw[List.take_zero,List.any_nil,if_neg (by decide)] at hone
    rw[hone] at hI' n1
    have hI2:=hI' rfl
    clear hI' hE hEr hone hI
    dsimp only at n1
    generalize ((s.frm.zipIdx.take 0).map fun p=>(fromOne c s.frm p).1).map Tab.c=es at*
    generalize (findT c x).1=tt at*
    have q:((0:Int)==1)=false:=rfl
    (repeat' (first|(refine LW.is ?_;first|(apply s_append;exact rfl;exact rfl;exact rfl;exact rfl;exact k1;exact len_cons rfl len_nil;exact bm;exact bb;exact rfl;exact rfl))|(refine DR.is ?_;first|(apply d_append;exact rfl;exact rfl;exact rfl;exact rfl;exact k1;exact len_cons rfl len_nil;exact bm;exact bb;exact rfl;exact rfl))|refine wk1 ?_|refine wk2 (fun hb hp=> ?_) (fun hb hp=> ?_)|fail))
    refine L.onlyS [375,374,373,24,2,3,4,6] [2,3,4] rfl ?_
    refine L.retok 24 409 24 rfl rfl rfl rfl ?_
    refine hK _ (0+1) hI2 (by omega) ?_
    (refine Wk.mk' (keysA rfl) ?_ ?_ ?_<;>repeat' (first|exact WkF.nil|exact WkB.nil|exact WkT.nil|exact Subs.nil|(refine WkF.cons rfl (Sub.refl _) ?_)|(refine WkF.cons rfl (Sub.of_eq rfl) ?_)|(refine WkF.cons rfl (Sub.row _ _) ?_)|(refine WkF.cons rfl (Sub.of_eq (congrArg (AV.row 24) n1.symm)) ?_)|(refine WkB.cons rfl rfl (Subs.refl _) ?_)|(refine WkB.cons rfl rfl (subs20 rfl) ?_)|(refine WkB.cons rfl rfl (Subs.of_eq rfl) ?_)|(refine WkT.cons rfl ?_)))
  · obtain⟨x0,hx0⟩: ∃x0,s.frm[0]?=some x0:=⟨_,List.getElem?_eq_getElem (by omega)⟩
    have g0:(s.frm.map Str.c)[(0:Int).toNat]?=some [S x0]:=by rw[show(0:Int).toNat=0 from rfl,List.getElem?_map,hx0];rfl
    have p0:(0:Int)<((s.frm.map Str.c).length:Int):=by rw[lf];omega
    have hany:(s.frm.take 1).any (fun y=>x==y)=(x0==x):=by
     rw[show s.frm.take 1= [x0] by rw[takeA hx0];rfl]
     rw[List.any_cons,List.any_nil,Bool.or_false,Bool.eq_iff_iff,beq_iff_eq,beq_iff_eq]
     exact eq_comm
    rw[hany] at hone
    cases hm:x0==x with
    |true=>
     rw[hm,if_pos rfl] at hone
     have hee:=hEr (by rw[hone];exact(by decide:(4:Int)≠0))
     rw[hone] at hee
     dsimp only at hee
     rw[hee] at hE
     have hE2:=hE (by decide)
     clear hE hK hI' n1 hI hEr hone hany
     generalize ((s.frm.zipIdx.take 1).map fun p=>(fromOne c s.frm p).1).map Tab.c=es at*
     generalize (findT c x).1=tt at*
     (repeat' (first|(apply s_callFnW [] (f:=31) (avs:= [aI 4]) (caps:= []) (bxi:= []);exact rfl;exact hG;exact rfl;exact kn 4;exact Subs.of_eq rfl;exact .nil;exact rfl;exact rfl;exact rfl;exact rfl)|refine wk1 ?_|refine wk2 (fun hb hp=> ?_) (fun hb hp=> ?_)|fail))
     refine hE2 _ ?_
     (refine Wk.mk' (keysA rfl) ?_ ?_ ?_<;>repeat' (first|exact WkF.nil|exact WkB.nil|exact WkT.nil|exact Subs.nil|(refine WkF.cons rfl (Sub.refl _) ?_)|(refine WkF.cons rfl (Sub.of_eq rfl) ?_)|(refine WkF.cons rfl (Sub.row _ _) ?_)|(refine WkF.cons rfl (Sub.of_eq (rfl)) ?_)|(refine WkB.cons rfl rfl (Subs.refl _) ?_)|(refine WkB.cons rfl rfl (subs20 rfl) ?_)|(refine WkB.cons rfl rfl (Subs.of_eq rfl) ?_)|(refine WkT.cons rfl ?_)))
    |false=>
     rw[hm,if_neg (by decide)] at hone
     rw[hone] at hI' n1
     have hI2:=hI' rfl
     clear hI' hE hEr hone hI hany
     dsimp only at n1
     generalize ((s.frm.zipIdx.take 1).map fun p=>(fromOne c s.frm p).1).map Tab.c=es at*
     generalize (findT c x).1=tt at*
     (repeat' (first|(refine LW.is ?_;first|(apply s_append;exact rfl;exact rfl;exact rfl;exact rfl;exact k1;exact len_cons rfl len_nil;exact bm;exact bb;exact rfl;exact rfl))|(refine DR.is ?_;first|(apply d_append;exact rfl;exact rfl;exact rfl;exact rfl;exact k1;exact len_cons rfl len_nil;exact bm;exact bb;exact rfl;exact rfl))|refine wk1 ?_|refine wk2 (fun hb hp=> ?_) (fun hb hp=> ?_)|fail))
     refine L.onlyS [375,374,373,24,2,3,4,6] [2,3,4] rfl ?_
     refine L.retok 24 409 24 rfl rfl rfl rfl ?_
     refine hK _ (1+1) hI2 (by omega) ?_
     (refine Wk.mk' (keysA rfl) ?_ ?_ ?_<;>repeat' (first|exact WkF.nil|exact WkB.nil|exact WkT.nil|exact Subs.nil|(refine WkF.cons rfl (Sub.refl _) ?_)|(refine WkF.cons rfl (Sub.of_eq rfl) ?_)|(refine WkF.cons rfl (Sub.row _ _) ?_)|(refine WkF.cons rfl (Sub.of_eq (congrArg (AV.row 24) n1.symm)) ?_)|(refine WkB.cons rfl rfl (Subs.refl _) ?_)|(refine WkB.cons rfl rfl (subs20 rfl) ?_)|(refine WkB.cons rfl rfl (Subs.of_eq rfl) ?_)|(refine WkT.cons rfl ?_)))
end Go.Proofs.YthcjohcakdnmmaaGreatDoor
namespace Go.Proofs.YthcjohcakdnmmaaGreatDoor
open Go.Abs
set_option linter.unusedVariables false
set_option linter.unusedSimpArgs false
theorem zip_all{α:Type}{p:α×Nat→Bool}{l:List α}:l.zipIdx.all p=true↔ ∀i x,l[i]?=some x→p (x,i)=true:=by
 rw[List.all_eq_true]
 constructor
 · intro h i x hx
   exact h (x,i) (List.mem_of_getElem? (zip_at hx))
 · rintro h ⟨x,i⟩ hm
   exact h i x (List.mem_zipIdx_iff_getElem?.1 hm)
theorem rises_iff{α:Type}(f:α→Str)(d:α)(l:List α):(∀i x,l[i]?=some x→0<i→f (l.getD (i - 1) d)<f x)↔(l.map f).Pairwise (· < ·):=by
 constructor
 · intro h
   have key: ∀j,j<l.length→ ∀i,i<j→f (l.getD i d)<f (l.getD j d):=by
    intro j
    induction j with
    |zero=>intro _ i hi;omega
    |succ j ih=>
     intro hj i hi
     have h1:=h (j+1) (l.getD (j+1) d) (getD_some d hj) (by omega)
     rw[Nat.add_sub_cancel] at h1
     rcases Nat.lt_or_eq_of_le (Nat.lt_succ_iff.1 hi) with h2|rfl
     · exact lt_trans' (ih (by omega) i h2) h1
     · exact h1
   rw[List.pairwise_iff_getElem]
   intro i j hi hj hij
   rw[List.length_map] at hi hj
   have:=key j hj i hij
   simpa[List.getD_eq_getElem?_getD,hi,hj] using this
 · intro h i x hx hi
   obtain⟨hlt,rfl⟩:=List.getElem?_eq_some_iff.1 hx
   have h1:i - 1<l.length:=by omega
   have:=List.pairwise_iff_getElem.1 h (i - 1) i (by simpa using h1) (by simpa using hlt) (by omega)
   simpa[List.getD_eq_getElem?_getD,h1] using this
theorem tabOk_iff(c:Cat)(i:Nat)(t:Tab):tabOk c i t=true↔goodTabM t=true∧(0<i→(c.ts.getD (i - 1) ⟨[],[]⟩).n<t.n):=by
 unfold tabOk
 rw[less_lt]
 rcases Nat.eq_zero_or_pos i with rfl|hi
 · cases goodTabM t<;>simp
 · have:(0:Int)<(i:Int):=by omega
   cases goodTabM t<;>simp[hi,this]
theorem idxOk_iff(c:Cat)(i:Nat)(x:Idx):idxOk c i x=true↔(namedM x.n=true∧(findT c x.tb).2=true∧0≤colM (findT c x.tb).1 x.co)∧(0<i→(c.is.getD (i - 1) ⟨[],[],[]⟩).n<x.n):=by
 unfold idxOk
 rw[less_lt]
 rcases Nat.eq_zero_or_pos i with rfl|hi
 · cases namedM x.n<;>cases(findT c x.tb).2<;>simp
 · have:(0:Int)<(i:Int):=by omega
   cases namedM x.n<;>cases(findT c x.tb).2<;>simp[hi,this]
structure GoodC (c:Cat):Prop where
 tabs: ∀t∈c.ts,goodTabM t=true
 tn:(c.ts.map Tab.n).Pairwise (· < ·)
 idx: ∀x∈c.is,namedM x.n=true∧(findT c x.tb).2=true∧0≤colM (findT c x.tb).1 x.co
 xn:(c.is.map Idx.n).Pairwise (· < ·)
 tl:c.ts.length≤3
 il:c.is.length≤4
theorem goodC_iff(c:Cat):goodCatM c=true↔GoodC c:=by
 unfold goodCatM tabsOk idxsOk
 simp only[Bool.and_eq_true,zip_all,tabOk_iff,idxOk_iff,decide_eq_true_eq]
 constructor
 · rintro ⟨h1,h2,h3,h4⟩
   refine⟨fun t ht=> ?_,(rises_iff Tab.n ⟨[],[]⟩ c.ts).1 (fun i x hx=>(h1 i x hx).2),fun x hx=> ?_,(rises_iff Idx.n ⟨[],[],[]⟩ c.is).1 (fun i x hx=>(h2 i x hx).2),by omega,by omega⟩
   · obtain⟨i,hi⟩:=List.getElem?_of_mem ht;exact(h1 i t hi).1
   · obtain⟨i,hi⟩:=List.getElem?_of_mem hx;exact(h2 i x hi).1
 · intro h
   exact⟨fun i x hx=>⟨h.tabs x (List.mem_of_getElem? hx),(rises_iff Tab.n ⟨[],[]⟩ c.ts).2 h.tn i x hx⟩,fun i x hx=>⟨h.idx x (List.mem_of_getElem? hx),(rises_iff Idx.n ⟨[],[],[]⟩ c.is).2 h.xn i x hx⟩,by have:=h.tl;omega,by have:=h.il;omega⟩
theorem findT_in{c:Cat}{n:Str}(h:(findT c n).2=true):(findT c n).1∈c.ts∧(findT c n).1.n=n:=by
 unfold findT at h⊢
 cases hf:c.ts.find? (fun t=>t.n==n) with
 |none=>rw[hf] at h;cases h
 |some t=>exact⟨List.mem_of_find?_eq_some hf,by have:=List.find?_some hf;simpa using this⟩
theorem findT_none{c:Cat}{n:Str}:(findT c n).2=false↔ ∀t∈c.ts,t.n≠n:=by
 unfold findT
 cases hf:c.ts.find? (fun t=>t.n==n) with
 |none=>simp only[true_iff];intro t ht;have:=List.find?_eq_none.1 hf t ht;simpa using this
 |some t=>simp only[Bool.true_eq_false,false_iff];intro h;exact h t (List.mem_of_find?_eq_some hf) (by have:=List.find?_some hf;simpa using this)
theorem findT_some{c:Cat}{n:Str}:(findT c n).2=true↔ ∃t∈c.ts,t.n=n:=by
 constructor
 · intro h;exact⟨_,(findT_in h).1,(findT_in h).2⟩
 · rintro ⟨t,ht,rfl⟩
   rw[←Bool.not_eq_false]
   intro h;exact findT_none.1 h t ht rfl
theorem names_inj{α:Type}{f:α→Str}: ∀{l:List α},(l.map f).Pairwise (· < ·)→ ∀a∈l,∀b∈l,f a=f b→a=b
 | [],_,a,ha,_,_,_=>by cases ha
 |x::l,h,a,ha,b,hb,e=>by
  rw[List.map_cons,List.pairwise_cons] at h
  rcases List.mem_cons.1 ha with h1|h1<;>rcases List.mem_cons.1 hb with h2|h2
  · rw[h1,h2]
  · have:=h.1 (f b) (List.mem_map_of_mem h2);rw[←e,h1] at this;exact absurd this (List.lt_irrefl _)
  · have:=h.1 (f a) (List.mem_map_of_mem h1);rw[e,h2] at this;exact absurd this (List.lt_irrefl _)
  · exact names_inj h.2 a h1 b h2 e
theorem findT_of{c:Cat}(hn:(c.ts.map Tab.n).Pairwise (· < ·)){t:Tab}(ht:t∈c.ts):findT c t.n=(t,true):=by
 have h:(findT c t.n).2=true:=findT_some.2 ⟨t,ht,rfl⟩
 obtain⟨h1,h2⟩:=findT_in h
 exact Prod.ext (names_inj hn _ h1 _ ht h2) h
theorem tri{x y:Str}(h: ¬x<y)(hne:x≠y):y<x:=by
 cases h1:Op.bytesLess y x with
 |true=>rw[less_lt] at h1;exact of_decide_eq_true h1
 |false=>exact absurd (less_tri (by rw[less_lt];exact decide_eq_false h) h1) hne
theorem ins_rises{ks:List Str}{k:Str}(h:ks.Pairwise (· < ·))(hk:k∉ks):(ks.take (lbM ks k)++k::ks.drop (lbM ks k)).Pairwise (· < ·):=by
 have hf:=falls_keys k h
 have ha: ∀a∈ks.take (lbM ks k),a<k:=by
  intro a ha
  obtain⟨i,hi⟩:=List.getElem?_of_mem ha
  rw[List.getElem?_take] at hi
  split at hi
  · rename_i hlt;have:=pre_lt hi hlt;simpa using this
  · cases hi
 have hb: ∀b∈ks.drop (lbM ks k),k<b:=by
  intro b hb
  obtain⟨i,hi⟩:=List.getElem?_of_mem hb
  rw[List.getElem?_drop] at hi
  refine tri (fun hlt=> ?_) (fun e=>hk (e▸List.mem_of_mem_drop hb))
  have:=hf.le hi (by simpa using hlt)
  unfold lbM at this;omega
 refine List.pairwise_append.2 ⟨h.sublist (List.take_sublist _ _),List.pairwise_cons.2 ⟨hb,h.sublist (List.drop_sublist _ _)⟩,fun a h1 b h2=> ?_⟩
 rcases List.mem_cons.1 h2 with rfl|h2
 · exact ha a h1
 · exact lt_trans' (ha a h1) (hb b h2)
theorem ins_mem{α:Type}{l:List α}{k:Nat}{x y:α}:y∈l.take k++x::l.drop k↔y=x∨y∈l:=by
 have:y∈l↔y∈l.take k∨y∈l.drop k:=by rw[←List.mem_append,List.take_append_drop]
 rw[this]
 simp only[List.mem_append,List.mem_cons]
 constructor
 · rintro (h|h|h)
   · exact .inr (.inl h)
   · exact .inl h
   · exact .inr (.inr h)
 · rintro (h|h|h)
   · exact .inr (.inl h)
   · exact .inl h
   · exact .inr (.inr h)
def withM(c:Cat)(s:Stm):Cat:=
 if s.kind=1 then⟨c.ts.take (lbM (c.ts.map Tab.n) s.name)++⟨s.name,s.cols⟩::c.ts.drop (lbM (c.ts.map Tab.n) s.name),c.is⟩
 else if s.kind=2 then⟨c.ts,c.is.take (lbM (c.is.map Idx.n) s.name)++⟨s.name,s.table,s.col⟩::c.is.drop (lbM (c.is.map Idx.n) s.name)⟩
 else if s.kind=3 then⟨c.ts.filter (fun x=> !(x.n==s.name)),c.is.filter (fun x=> !(x.tb==s.name))⟩
 else c
theorem idx_stays{c d:Cat}(hc:(c.ts.map Tab.n).Pairwise (· < ·))(hd:(d.ts.map Tab.n).Pairwise (· < ·)){x:Idx}(h:namedM x.n=true∧(findT c x.tb).2=true∧0≤colM (findT c x.tb).1 x.co)(hm:(findT c x.tb).1∈d.ts):
 namedM x.n=true∧(findT d x.tb).2=true∧0≤colM (findT d x.tb).1 x.co:=by
 obtain⟨h1,h2,h3⟩:=h
 have e:=findT_of hd hm
 rw[(findT_in h2).2] at e
 rw[e]
 exact⟨h1,rfl,h3⟩
theorem withL_create{c:Cat}{s:Stm}(h:GoodC c)(hk:s.kind=1)(hg:goodTabM ⟨s.name,s.cols⟩=true)(hn:(findT c s.name).2=false)(hl:c.ts.length<3):GoodC (withM c s)∧(findT (withM c s) s.name).2=true:=by
 have e:withM c s=⟨c.ts.take (lbM (c.ts.map Tab.n) s.name)++⟨s.name,s.cols⟩::c.ts.drop (lbM (c.ts.map Tab.n) s.name),c.is⟩:=by simp[withM,hk]
 rw[e]
 have hr:((c.ts.take (lbM (c.ts.map Tab.n) s.name)++⟨s.name,s.cols⟩::c.ts.drop (lbM (c.ts.map Tab.n) s.name):List Tab).map Tab.n).Pairwise (· < ·):=by
  rw[List.map_append,List.map_cons,List.map_take,List.map_drop]
  exact ins_rises h.tn (fun hm=>by obtain⟨t,ht,he⟩:=List.mem_map.1 hm;exact findT_none.1 hn t ht he)
 refine⟨⟨fun t ht=> ?_,hr,fun x hx=>idx_stays h.tn hr (h.idx x hx) ?_,h.xn,?_,h.il⟩,findT_some.2 ⟨⟨s.name,s.cols⟩,ins_mem.2 (.inl rfl),rfl⟩⟩
 · rcases ins_mem.1 ht with rfl|ht
   · exact hg
   · exact h.tabs t ht
 · exact ins_mem.2 (.inr (findT_in (h.idx x hx).2.1).1)
 · simp only[List.length_append,List.length_take,List.length_cons,List.length_drop];omega
theorem withL_mark{c:Cat}{s:Stm}(h:GoodC c)(hk:s.kind=2)(hg:namedM s.name=true)(ht:(findT c s.table).2=true)(hcol:0≤colM (findT c s.table).1 s.col)(hn: ∀x∈c.is,x.n≠s.name)(hl:c.is.length<4):GoodC (withM c s):=by
 have e:withM c s=⟨c.ts,c.is.take (lbM (c.is.map Idx.n) s.name)++⟨s.name,s.table,s.col⟩::c.is.drop (lbM (c.is.map Idx.n) s.name)⟩:=by simp[withM,hk]
 rw[e]
 refine⟨h.tabs,h.tn,fun x hx=> ?_,?_,h.tl,?_⟩
 · rcases ins_mem.1 hx with rfl|hx
   · exact⟨hg,ht,hcol⟩
   · exact h.idx x hx
 · rw[List.map_append,List.map_cons,List.map_take,List.map_drop]
   exact ins_rises h.xn (fun hm=>by obtain⟨t,ht,he⟩:=List.mem_map.1 hm;exact hn t ht he)
 · simp only[List.length_append,List.length_take,List.length_cons,List.length_drop];omega
theorem withL_drop{c:Cat}{s:Stm}(h:GoodC c)(hk:s.kind=3):GoodC (withM c s)∧(findT (withM c s) s.name).2=false:=by
 have e:withM c s=⟨c.ts.filter (fun x=> !(x.n==s.name)),c.is.filter (fun x=> !(x.tb==s.name))⟩:=by simp[withM,hk]
 rw[e]
 have hr:((c.ts.filter (fun x=> !(x.n==s.name))).map Tab.n).Pairwise (· < ·):=h.tn.sublist (List.Sublist.map _ (List.filter_sublist))
 refine⟨⟨fun t ht=>h.tabs t (List.mem_filter.1 ht).1,hr,fun x hx=> ?_,h.xn.sublist (List.Sublist.map _ (List.filter_sublist)),Nat.le_trans (List.length_filter_le _ _) h.tl,Nat.le_trans (List.length_filter_le _ _) h.il⟩,?_⟩
 · obtain⟨hx1,hx2⟩:=List.mem_filter.1 hx
   refine idx_stays h.tn hr (h.idx x hx1) (List.mem_filter.2 ⟨(findT_in (h.idx x hx1).2.1).1,?_⟩)
   rw[(findT_in (h.idx x hx1).2.1).2];exact hx2
 · refine findT_none.2 (fun t ht=> ?_)
   have:=(List.mem_filter.1 ht).2
   simpa using this
theorem bound_pre{c:Cat}{s b:Stm}(h:bindStM c s=(b,0)):formM c s=true∧preM c s=(b,0):=by
 unfold bindStM at h
 split at h
 · cases h
 · rename_i hf
   split at h
   · rename_i h1;exact absurd (Prod.mk.inj h).2 h1
   · rename_i h1
     simp only[ne_eq,Decidable.not_not] at h1
     exact⟨by simpa using hf,by rw[←h];exact Prod.ext rfl h1⟩
theorem form_kind{c:Cat}{s:Stm}(h:formM c s=true):1≤s.kind∧s.kind≤7:=by
 simp only[formM,Bool.not_eq_true',Bool.or_eq_false_iff,decide_eq_false_iff_not] at h
 obtain⟨⟨⟨_,h1⟩,h2⟩,_⟩:=h
 omega
theorem choose_kind(c:Cat)(s:Stm):(chooseM c s).1.kind=s.kind∧(chooseM c s).1.name=s.name:=by
 unfold chooseM
 refine⟨?_,?_⟩<;>dsimp only<;>repeat' split
 all_goals rfl
theorem change_kind(s:Stm)(t:Tab):(changeM s t).1.kind=s.kind∧(changeM s t).1.name=s.name:=by
 unfold changeM
 repeat' split
 all_goals exact⟨rfl,rfl⟩
theorem kind_kept{c:Cat}{s b:Stm}(h:preM c s=(b,0)):b.kind=s.kind∧b.name=s.name:=by
 have e:b=(preM c s).1:=by rw[h]
 rw[e]
 unfold preM
 split
 · exact⟨rfl,rfl⟩
 split
 · exact⟨rfl,rfl⟩
 split
 · exact⟨rfl,rfl⟩
 split
 · exact choose_kind c s
 split
 · exact change_kind s _
 · exact⟨rfl,rfl⟩
structure WithLaw (c:Cat) (s b:Stm):Prop where
 good:GoodC (withM c b)
 crt:s.kind=1→(findT (withM c b) s.name).2=true
 drp:s.kind=3→(findT (withM c b) s.name).2=false
 len:s.kind≤3→ ¬(c.ts.length=(withM c b).ts.length∧c.is.length=(withM c b).is.length)
 tne:b.kind=2∨b.kind=3→c.ts≠ []
 base:GoodC c
theorem with_law{c:Cat}{s b:Stm}(h:bindStM c s=(b,0)):WithLaw c s b:=by
 obtain⟨hf,hp⟩:=bound_pre h
 have hg:=(goodC_iff c).1 (form_good hf).1
 obtain⟨hk1,hk7⟩:=form_kind hf
 obtain⟨hbk,hbn⟩:=kind_kept hp
 by_cases h1:s.kind=1
 · have he:createE c s=0∧b=s:=by
    unfold preM at hp;rw[if_pos h1] at hp
    exact⟨(Prod.mk.inj hp).2,(Prod.mk.inj hp).1.symm⟩
   obtain⟨he,rfl⟩:=he
   unfold createE at he
   split at he
   · cases he
   · rename_i a1
     split at he
     · cases he
     · rename_i a2
       split at he
       · cases he
       · rename_i a3
         obtain⟨w1,w2⟩:=withL_create hg h1 (by simpa using a1) (by simpa using a2) (by omega)
         refine⟨w1,fun _=>w2,fun h3=>by omega,fun _ hl=> ?_,fun hh=>by omega,hg⟩
         have:=hl.1
         simp only[withM,h1,if_pos,List.length_append,List.length_take,List.length_cons,List.length_drop] at this
         omega
 by_cases h2:s.kind=2
 · have he:markE c s=0∧b=s:=by
    unfold preM at hp;rw[if_neg h1,if_pos h2] at hp
    exact⟨(Prod.mk.inj hp).2,(Prod.mk.inj hp).1.symm⟩
   obtain⟨he,rfl⟩:=he
   unfold markE at he
   split at he
   · cases he
   · rename_i a1
     split at he
     · cases he
     · rename_i a2
       split at he
       · cases he
       · rename_i a3
         split at he
         · cases he
         · rename_i a4
           simp only[not_or,Bool.not_eq_false,Int.not_lt] at a2
           have w:=withL_mark hg h2 (by simpa using a1) a2.1 a2.2 (fun x hx e=>a3 (List.any_eq_true.2 ⟨x,hx,by simpa using e⟩)) (by omega)
           refine⟨w,fun h=>by omega,fun h=>by omega,fun _ hl=> ?_,fun _ e=> ?_,hg⟩
           · have:=hl.2
             simp only[withM,h1,h2,if_pos,if_neg,List.length_append,List.length_take,List.length_cons,List.length_drop] at this
             simp at this
             omega
           · have:=(findT_in a2.1).1;rw[e] at this;cases this
 by_cases h3:s.kind=3
 · have he:(findT c s.name).2=true∧b=s:=by
    unfold preM at hp;rw[if_neg h1,if_neg h2,if_pos h3] at hp
    refine⟨?_,(Prod.mk.inj hp).1.symm⟩
    have:=(Prod.mk.inj hp).2
    split at this
    · assumption
    · cases this
   obtain⟨he,rfl⟩:=he
   obtain⟨w1,w2⟩:=withL_drop hg h3
   refine⟨w1,fun h=>by omega,fun _=>w2,fun _ hl=> ?_,fun _ e=> ?_,hg⟩
   · have:=hl.1
     have e:(withM c b).ts=c.ts.filter (fun x=> !(x.n==b.name)):=by simp[withM,h3]
     rw[e] at this
     have h4:=List.length_filter_eq_length_iff.1 this.symm
     have:=h4 _ (findT_in he).1
     rw[(findT_in he).2] at this
     simp at this
   · have:=(findT_in he).1;rw[e] at this;cases this
 · have e:withM c b=c:=by simp only[withM,hbk,h1,h2,h3,if_false]
   exact⟨by rw[e];exact hg,fun h=>absurd h h1,fun h=>absurd h h3,fun h=>by omega,fun hh=>by omega,hg⟩
end Go.Proofs.YthcjohcakdnmmaaGreatDoor
