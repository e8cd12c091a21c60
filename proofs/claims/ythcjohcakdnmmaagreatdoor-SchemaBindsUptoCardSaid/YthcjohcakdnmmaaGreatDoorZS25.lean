/- Several texts in one, each with its own sentence ahead of it. Conditions: each one says its own. -/
import Derived.Test.YthcjohcakdnmmaaGreatDoorZS24
set_option linter.all false
namespace Go.Proofs.YthcjohcakdnmmaaGreatDoor
open Go.Abs
set_option maxRecDepth 100000
attribute [local irreducible] L Code.wp bodyPost Exit.then Exit.inBlock
set_option linter.unusedVariables false
set_option linter.unusedSimpArgs false
def fromOne(c:Cat)(frm:List Str)(p:Str×Nat):Tab×Int:=
 if(findT c p.1).2=false then((findT c p.1).1,3)
 else if(frm.take p.2).any (fun y=>p.1==y) then((findT c p.1).1,4) else((findT c p.1).1,0)
theorem fromOne_tab(c:Cat)(frm:List Str)(p:Str×Nat):(fromOne c frm p).1=(findT c p.1).1:=by
 unfold fromOne
 split
 · rfl
 · split<;>rfl
def refE(t:Tab)(a:Nat)(p:Col×Nat):Ex:= .mk 2 nilV t.n p.1.n ((a:Int)+(p.2:Int)) []
def allOut:List Tab→Nat→List Ex
 | [],_=> []
 |t::ts,a=>t.cols.zipIdx.map (refE t a)++allOut ts (a+t.cols.length)
def atM(ts:List Tab):Nat:=(ts.map fun t=>t.cols.length).sum
theorem allOut_app: ∀(x y:List Tab) (a:Nat),allOut (x++y) a=allOut x a++allOut y (a+atM x)
 | [],y,a=>by simp[allOut,atM]
 |t::x,y,a=>by
  have e:a+t.cols.length+atM x=a+atM (t::x):=by simp only[atM,List.map_cons,List.sum_cons];omega
  rw[List.cons_append,allOut,allOut_app x y,allOut,List.append_assoc,e]
theorem allOut_len: ∀(x:List Tab) (a:Nat),(allOut x a).length=atM x
 | [],a=>rfl
 |t::x,a=>by rw[allOut,List.length_append,allOut_len x];simp[atM]
theorem atM_app(x y:List Tab):atM (x++y)=atM x+atM y:=by simp[atM]
theorem atM_le: ∀{x:List Tab},(∀t∈x,t.cols.length≤1000)→atM x≤x.length*1000
 | [],_=>by simp[atM]
 |t::x,h=>by
  have h1:=h t (List.mem_cons_self ..)
  have h2:=atM_le (x:=x) (fun t ht=>h t (List.mem_cons_of_mem _ ht))
  simp only[atM,List.map_cons,List.sum_cons,List.length_cons] at*
  omega
def chooseM(c:Cat)(s:Stm):Stm×Int:=
 if s.frm.length<1∨2<s.frm.length then(s,1)
 else if errM (s.frm.zipIdx.map fun p=>(fromOne c s.frm p).2)≠0 then(s,errM (s.frm.zipIdx.map fun p=>(fromOne c s.frm p).2))
 else
  let all:=s.frm.zipIdx.map fun p=>(fromOne c s.frm p).1
  if errM (s.out.map fun x=>(bindM all x).2.2)≠0 then(s,errM (s.out.map fun x=>(bindM all x).2.2))
  else if errM (s.ord.map fun x=>(bindM all x).2.2)≠0 then(s,errM (s.ord.map fun x=>(bindM all x).2.2))
  else({s with out:=if s.out= [] then allOut all 0 else s.out.map fun x=>(bindM all x).1,ord:=s.ord.map fun x=>(bindM all x).1,wh:=(whereM all s.wh).1},(whereM all s.wh).2)
set_option maxHeartbeats 16000000 in
theorem choose_any(c:Cat)(s:Stm)(hok:s.Ok)(hct:c.ts.length≤1000)(hcc: ∀name,(findT c name).1.cols.length≤1000)(hwh:s.wh.Ok):
 CallA Tryz.prog 30 [.agg (c.c.map .iv),.agg (s.cs.map .iv)] [] [] [] (.tup [.agg ((chooseM c s).1.cs.map .iv),.iv (I (chooseM c s).2)]):=by
 have htot:=hok.tot
 have hall:=hok.all
 clear hok
 obtain⟨kind,name,table,col,cols,rows,sets,frm,out,wh,ord,down,n⟩:=s
 dsimp only at htot hwh
 have hout: ∀x∈out,x.Ok:=fun x hx=>(hall x (by unfold exprsM;simp only[List.mem_append];exact .inl (.inl (.inl (.inl hx))))).ok
 have hord: ∀x∈ord,x.Ok:=fun x hx=>(hall x (by unfold exprsM;simp only[List.mem_append];exact .inl (.inl (.inl (.inr hx))))).ok
 have hu1:out.length*104≤140737488355328:=by generalize rows.flatten.length=z at htot;omega
 have ho1:ord.length*104≤140737488355328:=by generalize rows.flatten.length=z at htot;omega
 have hu2:out.length≤1353245080340:=by clear htot;omega
 have ho2:ord.length≤1353245080340:=by clear htot;omega
 clear hall htot
 unfold chooseM
 dsimp only
 have lf:((frm.map Str.c).length:Int)=(frm.length:Int):=by simp
 refine CallG.toA (CallG.intro _ Tryz.func30 rfl Tryz.ntmps30 rfl (fun w0 E0 hG=> ?_))
 by_cases hfl:frm.length<1∨2<frm.length
 · rw[if_pos hfl]
   cases hl1:decide (((frm.map Str.c).length:Int)<1) with
   |true=>
    (repeat' (first|refine wk1 ?_|refine wk2 (fun hb hp=> ?_) (fun hb hp=> ?_)|fail))
    all_goals refine wkf ?_
    all_goals rfl
   |false=>
    have hl2:decide ((2:Int)<((frm.map Str.c).length:Int))=true:=by
     have:=of_decide_eq_false hl1
     rw[lf] at this⊢
     exact decide_eq_true (by omega)
    (repeat' (first|refine wk1 ?_|refine wk2 (fun hb hp=> ?_) (fun hb hp=> ?_)|fail))
    all_goals refine wkf ?_
    all_goals rfl
 rw[if_neg hfl]
 have hl1:decide (((frm.map Str.c).length:Int)<1)=false:=by rw[lf];exact decide_eq_false (by omega)
 have hl2:decide ((2:Int)<((frm.map Str.c).length:Int))=false:=by rw[lf];exact decide_eq_false (by omega)
 have hf2:frm.length≤2:=by omega
 (repeat' (first|refine wk1 ?_|refine wk2 (fun hb hp=> ?_) (fun hb hp=> ?_)|fail))
 refine L.adopt 6 (s:=6) (t:=47) (k:=2) rfl rfl rfl ?_
 refine L.loopP (ι:=Nat) (fun i=>⟨[(44,aI (i:Int)),(43,aI ((frm.map Str.c).length:Int)),(42,.iv (.sl (frm.map Str.c))),(6,.row 6 (((frm.zipIdx.take i).map fun p=>(fromOne c frm p).1).map Tab.c)),(2,.ptr 2 0),(3,.ptr 3 0),(4,.ptr 4 0),(5,aI 0)],
  [(2,⟨25,.l (c.c.map .iv)⟩),(3,⟨36,.l ((Stm.cs ⟨kind,name,table,col,cols,rows,sets,frm,out,wh,ord,down,n⟩).map .iv)⟩),(4,⟨36,.l nilStA⟩)],[(6,⟨47,2⟩)]⟩) (fun i=>frm.length - i) (fun i=> ∀p∈frm.zipIdx.take i,(fromOne c frm p).2=0) (i0:=0) ?_ (by simp) ?_
 · exact wkk
 intro i hI K hK
 cases hx:frm[i]? with
 |some x=>
  have hlt:=ltT (l:=frm.map Str.c) (getF (f:=Str.c) hx)
  have hlt':=ltN hx
  have hz:=zip_at hx
  have g1:(frm.map Str.c)[((i:Nat):Int).toNat]?=some [S x]:=by rw[Int.toNat_natCast,List.getElem?_map,hx];rfl
  have kf:=findTable_any c x (by omega)
  have hcx:=hcc x
  have hone:fromOne c frm (x,i)=if(findT c x).2=false then((findT c x).1,3) else if(frm.take i).any (fun y=>x==y) then((findT c x).1,4) else((findT c x).1,0):=rfl
  have hE:(fromOne c frm (x,i)).2≠0→errM (frm.zipIdx.map fun p=>(fromOne c frm p).2)=(fromOne c frm (x,i)).2:=fun h=>errT_at (g:=fun p=>(fromOne c frm p).2) hI hz h
  have k1s: ∀e∈frm.map Str.c,e.length=1:=fun e he=>by obtain⟨y,_,rfl⟩:=List.mem_map.1 he;rfl
  have hsl2:(frm.map Str.c).take ((i:Nat):Int).toNat=(frm.take i).map Str.c:=by rw[Int.toNat_natCast,List.map_take]
  have lis:((i:Nat):Int)≤(frm.map Str.c).length:=by rw[lf];omega
  have kc:=containsS_any (frm.take i) x (by rw[List.length_take];omega)
  have n1:(((frm.zipIdx.take (i+1)).map fun p=>(fromOne c frm p).1).map Tab.c)=((frm.zipIdx.take i).map fun p=>(fromOne c frm p).1).map Tab.c++ [(fromOne c frm (x,i)).1.c]:=by rw[takeC hz,List.map_append,List.map_append];rfl
  have hI':=takeT_snoc (g:=fun p=>(fromOne c frm p).2) hI hz
  have l1:(((frm.zipIdx.take i).map fun p=>(fromOne c frm p).1).map Tab.c).length+1≤2:=by rw[List.length_map,List.length_map,List.length_take,List.length_zipIdx];omega
  have bm:(((frm.zipIdx.take i).map fun p=>(fromOne c frm p).1).map Tab.c).length+1≤maxLen:=Nat.le_trans l1 (by rw[maxL];decide)
  have bb:((((frm.zipIdx.take i).map fun p=>(fromOne c frm p).1).map Tab.c).length+1)*40≤225000000000000:=Nat.le_trans (Nat.mul_le_mul_right 40 l1) (by decide)
  have k1: ∀e∈((frm.zipIdx.take i).map fun p=>(fromOne c frm p).1).map Tab.c,e.length=2:=fun e he=>by obtain⟨y,_,rfl⟩:=List.mem_map.1 he;rfl
  cases hb:(findT c x).2 with
  |false=>
   rw[hb,if_pos rfl] at hone
   rw[hb] at kf
   rw[hE (by rw[hone];exact(by decide:(3:Int)≠0)),hone,if_pos (show(3:Int)≠0 by decide)]
   generalize (findT c x).1=tt at*
   (repeat' (first|refine wk1 ?_|refine wk2 (fun hb hp=> ?_) (fun hb hp=> ?_)|fail))
   all_goals refine wkf ?_
   all_goals rfl
  |true=>
  rw[hb,if_neg (by decide)] at hone
  rw[hb] at kf
  cases hm:(frm.take i).any (fun y=>x==y) with
  |true=>
   rw[hm,if_pos rfl] at hone
   rw[hm] at kc
   rw[hE (by rw[hone];exact(by decide:(4:Int)≠0)),hone,if_pos (show(4:Int)≠0 by decide)]
   generalize (findT c x).1=tt at*
   (repeat' (first|(refine LW.is ?_;first|(apply s_vr;exact rfl;apply v_sliceVh;exact rfl;exact rfl;exact k1s;omega;exact lis;exact hsl2))|(refine DR.is ?_;first|(apply d_vr;exact rfl;apply v_sliceVh;exact rfl;exact rfl;exact k1s;omega;exact lis;exact hsl2))|refine wk1 ?_|refine wk2 (fun hb hp=> ?_) (fun hb hp=> ?_)|fail))
   all_goals refine wkf ?_
   all_goals rfl
  |false=>
  rw[hm,if_neg (by decide)] at hone
  rw[hm] at kc
  rw[hone] at hI' n1
  have hI2:=hI' rfl
  clear hI'
  generalize (findT c x).1=tt at*
  clear hone hE
  generalize ((frm.zipIdx.take i).map fun p=>(fromOne c frm p).1).map Tab.c=es at*
  (repeat' (first|(refine LW.is ?_;first|(apply s_vr;exact rfl;apply v_sliceVh;exact rfl;exact rfl;exact k1s;omega;exact lis;exact hsl2)|(apply s_append;exact rfl;exact rfl;exact rfl;exact rfl;exact k1;exact len_cons rfl len_nil;exact bm;exact bb;exact rfl;exact rfl))|(refine DR.is ?_;first|(apply d_vr;exact rfl;apply v_sliceVh;exact rfl;exact rfl;exact k1s;omega;exact lis;exact hsl2)|(apply d_append;exact rfl;exact rfl;exact rfl;exact rfl;exact k1;exact len_cons rfl len_nil;exact bm;exact bb;exact rfl;exact rfl))|refine wk1 ?_|refine wk2 (fun hb hp=> ?_) (fun hb hp=> ?_)|fail))
  refine L.onlyS [44,43,42,6,2,3,4,5] [2,3,4] rfl ?_
  refine L.retok 6 68 6 rfl rfl rfl rfl ?_
  refine hK _ (i+1) hI2 (by omega) (Wk.mk' (by intro id h;cases h) (.cons rfl (Sub.refl _) (.cons rfl (Sub.refl _) (.cons rfl (Sub.refl _) (.cons rfl (Sub.of_eq (congrArg (AV.row 6) n1.symm)) (.cons rfl (Sub.refl _) (.cons rfl (Sub.refl _) (.cons rfl (Sub.refl _) (.cons rfl (Sub.refl _) .nil)))))))) (.cons rfl rfl (Subs.refl _) (.cons rfl rfl (Subs.refl _) (.cons rfl rfl (Subs.refl _) .nil))) (.cons rfl .nil))
 |none=>
 have hlt:=ltF (l:=frm.map Str.c) (getFN hx)
 have hzn:=zip_none hx
 rw[take_all hzn] at hI⊢
 have he0:errM (frm.zipIdx.map fun p=>(fromOne c frm p).2)=0:=errT_no hI
 rw[he0,if_neg (by decide)]
 have hsc:Sc (frm.zipIdx.map fun p=>(fromOne c frm p).1):=⟨by rw[List.length_map,List.length_zipIdx];omega,fun t ht=>by
  obtain⟨p,_,rfl⟩:=List.mem_map.1 ht
  rw[fromOne_tab];exact hcc p.1⟩
 have hal:(frm.zipIdx.map fun p=>(fromOne c frm p).1).length≤2:=by rw[List.length_map,List.length_zipIdx];omega
 clear hK hI hx hzn he0
 generalize (frm.zipIdx.map fun p=>(fromOne c frm p).1)=all at*
 (repeat' (first|refine wk1 ?_|refine wk2 (fun hb hp=> ?_) (fun hb hp=> ?_)|fail))
 refine L.adopt 11 (s:=11) (t:=34) (k:=8) rfl rfl rfl ?_
 refine L.loopP (ι:=Nat) (fun j=>⟨[(73,aI (j:Int)),(72,aI ((out.map Ex.c).length:Int)),(71,.iv (.sl (out.map Ex.c))),(11,.row 11 (((out.take j).map fun x=>(bindM all x).1).map Ex.c)),(6,.iv (.sl (all.map Tab.c))),(2,.ptr 2 0),(3,.ptr 3 0),(4,.ptr 4 0),(5,aI 0)],
  [(2,⟨25,.l (c.c.map .iv)⟩),(3,⟨36,.l ((Stm.cs ⟨kind,name,table,col,cols,rows,sets,frm,out,wh,ord,down,n⟩).map .iv)⟩),(4,⟨36,.l nilStA⟩)],[(11,⟨34,8⟩)]⟩) (fun j=>out.length - j) (fun j=> ∀x∈out.take j,(bindM all x).2.2=0) (i0:=0) ?_ (by simp) ?_
 · exact Wk.mk' (by intro id h;cases h) (.cons rfl (Sub.refl _) (.cons rfl (Sub.refl _) (.cons rfl (Sub.refl _) (.cons rfl (Sub.refl _) (.cons rfl (Sub.row _ _) (.cons rfl (Sub.refl _) (.cons rfl (Sub.refl _) (.cons rfl (Sub.refl _) (.cons rfl (Sub.refl _) .nil))))))))) (.cons rfl rfl (Subs.refl _) (.cons rfl rfl (Subs.refl _) (.cons rfl rfl (Subs.refl _) .nil))) (.cons rfl .nil)
 intro j hJ K hK
 cases hx:out[j]? with
 |some x=>
  have jlt:=ltT (l:=out.map Ex.c) (getF (f:=Ex.c) hx)
  have jlt':=ltN hx
  have kx:=bind_any all hsc x (hout x (List.mem_of_getElem? hx))
  have g2:(out.map Ex.c)[((j:Nat):Int).toNat]?=some [I x.op,I x.v.k,I x.v.n,S x.v.s,S x.s,S x.name,I x.n,.sl (x.l.map Ex.c)]:=by rw[Int.toNat_natCast,List.getElem?_map,hx];exact congrArg some (Ex.c_cs x)
  have n1:((out.take (j+1)).map fun x=>(bindM all x).1).map Ex.c=((out.take j).map fun x=>(bindM all x).1).map Ex.c++ [(bindM all x).1.cs]:=by rw[takeC hx,List.map_append,List.map_append];exact congrArg _ (by simp[Ex.c_cs])
  have l1:(((out.take j).map fun x=>(bindM all x).1).map Ex.c).length+1≤out.length:=by rw[List.length_map,List.length_map,List.length_take];omega
  have bm:(((out.take j).map fun x=>(bindM all x).1).map Ex.c).length+1≤maxLen:=Nat.le_trans l1 (Nat.le_trans hu2 (by rw[maxL];decide))
  have bb:((((out.take j).map fun x=>(bindM all x).1).map Ex.c).length+1)*104≤225000000000000:=Nat.le_trans (Nat.mul_le_mul_right 104 l1) (Nat.le_trans hu1 (by decide))
  by_cases hf:(bindM all x).2.2=0
  · have hJ':=takeT_snoc (g:=fun x=>(bindM all x).2.2) hJ hx hf
    have k1:=lenE ((out.take j).map fun x=>(bindM all x).1)
    generalize bindM all x=m at*
    obtain⟨e,ty,f⟩:=m
    dsimp only at hf kx n1
    subst hf
    generalize ((out.take j).map fun x=>(bindM all x).1).map Ex.c=es at*
    (repeat' (first|(refine LW.is ?_;first|(apply s_append;exact rfl;exact rfl;exact rfl;exact rfl;exact k1;exact len_cons rfl len_nil;exact bm;exact bb;exact rfl;exact rfl))|(refine DR.is ?_;first|(apply d_append;exact rfl;exact rfl;exact rfl;exact rfl;exact k1;exact len_cons rfl len_nil;exact bm;exact bb;exact rfl;exact rfl))|refine wk1 ?_|refine wk2 (fun hb hp=> ?_) (fun hb hp=> ?_)|fail))
    refine L.onlyS [73,72,71,11,6,2,3,4,5] [2,3,4] rfl ?_
    refine L.retok 11 91 11 rfl rfl rfl rfl ?_
    refine hK _ (j+1) hJ' (by omega) (Wk.mk' (by intro id h;cases h) (.cons rfl (Sub.refl _) (.cons rfl (Sub.refl _) (.cons rfl (Sub.refl _) (.cons rfl (Sub.of_eq (congrArg (AV.row 11) n1.symm)) (.cons rfl (Sub.refl _) (.cons rfl (Sub.refl _) (.cons rfl (Sub.refl _) (.cons rfl (Sub.refl _) (.cons rfl (Sub.refl _) .nil))))))))) (.cons rfl rfl (Subs.refl _) (.cons rfl rfl (Subs.refl _) (.cons rfl rfl (Subs.refl _) .nil))) (.cons rfl .nil))
  · have he:errM (out.map fun x=>(bindM all x).2.2)=(bindM all x).2.2:=errT_at (g:=fun x=>(bindM all x).2.2) hJ hx hf
    rw[he,if_pos hf]
    generalize bindM all x=m at*
    obtain⟨e,ty,f⟩:=m
    dsimp only at hf kx⊢
    have q:(f !=0)=true:=by simpa using hf
    (repeat' (first|refine wk1 ?_|refine wk2 (fun hb hp=> ?_) (fun hb hp=> ?_)|fail))
    all_goals refine wkf ?_
    all_goals rfl
 |none=>
 have jlt:=ltF (l:=out.map Ex.c) (getFN hx)
 rw[take_all hx] at hJ⊢
 have he:errM (out.map fun x=>(bindM all x).2.2)=0:=errT_no hJ
 rw[he,if_neg (by decide)]
 clear hK hJ hx he
 by_cases hnil:out= []
 · subst hnil
   rw[if_pos rfl]
   (repeat' (first|refine wk1 ?_|refine wk2 (fun hb hp=> ?_) (fun hb hp=> ?_)|fail))
   refine L.loopP (ι:=Nat) (fun i=>⟨[(99,aI (i:Int)),(98,aI ((all.map Tab.c).length:Int)),(97,.iv (.sl (all.map Tab.c))),(17,aI (atM (all.take i):Int)),(11,.row 11 ((allOut (all.take i) 0).map Ex.c)),(6,.iv (.sl (all.map Tab.c))),(2,.ptr 2 0),(3,.ptr 3 0),(4,.ptr 4 0),(5,aI 0)],
    [(2,⟨25,.l (c.c.map .iv)⟩),(3,⟨36,.l ((Stm.cs ⟨kind,name,table,col,cols,rows,sets,frm,[],wh,ord,down,n⟩).map .iv)⟩),(4,⟨36,.l nilStA⟩)],[(11,⟨34,8⟩)]⟩) (fun i=>all.length - i) (fun i=>True) (i0:=0) ?_ trivial ?_
   · exact wkk
   intro i _ K hK
   cases hx:all[i]? with
   |some t=>
    have ilt:=ltT (l:=all.map Tab.c) (getF (f:=Tab.c) hx)
    have ilt':=ltN hx
    have g2:(all.map Tab.c)[((i:Nat):Int).toNat]?=some [S t.n,.sl (t.cols.map Col.c)]:=by rw[Int.toNat_natCast,List.getElem?_map,hx];rfl
    have htc:=hsc.c t (List.mem_of_getElem? hx)
    have hat:atM (all.take i)≤2000:=by
     have h1:=atM_le (x:=all.take i) (fun t ht=>hsc.c t (List.mem_of_mem_take ht))
     rw[List.length_take] at h1;omega
    have ha2:atM (all.take (i+1))=atM (all.take i)+t.cols.length:=by rw[takeC hx,atM_app];simp[atM]
    have ho3:allOut (all.take (i+1)) 0=allOut (all.take i) 0++t.cols.zipIdx.map (refE t (atM (all.take i))):=by rw[takeC hx,allOut_app,Nat.zero_add];simp[allOut]
    have hol:(allOut (all.take i) 0).length=atM (all.take i):=allOut_len _ _
    generalize allOut (all.take i) 0=OO at*
    generalize atM (all.take i)=a at*
    (repeat' (first|refine wk1 ?_|refine wk2 (fun hb hp=> ?_) (fun hb hp=> ?_)|fail))
    refine L.loopP (ι:=Nat) (fun k=>⟨[(106,aI (k:Int)),(105,aI ((t.cols.map Col.c).length:Int)),(104,.iv (.sl (t.cols.map Col.c))),(19,.ptr 19 0),(99,aI (i:Int)),(98,aI ((all.map Tab.c).length:Int)),(97,.iv (.sl (all.map Tab.c))),(17,aI (a:Int)),(11,.row 11 ((OO++(t.cols.zipIdx.take k).map (refE t a)).map Ex.c)),(6,.iv (.sl (all.map Tab.c))),(2,.ptr 2 0),(3,.ptr 3 0),(4,.ptr 4 0),(5,aI 0)],
     [(19,⟨47,.l (t.c.map .iv)⟩),(2,⟨25,.l (c.c.map .iv)⟩),(3,⟨36,.l ((Stm.cs ⟨kind,name,table,col,cols,rows,sets,frm,[],wh,ord,down,n⟩).map .iv)⟩),(4,⟨36,.l nilStA⟩)],[(11,⟨34,8⟩)]⟩) (fun k=>t.cols.length - k) (fun k=>True) (i0:=0) ?_ trivial ?_
    · exact Wk.mk' (by intro id h;cases h) (.cons rfl (Sub.refl _) (.cons rfl (Sub.refl _) (.cons rfl (Sub.refl _) (.cons rfl (Sub.refl _) (.cons rfl (Sub.refl _) (.cons rfl (Sub.refl _) (.cons rfl (Sub.refl _) (.cons rfl (Sub.refl _) (.cons rfl (Sub.of_eq (congrArg (AV.row 11) (by simp))) (.cons rfl (Sub.refl _) (.cons rfl (Sub.refl _) (.cons rfl (Sub.refl _) (.cons rfl (Sub.refl _) (.cons rfl (Sub.refl _) .nil)))))))))))))) (.cons rfl rfl (Subs.refl _) (.cons rfl rfl (Subs.refl _) (.cons rfl rfl (Subs.refl _) (.cons rfl rfl (Subs.refl _) .nil)))) (.cons rfl .nil)
    intro k _ K2 hK2
    cases hy:t.cols[k]? with
    |some x=>
     have klt:=ltT (l:=t.cols.map Col.c) (getF (f:=Col.c) hy)
     have klt':=ltN hy
     have g3:(t.cols.map Col.c)[((k:Nat):Int).toNat]?=some [S x.n,I x.t,.im (.bool x.m)]:=by rw[Int.toNat_natCast,List.getElem?_map,hy];rfl
     have n1:((OO++(t.cols.zipIdx.take (k+1)).map (refE t a)).map Ex.c)=(OO++(t.cols.zipIdx.take k).map (refE t a)).map Ex.c++ [(refE t a (x,k)).cs]:=by rw[takeC (zip_at hy)];simp only[List.map_append,List.map_cons,List.map_nil,List.append_assoc];rw[Ex.c_cs (refE t a (x,k))]
     have l1:((OO++(t.cols.zipIdx.take k).map (refE t a)).map Ex.c).length+1≤4000:=by rw[List.length_map,List.length_append,List.length_map,List.length_take,List.length_zipIdx];omega
     have bm:((OO++(t.cols.zipIdx.take k).map (refE t a)).map Ex.c).length+1≤maxLen:=Nat.le_trans l1 (by rw[maxL];decide)
     have bb:(((OO++(t.cols.zipIdx.take k).map (refE t a)).map Ex.c).length+1)*104≤225000000000000:=Nat.le_trans (Nat.mul_le_mul_right 104 l1) (by decide)
     have k1:=lenE (OO++(t.cols.zipIdx.take k).map (refE t a))
     generalize (OO++(t.cols.zipIdx.take k).map (refE t a)).map Ex.c=es at*
     (repeat' (first|(refine LW.is ?_;first|(apply s_append;exact rfl;exact rfl;exact rfl;exact rfl;exact k1;exact len_cons rfl len_nil;exact bm;exact bb;exact rfl;exact rfl))|(refine DR.is ?_;first|(apply d_append;exact rfl;exact rfl;exact rfl;exact rfl;exact k1;exact len_cons rfl len_nil;exact bm;exact bb;exact rfl;exact rfl))|refine wk1 ?_|refine wk2 (fun hb hp=> ?_) (fun hb hp=> ?_)|fail))
     refine L.onlyS [106,105,104,19,99,98,97,17,11,6,2,3,4,5] [19,2,3,4] rfl ?_
     refine L.retok 11 121 11 rfl rfl rfl rfl ?_
     refine hK2 _ (k+1) trivial (by omega) (Wk.mk' (by intro id h;cases h) (.cons rfl (Sub.refl _) (.cons rfl (Sub.refl _) (.cons rfl (Sub.refl _) (.cons rfl (Sub.refl _) (.cons rfl (Sub.refl _) (.cons rfl (Sub.refl _) (.cons rfl (Sub.refl _) (.cons rfl (Sub.refl _) (.cons rfl (Sub.of_eq (congrArg (AV.row 11) n1.symm)) (.cons rfl (Sub.refl _) (.cons rfl (Sub.refl _) (.cons rfl (Sub.refl _) (.cons rfl (Sub.refl _) (.cons rfl (Sub.refl _) .nil)))))))))))))) (.cons rfl rfl (Subs.refl _) (.cons rfl rfl (Subs.refl _) (.cons rfl rfl (Subs.refl _) (.cons rfl rfl (Subs.refl _) .nil)))) (.cons rfl .nil))
    |none=>
     have klt:=ltF (l:=t.cols.map Col.c) (getFN hy)
     rw[take_all (zip_none hy)]
     have lc:((t.cols.map Col.c).length:Int)=(t.cols.length:Int):=by simp
     (repeat' (first|(refine LW.is ?_;first|(apply s_vr;exact rfl;apply v_addI;exact rfl;exact rfl;(rw[lc];omega);(rw[lc];omega)))|(refine DR.is ?_;first|(apply d_vr;exact rfl;apply v_addI;exact rfl;exact rfl;(rw[lc];omega);(rw[lc];omega)))|refine wk1 ?_|refine wk2 (fun hb hp=> ?_) (fun hb hp=> ?_)|fail))
     refine hK _ (i+1) trivial (by omega) (Wk.mk' (by intro id h;cases h) (.cons rfl (Sub.refl _) (.cons rfl (Sub.refl _) (.cons rfl (Sub.refl _) (.cons rfl (Sub.of_eq (by rw[ha2,Int.natCast_add,←lc])) (.cons rfl (Sub.of_eq (by rw[ho3])) (.cons rfl (Sub.refl _) (.cons rfl (Sub.refl _) (.cons rfl (Sub.refl _) (.cons rfl (Sub.refl _) (.cons rfl (Sub.refl _) .nil)))))))))) (.cons rfl rfl (Subs.refl _) (.cons rfl rfl (Subs.refl _) (.cons rfl rfl (Subs.refl _) .nil))) (.cons rfl .nil))
   |none=>
    have ilt:=ltF (l:=all.map Tab.c) (getFN hx)
    rw[take_all hx]
    clear hK hx
    generalize allOut all 0=OUT at*
    (repeat' (first|refine wk1 ?_|refine wk2 (fun hb hp=> ?_) (fun hb hp=> ?_)|fail))
    refine L.adopt 22 (s:=22) (t:=34) (k:=8) rfl rfl rfl ?_
    refine L.loopP (ι:=Nat) (fun j=>⟨[(132,aI (j:Int)),(131,aI ((ord.map Ex.c).length:Int)),(130,.iv (.sl (ord.map Ex.c))),(22,.row 22 (((ord.take j).map fun x=>(bindM all x).1).map Ex.c)),(11,.iv (.sl (OUT.map Ex.c))),(6,.iv (.sl (all.map Tab.c))),(2,.ptr 2 0),(3,.ptr 3 0),(4,.ptr 4 0),(5,aI 0)],
     [(2,⟨25,.l (c.c.map .iv)⟩),(3,⟨36,.l ((Stm.cs ⟨kind,name,table,col,cols,rows,sets,frm,[],wh,ord,down,n⟩).map .iv)⟩),(4,⟨36,.l nilStA⟩)],[(22,⟨34,8⟩)]⟩) (fun j=>ord.length - j) (fun j=> ∀x∈ord.take j,(bindM all x).2.2=0) (i0:=0) ?_ (by simp) ?_
    · exact Wk.mk' (by intro id h;cases h) (.cons rfl (Sub.refl _) (.cons rfl (Sub.refl _) (.cons rfl (Sub.refl _) (.cons rfl (Sub.refl _) (.cons rfl (Sub.row _ _) (.cons rfl (Sub.refl _) (.cons rfl (Sub.refl _) (.cons rfl (Sub.refl _) (.cons rfl (Sub.refl _) (.cons rfl (Sub.refl _) .nil)))))))))) (.cons rfl rfl (Subs.refl _) (.cons rfl rfl (Subs.refl _) (.cons rfl rfl (Subs.refl _) .nil))) (.cons rfl .nil)
    intro j hJ K hK
    cases hx:ord[j]? with
    |some x=>
     have jlt:=ltT (l:=ord.map Ex.c) (getF (f:=Ex.c) hx)
     have jlt':=ltN hx
     have kx:=bind_any all hsc x (hord x (List.mem_of_getElem? hx))
     have g2:(ord.map Ex.c)[((j:Nat):Int).toNat]?=some [I x.op,I x.v.k,I x.v.n,S x.v.s,S x.s,S x.name,I x.n,.sl (x.l.map Ex.c)]:=by rw[Int.toNat_natCast,List.getElem?_map,hx];exact congrArg some (Ex.c_cs x)
     have n1:((ord.take (j+1)).map fun x=>(bindM all x).1).map Ex.c=((ord.take j).map fun x=>(bindM all x).1).map Ex.c++ [(bindM all x).1.cs]:=by rw[takeC hx,List.map_append,List.map_append];exact congrArg _ (by simp[Ex.c_cs])
     have l1:(((ord.take j).map fun x=>(bindM all x).1).map Ex.c).length+1≤ord.length:=by rw[List.length_map,List.length_map,List.length_take];omega
     have bm:(((ord.take j).map fun x=>(bindM all x).1).map Ex.c).length+1≤maxLen:=Nat.le_trans l1 (Nat.le_trans ho2 (by rw[maxL];decide))
     have bb:((((ord.take j).map fun x=>(bindM all x).1).map Ex.c).length+1)*104≤225000000000000:=Nat.le_trans (Nat.mul_le_mul_right 104 l1) (Nat.le_trans ho1 (by decide))
     by_cases hf:(bindM all x).2.2=0
     · have hJ':=takeT_snoc (g:=fun x=>(bindM all x).2.2) hJ hx hf
       have k1:=lenE ((ord.take j).map fun x=>(bindM all x).1)
       generalize bindM all x=m at*
       obtain⟨e,ty,f⟩:=m
       dsimp only at hf kx n1
       subst hf
       generalize ((ord.take j).map fun x=>(bindM all x).1).map Ex.c=es at*
       (repeat' (first|(refine LW.is ?_;first|(apply s_append;exact rfl;exact rfl;exact rfl;exact rfl;exact k1;exact len_cons rfl len_nil;exact bm;exact bb;exact rfl;exact rfl))|(refine DR.is ?_;first|(apply d_append;exact rfl;exact rfl;exact rfl;exact rfl;exact k1;exact len_cons rfl len_nil;exact bm;exact bb;exact rfl;exact rfl))|refine wk1 ?_|refine wk2 (fun hb hp=> ?_) (fun hb hp=> ?_)|fail))
       refine L.onlyS [132,131,130,22,11,6,2,3,4,5] [2,3,4] rfl ?_
       refine L.retok 22 150 22 rfl rfl rfl rfl ?_
       refine hK _ (j+1) hJ' (by omega) (Wk.mk' (by intro id h;cases h) (.cons rfl (Sub.refl _) (.cons rfl (Sub.refl _) (.cons rfl (Sub.refl _) (.cons rfl (Sub.of_eq (congrArg (AV.row 22) n1.symm)) (.cons rfl (Sub.refl _) (.cons rfl (Sub.refl _) (.cons rfl (Sub.refl _) (.cons rfl (Sub.refl _) (.cons rfl (Sub.refl _) (.cons rfl (Sub.refl _) .nil)))))))))) (.cons rfl rfl (Subs.refl _) (.cons rfl rfl (Subs.refl _) (.cons rfl rfl (Subs.refl _) .nil))) (.cons rfl .nil))
     · have he:errM (ord.map fun x=>(bindM all x).2.2)=(bindM all x).2.2:=errT_at (g:=fun x=>(bindM all x).2.2) hJ hx hf
       rw[he,if_pos hf]
       generalize bindM all x=m at*
       obtain⟨e,ty,f⟩:=m
       dsimp only at hf kx⊢
       have q:(f !=0)=true:=by simpa using hf
       (repeat' (first|refine wk1 ?_|refine wk2 (fun hb hp=> ?_) (fun hb hp=> ?_)|fail))
       all_goals refine wkf ?_
       all_goals rfl
    |none=>
     have jlt:=ltF (l:=ord.map Ex.c) (getFN hx)
     rw[take_all hx] at hJ⊢
     have he:errM (ord.map fun x=>(bindM all x).2.2)=0:=errT_no hJ
     rw[he,if_neg (by decide)]
     clear hK hJ hx he
     generalize (ord.map fun x=>(bindM all x).1)=ORD at*
     have kw:=where_any all hsc wh hwh
     generalize whereM all wh=W at*
     obtain⟨W1,W2⟩:=W
     (repeat' (first|refine wk1 ?_|refine wk2 (fun hb hp=> ?_) (fun hb hp=> ?_)|fail))
     all_goals refine wkf ?_
     all_goals rfl
 · rw[if_neg hnil]
   have hlo:((((out.map Ex.c).length:Nat):Int)==0)=false:=by
    have:out.length≠0:=fun h=>hnil (List.length_eq_zero_iff.1 h)
    simp;exact hnil
   generalize (out.map fun x=>(bindM all x).1)=OUT at*
   (repeat' (first|refine wk1 ?_|refine wk2 (fun hb hp=> ?_) (fun hb hp=> ?_)|fail))
   refine L.adopt 22 (s:=22) (t:=34) (k:=8) rfl rfl rfl ?_
   refine L.loopP (ι:=Nat) (fun j=>⟨[(132,aI (j:Int)),(131,aI ((ord.map Ex.c).length:Int)),(130,.iv (.sl (ord.map Ex.c))),(22,.row 22 (((ord.take j).map fun x=>(bindM all x).1).map Ex.c)),(11,.iv (.sl (OUT.map Ex.c))),(6,.iv (.sl (all.map Tab.c))),(2,.ptr 2 0),(3,.ptr 3 0),(4,.ptr 4 0),(5,aI 0)],
    [(2,⟨25,.l (c.c.map .iv)⟩),(3,⟨36,.l ((Stm.cs ⟨kind,name,table,col,cols,rows,sets,frm,out,wh,ord,down,n⟩).map .iv)⟩),(4,⟨36,.l nilStA⟩)],[(22,⟨34,8⟩)]⟩) (fun j=>ord.length - j) (fun j=> ∀x∈ord.take j,(bindM all x).2.2=0) (i0:=0) ?_ (by simp) ?_
   · exact Wk.mk' (by intro id h;cases h) (.cons rfl (Sub.refl _) (.cons rfl (Sub.refl _) (.cons rfl (Sub.refl _) (.cons rfl (Sub.refl _) (.cons rfl (Sub.row _ _) (.cons rfl (Sub.refl _) (.cons rfl (Sub.refl _) (.cons rfl (Sub.refl _) (.cons rfl (Sub.refl _) (.cons rfl (Sub.refl _) .nil)))))))))) (.cons rfl rfl (Subs.refl _) (.cons rfl rfl (Subs.refl _) (.cons rfl rfl (Subs.refl _) .nil))) (.cons rfl .nil)
   intro j hJ K hK
   cases hx:ord[j]? with
   |some x=>
    have jlt:=ltT (l:=ord.map Ex.c) (getF (f:=Ex.c) hx)
    have jlt':=ltN hx
    have kx:=bind_any all hsc x (hord x (List.mem_of_getElem? hx))
    have g2:(ord.map Ex.c)[((j:Nat):Int).toNat]?=some [I x.op,I x.v.k,I x.v.n,S x.v.s,S x.s,S x.name,I x.n,.sl (x.l.map Ex.c)]:=by rw[Int.toNat_natCast,List.getElem?_map,hx];exact congrArg some (Ex.c_cs x)
    have n1:((ord.take (j+1)).map fun x=>(bindM all x).1).map Ex.c=((ord.take j).map fun x=>(bindM all x).1).map Ex.c++ [(bindM all x).1.cs]:=by rw[takeC hx,List.map_append,List.map_append];exact congrArg _ (by simp[Ex.c_cs])
    have l1:(((ord.take j).map fun x=>(bindM all x).1).map Ex.c).length+1≤ord.length:=by rw[List.length_map,List.length_map,List.length_take];omega
    have bm:(((ord.take j).map fun x=>(bindM all x).1).map Ex.c).length+1≤maxLen:=Nat.le_trans l1 (Nat.le_trans ho2 (by rw[maxL];decide))
    have bb:((((ord.take j).map fun x=>(bindM all x).1).map Ex.c).length+1)*104≤225000000000000:=Nat.le_trans (Nat.mul_le_mul_right 104 l1) (Nat.le_trans ho1 (by decide))
    by_cases hf:(bindM all x).2.2=0
    · have hJ':=takeT_snoc (g:=fun x=>(bindM all x).2.2) hJ hx hf
      have k1:=lenE ((ord.take j).map fun x=>(bindM all x).1)
      generalize bindM all x=m at*
      obtain⟨e,ty,f⟩:=m
      dsimp only at hf kx n1
      subst hf
      generalize ((ord.take j).map fun x=>(bindM all x).1).map Ex.c=es at*
      (repeat' (first|(refine LW.is ?_;first|(apply s_append;exact rfl;exact rfl;exact rfl;exact rfl;exact k1;exact len_cons rfl len_nil;exact bm;exact bb;exact rfl;exact rfl))|(refine DR.is ?_;first|(apply d_append;exact rfl;exact rfl;exact rfl;exact rfl;exact k1;exact len_cons rfl len_nil;exact bm;exact bb;exact rfl;exact rfl))|refine wk1 ?_|refine wk2 (fun hb hp=> ?_) (fun hb hp=> ?_)|fail))
      refine L.onlyS [132,131,130,22,11,6,2,3,4,5] [2,3,4] rfl ?_
      refine L.retok 22 150 22 rfl rfl rfl rfl ?_
      refine hK _ (j+1) hJ' (by omega) (Wk.mk' (by intro id h;cases h) (.cons rfl (Sub.refl _) (.cons rfl (Sub.refl _) (.cons rfl (Sub.refl _) (.cons rfl (Sub.of_eq (congrArg (AV.row 22) n1.symm)) (.cons rfl (Sub.refl _) (.cons rfl (Sub.refl _) (.cons rfl (Sub.refl _) (.cons rfl (Sub.refl _) (.cons rfl (Sub.refl _) (.cons rfl (Sub.refl _) .nil)))))))))) (.cons rfl rfl (Subs.refl _) (.cons rfl rfl (Subs.refl _) (.cons rfl rfl (Subs.refl _) .nil))) (.cons rfl .nil))
    · have he:errM (ord.map fun x=>(bindM all x).2.2)=(bindM all x).2.2:=errT_at (g:=fun x=>(bindM all x).2.2) hJ hx hf
      rw[he,if_pos hf]
      generalize bindM all x=m at*
      obtain⟨e,ty,f⟩:=m
      dsimp only at hf kx⊢
      have q:(f !=0)=true:=by simpa using hf
      (repeat' (first|refine wk1 ?_|refine wk2 (fun hb hp=> ?_) (fun hb hp=> ?_)|fail))
      all_goals refine wkf ?_
      all_goals rfl
   |none=>
    have jlt:=ltF (l:=ord.map Ex.c) (getFN hx)
    rw[take_all hx] at hJ⊢
    have he:errM (ord.map fun x=>(bindM all x).2.2)=0:=errT_no hJ
    rw[he,if_neg (by decide)]
    clear hK hJ hx he
    generalize (ord.map fun x=>(bindM all x).1)=ORD at*
    have kw:=where_any all hsc wh hwh
    generalize whereM all wh=W at*
    obtain⟨W1,W2⟩:=W
    (repeat' (first|refine wk1 ?_|refine wk2 (fun hb hp=> ?_) (fun hb hp=> ?_)|fail))
    all_goals refine wkf ?_
    all_goals rfl
end Go.Proofs.YthcjohcakdnmmaaGreatDoor
namespace Go.Proofs.YthcjohcakdnmmaaGreatDoor
open Go.Abs
set_option maxRecDepth 100000
attribute [local irreducible] L Code.wp bodyPost Exit.then Exit.inBlock
set_option linter.unusedVariables false
set_option linter.unusedSimpArgs false
def createE(c:Cat)(s:Stm):Int:=if goodTabM ⟨s.name,s.cols⟩=false then 1 else if(findT c s.name).2 then 4 else if 3≤c.ts.length then 8 else 0
def markE(c:Cat)(s:Stm):Int:=
 if namedM s.name=false then 1
 else if(findT c s.table).2=false∨colM (findT c s.table).1 s.col<0 then 3
 else if c.is.any (fun x=>x.n==s.name) then 4 else if 4≤c.is.length then 8 else 0
def preM(c:Cat)(s:Stm):Stm×Int:=
 if s.kind=1 then(s,createE c s)
 else if s.kind=2 then(s,markE c s)
 else if s.kind=3 then(s,if(findT c s.name).2 then 0 else 3)
 else if s.kind=7 then chooseM c s
 else if(findT c s.table).2 then changeM s (findT c s.table).1 else(s,3)
def formM(c:Cat)(s:Stm):Bool:= !(((!goodCatM c||decide (s.kind<1))||decide (7<s.kind))||(exprsM s).any (fun e=> !goodExM 1 e))
def bindStM(c:Cat)(s:Stm):Stm×Int:=
 if formM c s=false then(nilSt,1) else if(preM c s).2≠0 then(nilSt,(preM c s).2) else((preM c s).1,0)
theorem goodCat_find{c:Cat}(h:goodCatM c=true):c.ts.length≤3∧c.is.length≤4∧ ∀name,(findT c name).1.cols.length≤4:=by
 simp only[goodCatM,Bool.and_eq_true,decide_eq_true_eq] at h
 obtain⟨h1,h2,h3,h4⟩:=h
 refine⟨by omega,by omega,fun name=> ?_⟩
 unfold findT
 cases hf:c.ts.find? (fun t=>t.n==name) with
 |none=>simp
 |some t=>
  obtain⟨i,hi⟩:=List.getElem?_of_mem (List.mem_of_find?_eq_some hf)
  have:=List.all_eq_true.1 h1 (t,i) (List.mem_iff_getElem?.2 ⟨i,by simp[List.getElem?_zipIdx,hi]⟩)
  simp only[tabOk,Bool.not_eq_true',Bool.or_eq_false_iff,Bool.not_eq_false'] at this
  have hg:=this.1
  simp only[goodTabM,Bool.and_eq_true,decide_eq_true_eq] at hg
  exact hg.2.2.2.1
theorem bind1f_any(e:Ex)(hok:e.OkS):CallG gs0 Tryz.prog 24 [.agg (e.cs.map .iv)] [] [] [] (aB (!goodExM 1 e)):=by
 have k:=goodEx_any e hok 1 (by decide) (by decide)
 refine CallG.intro _ Tryz.func24 rfl Tryz.ntmps24 rfl (fun w0 E0 hG=> ?_)
 (repeat' (first|refine wk1 ?_|refine wk2 (fun hb hp=> ?_) (fun hb hp=> ?_)|fail))
 all_goals refine wkf ?_
 all_goals rfl
theorem bind2f_any{gs:Globs}(x:Idx)(s:Stm):
 CallG gs Tryz.prog 28 [.agg (x.c.map .iv),.ptr 1000 0] [(1000,⟨36,.l (s.cs.map .iv)⟩)] [(1000,⟨36,.l (s.cs.map .iv)⟩)] [] (aB (x.n==s.name)):=by
 refine CallG.intro _ Tryz.func28 rfl Tryz.ntmps28 rfl (fun w0 E0 hG=> ?_)
 (repeat' (first|refine wk1 ?_|refine wk2 (fun hb hp=> ?_) (fun hb hp=> ?_)|fail))
 all_goals(apply L.ends;exact rfl;exact rfl;exact Sub.refl _;exact Wk.mk' (by intro id h;simp[keys] at h;subst h;rfl) .nil (.cons rfl rfl (Subs.refl _) .nil) .nil)
set_option maxHeartbeats 16000000 in
theorem bindSt_any(c:Cat)(hc:c.Ok)(s:Stm)(hok:s.Ok):
 CallG gs0 Tryz.prog 6 [.agg (c.c.map .iv),.agg (s.cs.map .iv)] [] [] [] (.tup [.agg ((bindStM c s).1.cs.map .iv),.iv (I (bindStM c s).2)]):=by
 have kg:=goodCat_any c hc
 have ke:=exprs_any s hok
 have kc:=containsE0_any (gs:=gs0) (f:=24) (fun e=> !goodExM 1 e) (exprsM s) ?hel (fun e he=>bind1f_any e (hok.all e he))
 case hel=>
  have h:=hok.tot
  unfold exprsM
  simp only[List.length_append,List.length_map]
  have:(if s.wh.op=0 then([]:List Ex) else [s.wh]).length≤1:=by split<;>simp
  generalize s.rows.flatten.length=z at*
  omega
 have kfT:=findTable_any c s.table hc.t
 have kfN:=findTable_any c s.name hc.t
 have knN:=named_any s.name hok.name
 have hgt:(⟨s.name,s.cols⟩:Tab).Ok:=⟨hok.name,hok.cols,hok.cn⟩
 have kgt:=goodTable_any ⟨s.name,s.cols⟩ hgt
 have kx:=containsX_any (gs:=gs0) (f:=28) (b:=⟨36,.l (s.cs.map .iv)⟩) (fun x=>x.n==s.name) c.is hc.i rfl rfl (fun x _=>bind2f_any x s)
 unfold bindStM
 refine CallG.intro _ Tryz.func6 rfl Tryz.ntmps6 rfl (fun w0 E0 hG=> ?_)
 cases hg:goodCatM c with
 |false=>
  rw[hg] at kg
  rw[show formM c s=false by simp[formM,hg],if_pos rfl]
  (repeat' (first|refine wk1 ?_|refine wk2 (fun hb hp=> ?_) (fun hb hp=> ?_)|fail))
  all_goals refine wkf ?_
  all_goals rfl
 |true=>
 rw[hg] at kg
 obtain⟨hct,hci,hcc⟩:=goodCat_find hg
 have kch:=choose_any c s hok (by omega) (fun name=>Nat.le_trans (hcc name) (by decide)) hok.wh.ok
 have kcg:=change_any s hok (findT c s.table).1 (Nat.le_trans (hcc s.table) (by decide)) hok.wh.ok
 cases h1:decide (s.kind<1) with
 |true=>
  rw[show formM c s=false by simp[formM,hg,h1],if_pos rfl]
  (repeat' (first|refine wk1 ?_|refine wk2 (fun hb hp=> ?_) (fun hb hp=> ?_)|fail))
  all_goals refine wkf ?_
  all_goals rfl
 |false=>
 cases h2:decide (7<s.kind) with
 |true=>
  rw[show formM c s=false by simp[formM,hg,h1,h2],if_pos rfl]
  (repeat' (first|refine wk1 ?_|refine wk2 (fun hb hp=> ?_) (fun hb hp=> ?_)|fail))
  all_goals refine wkf ?_
  all_goals rfl
 |false=>
 cases h3:(exprsM s).any (fun e=> !goodExM 1 e) with
 |true=>
  rw[h3] at kc
  rw[show formM c s=false by simp[formM,hg,h1,h2,h3],if_pos rfl]
  (repeat' (first|refine wk1 ?_|refine wk2 (fun hb hp=> ?_) (fun hb hp=> ?_)|fail))
  all_goals refine wkf ?_
  all_goals rfl
 |false=>
 rw[h3] at kc
 rw[show formM c s=true by simp[formM,hg,h1,h2,h3],if_neg (by decide)]
 have hk:s.kind=1∨s.kind=2∨s.kind=3∨s.kind=4∨s.kind=5∨s.kind=6∨s.kind=7:=by
  have:=of_decide_eq_false h1
  have:=of_decide_eq_false h2
  omega
 have lts:((c.ts.map Tab.c).length:Int)=(c.ts.length:Int):=by simp
 have lis:((c.is.map Idx.c).length:Int)=(c.is.length:Int):=by simp
 have q0:((0:Int) !=0)=false:=rfl
 rcases hk with hk|hk|hk|hk|hk|hk|hk
 ·
  rw[show preM c s=(s,createE c s) by rw[preM,if_pos hk]]
  obtain⟨kind,name,table,col,cols,rows,sets,frm,out,wh,ord,down,n⟩:=s
  dsimp only at hk kg ke kc kfT kfN knN kgt kx⊢
  subst hk
  clear kch kcg hcc hgt hok
  unfold createE
  dsimp only
  generalize findT c table=ft at*
  generalize findT c name=fn at*
  obtain⟨tt,is⟩:=ft
  obtain⟨tn,twice⟩:=fn
  dsimp only at*
  cases hq:goodTabM ⟨name,cols⟩ with
  |false=>
   rw[hq] at kgt
   rw[if_pos rfl,if_pos (show(1:Int)≠0 by decide)]
   (repeat' (first|refine wk1 ?_|refine wk2 (fun hb hp=> ?_) (fun hb hp=> ?_)|fail))
   all_goals refine wkf ?_
   all_goals rfl
  |true=>
  rw[hq] at kgt
  rw[if_neg (show¬(true=false) by decide)]
  cases twice with
  |true=>
   rw[if_pos rfl,if_pos (show(4:Int)≠0 by decide)]
   (repeat' (first|refine wk1 ?_|refine wk2 (fun hb hp=> ?_) (fun hb hp=> ?_)|fail))
   all_goals refine wkf ?_
   all_goals rfl
  |false=>
  rw[if_neg (show¬(false=true) by decide)]
  by_cases h3:3≤c.ts.length
  · have q3:decide ((3:Int)≤((c.ts.map Tab.c).length:Int))=true:=decide_eq_true (by rw[lts];omega)
    rw[if_pos h3,if_pos (show(8:Int)≠0 by decide)]
    (repeat' (first|refine wk1 ?_|refine wk2 (fun hb hp=> ?_) (fun hb hp=> ?_)|fail))
    all_goals refine wkf ?_
    all_goals rfl
  · have q3:decide ((3:Int)≤((c.ts.map Tab.c).length:Int))=false:=decide_eq_false (by rw[lts];omega)
    rw[if_neg h3,if_neg (show¬((0:Int)≠0) by decide)]
    (repeat' (first|refine wk1 ?_|refine wk2 (fun hb hp=> ?_) (fun hb hp=> ?_)|fail))
    all_goals refine wkf ?_
    all_goals rfl
 ·
  rw[show preM c s=(s,markE c s) by rw[preM,if_neg (by rw[hk];decide),if_pos hk]]
  have kcol:=findCol_any (findT c s.table).1 s.col (Nat.le_trans (hcc s.table) (by decide))
  obtain⟨kind,name,table,col,cols,rows,sets,frm,out,wh,ord,down,n⟩:=s
  dsimp only at hk kg ke kc kfT kfN knN kgt kx kcol⊢
  subst hk
  clear kch kcg hcc hgt hok kgt kfN
  unfold markE
  dsimp only
  generalize findT c table=ft at*
  obtain⟨tt,is⟩:=ft
  dsimp only at*
  cases hq:namedM name with
  |false=>
   rw[hq] at knN
   rw[if_pos rfl,if_pos (show(1:Int)≠0 by decide)]
   (repeat' (first|(refine LW.is ?_;first|(apply s_vr;exact rfl;apply v_makeFunc;exact rfl)|(apply s_callG1 (q:=3);exact rfl;exact hG;exact kx;exact rfl;exact rfl;exact rfl;exact rfl;exact rfl;exact rfl;exact rfl))|(refine DR.is ?_;first|(apply d_vr;exact rfl;apply v_makeFunc;exact rfl)|(apply d_callG1 (q:=3);exact rfl;exact hG;exact kx;exact rfl;exact rfl;exact rfl;exact rfl;exact rfl;exact rfl;exact rfl))|refine wk1 ?_|refine wk2 (fun hb hp=> ?_) (fun hb hp=> ?_)|fail))
   all_goals refine wkf ?_
   all_goals rfl
  |true=>
  rw[hq] at knN
  rw[if_neg (show¬(true=false) by decide)]
  cases is with
  |false=>
   rw[if_pos (show(false=false∨colM tt col<0) from .inl rfl),if_pos (show(3:Int)≠0 by decide)]
   (repeat' (first|(refine LW.is ?_;first|(apply s_vr;exact rfl;apply v_makeFunc;exact rfl)|(apply s_callG1 (q:=3);exact rfl;exact hG;exact kx;exact rfl;exact rfl;exact rfl;exact rfl;exact rfl;exact rfl;exact rfl))|(refine DR.is ?_;first|(apply d_vr;exact rfl;apply v_makeFunc;exact rfl)|(apply d_callG1 (q:=3);exact rfl;exact hG;exact kx;exact rfl;exact rfl;exact rfl;exact rfl;exact rfl;exact rfl;exact rfl))|refine wk1 ?_|refine wk2 (fun hb hp=> ?_) (fun hb hp=> ?_)|fail))
   all_goals refine wkf ?_
   all_goals rfl
  |true=>
  by_cases hc0:colM tt col<0
  · have qc:decide (colM tt col<0)=true:=decide_eq_true hc0
    rw[if_pos (show(true=false∨colM tt col<0) from .inr hc0),if_pos (show(3:Int)≠0 by decide)]
    (repeat' (first|(refine LW.is ?_;first|(apply s_vr;exact rfl;apply v_makeFunc;exact rfl)|(apply s_callG1 (q:=3);exact rfl;exact hG;exact kx;exact rfl;exact rfl;exact rfl;exact rfl;exact rfl;exact rfl;exact rfl))|(refine DR.is ?_;first|(apply d_vr;exact rfl;apply v_makeFunc;exact rfl)|(apply d_callG1 (q:=3);exact rfl;exact hG;exact kx;exact rfl;exact rfl;exact rfl;exact rfl;exact rfl;exact rfl;exact rfl))|refine wk1 ?_|refine wk2 (fun hb hp=> ?_) (fun hb hp=> ?_)|fail))
    all_goals refine wkf ?_
    all_goals rfl
  have qc:decide (colM tt col<0)=false:=decide_eq_false hc0
  rw[if_neg (show¬(true=false∨colM tt col<0) by simp[hc0])]
  cases ha:c.is.any (fun x=>x.n==name) with
  |true=>
   rw[ha] at kx
   rw[if_pos rfl,if_pos (show(4:Int)≠0 by decide)]
   (repeat' (first|(refine LW.is ?_;first|(apply s_vr;exact rfl;apply v_makeFunc;exact rfl)|(apply s_callG1 (q:=3);exact rfl;exact hG;exact kx;exact rfl;exact rfl;exact rfl;exact rfl;exact rfl;exact rfl;exact rfl))|(refine DR.is ?_;first|(apply d_vr;exact rfl;apply v_makeFunc;exact rfl)|(apply d_callG1 (q:=3);exact rfl;exact hG;exact kx;exact rfl;exact rfl;exact rfl;exact rfl;exact rfl;exact rfl;exact rfl))|refine wk1 ?_|refine wk2 (fun hb hp=> ?_) (fun hb hp=> ?_)|fail))
   all_goals refine wkf ?_
   all_goals rfl
  |false=>
  rw[ha] at kx
  rw[if_neg (show¬(false=true) by decide)]
  by_cases h4:4≤c.is.length
  · have q3:decide ((4:Int)≤((c.is.map Idx.c).length:Int))=true:=decide_eq_true (by rw[lis];omega)
    rw[if_pos h4,if_pos (show(8:Int)≠0 by decide)]
    (repeat' (first|(refine LW.is ?_;first|(apply s_vr;exact rfl;apply v_makeFunc;exact rfl)|(apply s_callG1 (q:=3);exact rfl;exact hG;exact kx;exact rfl;exact rfl;exact rfl;exact rfl;exact rfl;exact rfl;exact rfl))|(refine DR.is ?_;first|(apply d_vr;exact rfl;apply v_makeFunc;exact rfl)|(apply d_callG1 (q:=3);exact rfl;exact hG;exact kx;exact rfl;exact rfl;exact rfl;exact rfl;exact rfl;exact rfl;exact rfl))|refine wk1 ?_|refine wk2 (fun hb hp=> ?_) (fun hb hp=> ?_)|fail))
    all_goals refine wkf ?_
    all_goals rfl
  · have q3:decide ((4:Int)≤((c.is.map Idx.c).length:Int))=false:=decide_eq_false (by rw[lis];omega)
    rw[if_neg h4,if_neg (show¬((0:Int)≠0) by decide)]
    (repeat' (first|(refine LW.is ?_;first|(apply s_vr;exact rfl;apply v_makeFunc;exact rfl)|(apply s_callG1 (q:=3);exact rfl;exact hG;exact kx;exact rfl;exact rfl;exact rfl;exact rfl;exact rfl;exact rfl;exact rfl))|(refine DR.is ?_;first|(apply d_vr;exact rfl;apply v_makeFunc;exact rfl)|(apply d_callG1 (q:=3);exact rfl;exact hG;exact kx;exact rfl;exact rfl;exact rfl;exact rfl;exact rfl;exact rfl;exact rfl))|refine wk1 ?_|refine wk2 (fun hb hp=> ?_) (fun hb hp=> ?_)|fail))
    all_goals refine wkf ?_
    all_goals rfl
 ·
  rw[show preM c s=(s,if(findT c s.name).2 then 0 else 3) by rw[preM,if_neg (by rw[hk];decide),if_neg (by rw[hk];decide),if_pos hk]]
  obtain⟨kind,name,table,col,cols,rows,sets,frm,out,wh,ord,down,n⟩:=s
  dsimp only at hk kg ke kc kfT kfN⊢
  subst hk
  clear kch kcg hcc hgt hok kgt knN kx
  generalize findT c table=ft at*
  generalize findT c name=fn at*
  obtain⟨tt,is⟩:=ft
  obtain⟨tn,there⟩:=fn
  dsimp only at*
  cases there with
  |false=>
   rw[if_pos (show((if false=true then(0:Int) else 3)≠0) by decide)]
   (repeat' (first|refine wk1 ?_|refine wk2 (fun hb hp=> ?_) (fun hb hp=> ?_)|fail))
   all_goals refine wkf ?_
   all_goals rfl
  |true=>
   rw[if_neg (show¬((if true=true then(0:Int) else 3)≠0) by decide)]
   (repeat' (first|refine wk1 ?_|refine wk2 (fun hb hp=> ?_) (fun hb hp=> ?_)|fail))
   all_goals refine wkf ?_
   all_goals rfl
 iterate 3
  ·
   rw[show preM c s=if(findT c s.table).2 then changeM s (findT c s.table).1 else(s,3) by rw[preM,if_neg (by rw[hk];decide),if_neg (by rw[hk];decide),if_neg (by rw[hk];decide),if_neg (by rw[hk];decide)]]
   generalize hm:changeM s (findT c s.table).1=m at*
   obtain⟨kind,name,table,col,cols,rows,sets,frm,out,wh,ord,down,n⟩:=s
   dsimp only at hk kg ke kc kfT kcg⊢
   subst hk
   clear hm kch hcc hgt hok kgt knN kx kfN
   generalize findT c table=ft at*
   obtain⟨tt,is⟩:=ft
   obtain⟨m1,m2⟩:=m
   dsimp only at*
   cases is with
   |false=>
    rw[if_neg (show¬(false=true) by decide),if_pos (show(3:Int)≠0 by decide)]
    (repeat' (first|refine wk1 ?_|refine wk2 (fun hb hp=> ?_) (fun hb hp=> ?_)|fail))
    all_goals refine wkf ?_
    all_goals rfl
   |true=>
   rw[if_pos rfl]
   by_cases hm2:m2=0
   · subst hm2
     rw[if_neg (show¬((0:Int)≠0) by decide)]
     (repeat' (first|refine wk1 ?_|refine wk2 (fun hb hp=> ?_) (fun hb hp=> ?_)|fail))
     all_goals refine wkf ?_
     all_goals rfl
   · have qm:(m2 !=0)=true:=by simpa using hm2
     rw[if_pos hm2]
     (repeat' (first|refine wk1 ?_|refine wk2 (fun hb hp=> ?_) (fun hb hp=> ?_)|fail))
     all_goals refine wkf ?_
     all_goals rfl
 ·
  rw[show preM c s=chooseM c s by rw[preM,if_neg (by rw[hk];decide),if_neg (by rw[hk];decide),if_neg (by rw[hk];decide),if_pos hk]]
  generalize chooseM c s=m at*
  obtain⟨kind,name,table,col,cols,rows,sets,frm,out,wh,ord,down,n⟩:=s
  dsimp only at hk kg ke kc kfT kch⊢
  subst hk
  clear kcg hcc hgt hok kgt knN kx kfN
  generalize findT c table=ft at*
  obtain⟨tt,is⟩:=ft
  obtain⟨m1,m2⟩:=m
  dsimp only at*
  by_cases hm2:m2=0
  · subst hm2
    rw[if_neg (show¬((0:Int)≠0) by decide)]
    (repeat' (first|refine wk1 ?_|refine wk2 (fun hb hp=> ?_) (fun hb hp=> ?_)|fail))
    all_goals refine wkf ?_
    all_goals rfl
  · have qm:(m2 !=0)=true:=by simpa using hm2
    rw[if_pos hm2]
    (repeat' (first|refine wk1 ?_|refine wk2 (fun hb hp=> ?_) (fun hb hp=> ?_)|fail))
    all_goals refine wkf ?_
    all_goals rfl
end Go.Proofs.YthcjohcakdnmmaaGreatDoor
