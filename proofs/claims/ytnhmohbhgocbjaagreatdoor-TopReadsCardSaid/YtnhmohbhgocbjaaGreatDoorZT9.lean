/- Lemmas towards the law. Conditions: each one says its own. -/
import Derived.Test.YtnhmohbhgocbjaaGreatDoorZT8
set_option linter.all false
set_option maxHeartbeats 64000000
set_option maxRecDepth 100000
namespace Go.Proofs.Y
open Go.Abs Go.Proofs.Tryz
attribute [local irreducible] L Code.wp bodyPost Exit.then Exit.inBlock
def FZ(s name:Str)(t:Tab):Bool:=decide ((0:Int)≤aU t name) && (s== [] ||s==t.n)
def eT(t:Tab)(k:Int):Int:=(t.cols.getD k.toNat ⟨[],0,false⟩).t
def iE(s name:Str):List Tab→Int→Int→Int→Int×Int×Int
 | [],at_,place,kind=>if place<0 then(0,0,3) else(place,kind,0)
 |t::ts,at_,place,kind=>
  if FZ s name t then
   if 0≤place then(0,0,3) else iE s name ts (at_+t.cols.length) (at_+aU t name) (eT t (aU t name))
  else iE s name ts (at_+t.cols.length) place kind
def eF(ts:List Tab)(s name:Str):Int×Int×Int:=iE s name ts 0 (-1) 0
structure Sc (s:List Tab):Prop where
 l:s.length≤1000
 c: ∀t∈s,t.cols.length≤1000
def Sc.nil:Sc []:=⟨by decide,by simp⟩
def IG(ts:List Tab)(e:Ex)(hs:Sc ts):
 CallA prog 158 [.iv (.sl (ts.map Tab.c)),.agg (e.cs.map .iv)] [] [] [] (.tup [.iv (I (eF ts e.s e.name).1),.iv (I (eF ts e.s e.name).2.1),.iv (I (eF ts e.s e.name).2.2)]):=by
 obtain⟨op,v,s,name,n,l⟩:=e;have hc:(Ex.mk op v s name n l).cs= [I op,I v.k,I v.n,S v.s,S s,S name,I n,.sl (l.map Ex.c)]:=rfl;show CallA _ _ _ _ _ _ (.tup [.iv (I (eF ts s name).1),.iv (I (eF ts s name).2.1),.iv (I (eF ts s name).2.2)]);rw[hc];clear hc;have hl:=hs.l;refine iA func158 ntmps158 (fun w0 E0=> ?_);refine wz ?_;refine ae (ι:=Nat×Int×Int×Int) (fun i=>⟨[(15,aI (i.1:Int)),(14,aI ((ts.map Tab.c).length:Int)),(13,.iv (.sl (ts.map Tab.c))),(3,.ptr 3 0),(7,aI i.2.1),(8,aI i.2.2.1),(9,aI i.2.2.2)],
  [(3,⟨78,.l [.iv (I op),.iv (I v.k),.iv (I v.n),.iv (S v.s),.iv (S s),.iv (S name),.iv (I n),.iv (.sl (l.map Ex.c))]⟩)],[]⟩) (fun i=>ts.length - i.1)
  (fun i=>eF ts s name=iE s name (ts.drop i.1) i.2.1 i.2.2.1 i.2.2.2∧0≤i.2.1∧i.2.1≤1000*i.1∧ -1≤i.2.2.1∧i.2.2.1≤1000*i.1) (i0:=(0,0,-1,0)) ?_ ⟨rfl,by decide,by decide,by decide,by decide⟩ ?_
 · exact df
 rintro ⟨i,a,p,k⟩ ⟨hI,b1,b2,b3,b4⟩ K hK;dsimp only at hI b1 b2 b3 b4⊢;cases hx:ts[i]? with
 |none=>
  have hlt:=fa (l:=ts.map Tab.c) (bf hx);rw[oN hx,iE] at hI;by_cases hp0:p<0
  · rw[if_pos hp0] at hI;have q0:decide (p<0)=true:=decide_eq_true hp0;rw[hI];refine wz ?_;all_goals refine bn ?_
    all_goals rfl
  · rw[if_neg hp0] at hI;have q0:decide (p<0)=false:=decide_eq_false hp0;rw[hI];refine wz ?_;all_goals refine bn ?_
    all_goals rfl
 |some t=>
  have hlt:=eZ (l:=ts.map Tab.c) (cq (f:=Tab.c) hx);have hlt':=eP hx;have g1:(ts.map Tab.c)[((i:Nat):Int).toNat]?=some [S t.n,.sl (t.cols.map Col.c)]:=by rw[iN,gP,hx];rfl
  have htl:=hs.c t (gE hx);have kf:=eJ t name C;have lc:((t.cols.map Col.c).length:Int)=(t.cols.length:Int):=by simp
  have hran:=zG (fun c:Col=>c.n==name) t.cols;have hcm:aU t name=iB (fun c:Col=>c.n==name) t.cols:=rfl;rw[←hcm] at hran;rw[eS hx,iE] at hI;cases hh:FZ s name t with
  |false=>
   rw[hh,if_neg sP] at hI;unfold FZ at hh;have hres:(fun i:Nat×Int×Int×Int=>eF ts s name=iE s name (ts.drop i.1) i.2.1 i.2.2.1 i.2.2.2∧0≤i.2.1∧i.2.1≤1000*i.1∧ -1≤i.2.2.1∧i.2.2.1≤1000*i.1) (i+1,a+((t.cols.map Col.c).length:Int),p,k):=by
    refine⟨by rw[hI,lc],?_,?_,b3,?_⟩
    · dsimp only;omega
    · dsimp only;rw[lc];omega
    · dsimp only;omega
   cases h1:decide ((0:Int)≤aU t name) with
   |false=>
    refine wz ?_;refine hK _ (i+1,a+((t.cols.map Col.c).length:Int),p,k) hres oD ?_;exact df
   |true=>
    rw[h1,Bool.true_and,Bool.or_eq_false_iff] at hh;obtain⟨h2,h3⟩:=hh;refine wz ?_;refine hK _ (i+1,a+((t.cols.map Col.c).length:Int),p,k) hres oD ?_;exact df
  |true=>
   rw[hh,if_pos U] at hI;unfold FZ at hh;rw[aE,Bool.or_eq_true] at hh;obtain⟨h1,h23⟩:=hh;have h0:0≤aU t name:=of_decide_eq_true h1;have hki:(aU t name).toNat<t.cols.length:=by
    unfold aU at h0⊢;unfold iB at h0⊢;cases hf:t.cols.findIdx? (fun c:Col=>c.n==name) with
    |none=>rw[hf] at h0;simp only at h0;omega
    |some j=>have:=(List.findIdx?_eq_some_iff_getElem.1 hf).1;simpa using this
   have g2:(t.cols.map Col.c)[(aU t name).toNat]?=some [S (t.cols.getD (aU t name).toNat ⟨[],0,false⟩).n,I (t.cols.getD (aU t name).toNat ⟨[],0,false⟩).t,.im (.bool (t.cols.getD (aU t name).toNat ⟨[],0,false⟩).m)]:=by rw[gP,cV ⟨[],0,false⟩ hki];rfl
   have hh:(s== [] ||s==t.n)=true:=by rw[Bool.or_eq_true];exact h23
   by_cases hp0:0≤p
   · rw[if_pos hp0] at hI;have q0:decide (0≤p)=true:=decide_eq_true hp0;rw[hI];cases h2:s== [] with
     |true=>
      refine wz ?_;all_goals refine bn ?_
      all_goals rfl
     |false=>
      have h3:(s==t.n)=true:=by rw[h2,Bool.false_or] at hh;exact hh
      refine wz ?_;all_goals refine bn ?_
      all_goals rfl
   · rw[if_neg hp0] at hI;have q0:decide (0≤p)=false:=decide_eq_false hp0;have hct:eT t (aU t name)=(t.cols.getD (aU t name).toNat ⟨[],0,false⟩).t:=rfl;rw[hct] at hI;generalize t.cols.getD (aU t name).toNat ⟨[],0,false⟩=cc at*
     generalize aU t name=kk at*
     have hres:(fun i:Nat×Int×Int×Int=>eF ts s name=iE s name (ts.drop i.1) i.2.1 i.2.2.1 i.2.2.2∧0≤i.2.1∧i.2.1≤1000*i.1∧ -1≤i.2.2.1∧i.2.2.1≤1000*i.1) (i+1,a+((t.cols.map Col.c).length:Int),a+kk,cc.t):=by
      refine⟨by rw[hI,lc],?_,?_,?_,?_⟩
      · dsimp only;omega
      · dsimp only;rw[lc];omega
      · dsimp only;omega
      · dsimp only;omega
     cases h2:s== [] with
     |true=>
      (repeat' first|intro hb hp|(refine LW.is ?_;first|refine ag U (cd U U (by first|omega|exact h0) (by first|exact g1|exact g2) U) ?_)|(refine DR.is ?_;first|refine bk U (cd U U (by first|omega|exact h0) (by first|exact g1|exact g2) U) ?_)|refine am ?_|refine ak ?_ ?_|fail)
      refine hK _ (i+1,a+((t.cols.map Col.c).length:Int),a+kk,cc.t) hres oD ?_;exact df
     |false=>
      have h3:(s==t.n)=true:=by rw[h2,Bool.false_or] at hh;exact hh
      (repeat' first|intro hb hp|(refine LW.is ?_;first|refine ag U (cd U U (by first|omega|exact h0) (by first|exact g1|exact g2) U) ?_)|(refine DR.is ?_;first|refine bk U (cd U U (by first|omega|exact h0) (by first|exact g1|exact g2) U) ?_)|refine am ?_|refine ak ?_ ?_|fail)
      refine hK _ (i+1,a+((t.cols.map Col.c).length:Int),a+kk,cc.t) hres oD ?_;exact df
def xf(k:Int)(ts:List Int):Bool:= !(ts.any (fun t=>(t !=k) && (t !=0)))
def Ee{gs:au}(y k:Int):
 CallG gs prog 157 [aI y,.ptr 1000 0] [(1000,⟨3,.l [aI k]⟩)] [(1000,⟨3,.l [aI k]⟩)] [] (aB ((y !=k) && (y !=0))):=by
 refine iG func157 ntmps157 (fun w0 E0 hG=> ?_);cases h:y !=k
 · refine wz ?_;all_goals exact L.ends U U fR wK
 · refine wz ?_;all_goals exact L.ends U U fR wK
def Gt{gs:au}(k:Int)(ts:List Int)(hl:ts.length≤140737488355328):
 CallG gs prog 155 [aI k,.ptr 1000 0] [(1000,⟨147,.l [.iv (.sl (ts.map no))]⟩)] [(1000,⟨147,.l [.iv (.sl (ts.map no))]⟩)] [] (aB (xf k ts)):=by
 have kc:=xb (gs:=gs) (f:=157) (b:=⟨3,.l [aI k]⟩) (fun t=>(t !=k) && (t !=0)) ts hl U U (fun y _=>Ee y k);refine iG func155 ntmps155 (fun w0 E0 hG=> ?_);(repeat' first|intro hb hp|refine ag rfl (aA U) ?_|refine LW.is (fz (q:=2) U hG kc U U U U U U U ?_)|refine am ?_|refine ak ?_ ?_|fail)
 all_goals exact L.ends U U fR wK
abbrev BR:=Ex×Int×Int
def eG(l:List Int):Int:=(l.find? (fun f=>f !=0)).getD 0
def xe:BR:=(nilE,0,5)
def bV(ts:List Tab)(op:Int)(v:Val)(s name:Str)(n f:Int)(es:List Ex)(tys:List Int):BR:=
 if f≠0 then(nilE,0,f)
 else if op=1 then(.mk op v s name n es,v.k,0)
 else if op=2 then(.mk op v s name (eF ts s name).1 es,(eF ts s name).2.1,(eF ts s name).2.2)
 else if op=3∨op=4 then if xf 1 tys then(.mk op v s name n es,1,0) else xe
 else if op=5∨op=6 then if(xf 1 tys||xf 2 tys) then(.mk op v s name n es,3,0) else xe
 else if op=7∨op=8∨op=9 then if xf 3 tys then(.mk op v s name n es,3,0) else xe
 else if op=10 then(.mk op v s name n es,3,0)
 else xe
def an(ts:List Tab):Ex→BR
 | .mk op v s name n l=>bV ts op v s name n (eG ((l.attach.map fun x=>an ts x.1).map (·.2.2))) ((l.attach.map fun x=>an ts x.1).map (·.1)) ((l.attach.map fun x=>an ts x.1).map (·.2.1))
 decreasing_by
  all_goals
   have:=List.sizeOf_lt_of_mem x.2;simp;omega
def iL(ts:List Tab)(op:Int)(v:Val)(s name:Str)(n:Int)(l:List Ex):
 an ts (.mk op v s name n l)=bV ts op v s name n (eG (l.map fun x=>(an ts x).2.2)) (l.map fun x=>(an ts x).1) (l.map fun x=>(an ts x).2.1):=by
 rw[an];have e:(l.attach.map fun x=>an ts x.1)=l.map (an ts):=by simp
 rw[e];simp[List.map_map,Function.comp_def]
def MB{l:List Ex}{g:Ex→Int}{i:Nat}{x:Ex}(h: ∀y∈l.take i,g y=0)(hx:l[i]?=some x)(hp:g x≠0):eG (l.map g)=g x:=by
 have hi:=(gS hx).1;have e:l.map g=(l.take i).map g++g x::(l.drop (i+1)).map g:=by
  rw[←List.map_cons,←pA,←(gS hx).2,←List.drop_eq_getElem_cons hi,List.take_append_drop]
 have hn:((l.take i).map g).find? (fun f=>f !=0)=none:=List.find?_eq_none.2 (fun y hy=>by obtain⟨z,hz,rfl⟩:=mM hy;simp[h z hz]);have hq:(g x !=0)=true:=by simpa using hp
 rw[eG,e,List.find?_append,hn,List.find?_cons,hq];rfl
def MA{l:List Ex}{g:Ex→Int}(h: ∀y∈l,g y=0):eG (l.map g)=0:=by
 have hn:(l.map g).find? (fun f=>f !=0)=none:=List.find?_eq_none.2 (fun y hy=>by obtain⟨z,hz,rfl⟩:=mM hy;simp[h z hz]);rw[eG,hn];rfl
def CL{g:Ex→Int}{l:List Ex}{i:Nat}{x:Ex}(h: ∀y∈l.take i,g y=0)(hx:l[i]?=some x)(hp:g x=0): ∀y∈l.take (i+1),g y=0:=fun y hy=>by
 rw[List.take_add_one,hx] at hy;rcases mA hy with hy|hy
 · exact h y hy
 · simp at hy;subst hy;exact hp
def oW(ts:List Tab)(hs:Sc ts): ∀(e:Ex) (hok:e.Ok),CallA prog 116 [.iv (.sl (ts.map Tab.c)),.agg (e.cs.map .iv)] [] [] [] (.tup [.agg ((an ts e).1.cs.map .iv),.iv (I (an ts e).2.1),.iv (I (an ts e).2.2)])
 | .mk op v s name n l,hok=>by
   have ih: ∀x∈l,CallA prog 116 [.iv (.sl (ts.map Tab.c)),.agg (x.cs.map .iv)] [] [] [] (.tup [.agg ((an ts x).1.cs.map .iv),.iv (I (an ts x).2.1),.iv (I (an ts x).2.2)]):=fun x hx=>oW ts hs x (by cases hok with|mk _ h=>exact h x hx)
   have hl:l.length*104≤140737488355328:=by cases hok with|mk hl _=>exact hl
   have hc:(Ex.mk op v s name n l).cs= [I op,I v.k,I v.n,S v.s,S s,S name,I n,.sl (l.map Ex.c)]:=rfl;rw[iL,hc];clear hc hok;refine CallG.toA (iG func116 ntmps116 (fun w0 E0 hG=> ?_));refine wz ?_;refine L.adopt 7 (s:=7) (t:=78) (k:=8) U U U ?_;refine L.adoptB 8 108 3 1 U sP U U (.cons .here .nil) ?_;refine ae (ι:=Nat) (fun i=>⟨[(21,aI (i:Int)),(20,aI ((l.map Ex.c).length:Int)),(19,.iv (.sl (l.map Ex.c))),(7,.row 7 (((l.take i).map fun x=>(an ts x).1).map Ex.c)),(0,.iv (.sl (ts.map Tab.c))),(3,.ptr 3 0),(4,.ptr 4 0),(8,.ptr 8 0),(5,aI 0),(6,aI 0)],
    [(3,⟨78,.l [.iv (I op),.iv (I v.k),.iv (I v.n),.iv (S v.s),.iv (S s),.iv (S name),.iv (I n),.iv (.sl (l.map Ex.c))]⟩),(4,⟨78,.l [.iv (I 0),.iv (I 0),.iv (I 0),.iv (S []),.iv (S []),.iv (S []),.iv (I 0),.nils]⟩),(8,⟨147,.l [.row 108 (((l.take i).map fun x=>(an ts x).2.1).map no)]⟩)],[(7,⟨78,8⟩),(108,⟨3,1⟩)]⟩) (fun i=>l.length - i) (fun i=> ∀x∈l.take i,(an ts x).2.2=0) (i0:=0) ?_ sP ?_
   · exact df
   intro i hI K hK;cases hx:l[i]? with
   |some x=>
    have hlt:=eZ (l:=l.map Ex.c) (cq (f:=Ex.c) hx);have hlt':=eP hx;have ihx:=ih x (gE hx);have g1:(l.map Ex.c)[((i:Nat):Int).toNat]?=some [I x.op,I x.v.k,I x.v.n,S x.v.s,S x.s,S x.name,I x.n,.sl (x.l.map Ex.c)]:=by rw[iN,gP,hx];exact congrArg some (aN x)
    have n1:((l.take (i+1)).map fun x=>(an ts x).1).map Ex.c=((l.take i).map fun x=>(an ts x).1).map Ex.c++ [(an ts x).1.cs]:=by rw[dg hx,pA,pA];exact congrArg _ (by simp[aN])
    have n2:((l.take (i+1)).map fun x=>(an ts x).2.1).map no=((l.take i).map fun x=>(an ts x).2.1).map no++ [no (an ts x).2.1]:=by rw[dg hx];simp
    have l1:(((l.take i).map fun x=>(an ts x).1).map Ex.c).length=i:=by simp;omega
    have l2:(((l.take i).map fun x=>(an ts x).2.1).map no).length=i:=by simp;omega
    have k1: ∀e∈((l.take i).map fun x=>(an ts x).1).map Ex.c,e.length=8:=fun e he=>by obtain⟨y,_,rfl⟩:=mM he;rw[aN];rfl
    have k2: ∀e∈((l.take i).map fun x=>(an ts x).2.1).map no,e.length=1:=fun e he=>by obtain⟨y,_,rfl⟩:=mM he;rfl
    by_cases hf:(an ts x).2.2=0
    · have hI':=CL (g:=fun x=>(an ts x).2.2) hI hx hf;generalize an ts x=r at*
      obtain⟨e,ty,f⟩:=r;dsimp only at hf ihx n1 n2;subst hf;generalize ((l.take i).map fun x=>(an ts x).1).map Ex.c=es at*
      generalize ((l.take i).map fun x=>(an ts x).2.1).map no=tys at*
      clear hI ih;(repeat' first|intro hb hp|(refine DR.is ?_;first|(refine rA U U U U (by first|exact k1|exact k2) (by first|exact len_chunks U|exact bz U bK) (by first|(simp[maxLen,ah,l1];omega)|(simp[maxLen,ah,l2];omega)) (by first|(simp[ah,l1];omega)|(simp[ah,l2];omega)) U U ?_))|refine am ?_|refine ak ?_ ?_|fail)
      refine L.onlyS [21,20,19,7,0,3,4,8,5,6] [3,4,8] U ?_;refine L.retok 7 39 7 U U U U ?_;refine wN 8 43 108 U sP U U U (.cons .row .nil) ?_;refine hK _ (i+1) hI' C (Wk.mk' kK (wF (wF (wF (.cons U (Sub.of_eq (congrArg (AV.row 7) n1.symm)) F6)))) (wB (wB (.cons U U (Subs.cons (Sub.of_eq (congrArg (AV.row 108) n2.symm)) .nil) .nil))) (.cons U (.cons U .nil)))
    · have he:=MB (g:=fun x=>(an ts x).2.2) hI hx hf;rw[he];generalize an ts x=r at*
      obtain⟨e,ty,f⟩:=r;dsimp only at hf ihx n1 n2 he⊢;have hb:bV ts op v s name n f (l.map fun x=>(an ts x).1) (l.map fun x=>(an ts x).2.1)=(nilE,0,f):=by rw[bV,if_pos hf]
      rw[hb];have q:(f !=0)=true:=by simpa using hf
      refine wz ?_;all_goals refine bn ?_
      all_goals rfl
   |none=>
    have hlt:=fa (l:=l.map Ex.c) (bf hx);have hN:l.take i=l:=tL (gO hx);rw[hN] at hI⊢;rw[MA (g:=fun x=>(an ts x).2.2) hI];have ll:(l.map fun x=>(an ts x).2.1).length=l.length:=by simp
    generalize (l.map fun x=>(an ts x).1)=es at*
    generalize (l.map fun x=>(an ts x).2.1)=tys at*
    have kb:=fun(k:Int) (b:Bool) (h:xf k tys=b)=>(h▸(Gt (gs:= []) k tys C).at1 (q:=8) U U U U:CallG [] prog 155 ([aI k] ++ [.ptr 8 0]) [(8,⟨147,.l [.iv (.sl (tys.map no))]⟩)] [(8,⟨147,.l [.iv (.sl (tys.map no))]⟩)] [] (aB b))
    have kf:=IG ts (.mk op v s name n es) hs;clear hI ih hK hx hN;by_cases h1:op=1
    · subst h1;have e:bV ts 1 v s name n 0 es tys=(.mk 1 v s name n es,v.k,0):=by simp[bV]
      rw[e];(repeat' first|intro hb hp|refine ag rfl (aA U) ?_|refine am ?_|refine ak ?_ ?_|fail)
      all_goals refine bn ?_
      all_goals rfl
    have q1:(op==1)=false:=by simp[h1]
    by_cases h2:op=2
    · subst h2;have e:bV ts 2 v s name n 0 es tys=(.mk 2 v s name (eF ts s name).1 es,(eF ts s name).2.1,(eF ts s name).2.2):=by simp[bV]
      rw[e];have kf:CallA _ _ _ _ _ _ (.tup [.iv (I (eF ts s name).1),.iv (I (eF ts s name).2.1),.iv (I (eF ts s name).2.2)]):=kf;generalize eF ts s name=r at*
      (repeat' first|intro hb hp|refine ag rfl (aA U) ?_|refine am ?_|refine ak ?_ ?_|fail)
      all_goals refine bn ?_
      all_goals rfl
    have q2:(op==2)=false:=by simp[h2]
    by_cases h34:op=3∨op=4
    · cases ha:xf 1 tys with
      |true=>
       have e:bV ts op v s name n 0 es tys=(.mk op v s name n es,1,0):=by rcases h34 with rfl|rfl<;>simp[bV,ha]
       rw[e];have kc:=kb 1 true ha;rcases h34 with rfl|rfl;all_goals(repeat' first|intro hb hp|refine ag rfl (aA U) ?_|refine aY (f:=155) (caps:= [.ptr 8 0]) U hG U kc U (.cons U U (Subs.cons (Sub.row _ _) .nil) .nil) U U ?_|refine am ?_|refine ak ?_ ?_|fail)
       all_goals refine bn ?_
       all_goals rfl
      |false=>
       have e:bV ts op v s name n 0 es tys=xe:=by rcases h34 with rfl|rfl<;>simp[bV,ha]
       rw[e];have kc:=kb 1 false ha;rcases h34 with rfl|rfl;all_goals(repeat' first|intro hb hp|refine ag rfl (aA U) ?_|refine aY (f:=155) (caps:= [.ptr 8 0]) U hG U kc U (.cons U U (Subs.cons (Sub.row _ _) .nil) .nil) U U ?_|refine am ?_|refine ak ?_ ?_|fail)
       all_goals refine bn ?_
       all_goals rfl
    have q3:(op==3)=false:=by simp;omega
    have q4:(op==4)=false:=by simp;omega
    by_cases h56:op=5∨op=6
    · cases ha:xf 1 tys with
      |true=>
       have e:bV ts op v s name n 0 es tys=(.mk op v s name n es,3,0):=by rcases h56 with rfl|rfl<;>simp[bV,ha]
       rw[e];have kc:=kb 1 true ha;rcases h56 with rfl|rfl;all_goals(repeat' first|intro hb hp|refine ag rfl (aA U) ?_|refine aY (f:=155) (caps:= [.ptr 8 0]) U hG U kc U (.cons U U (Subs.cons (Sub.row _ _) .nil) .nil) U U ?_|refine am ?_|refine ak ?_ ?_|fail)
       all_goals refine bn ?_
       all_goals rfl
      |false=>
       have kc:=kb 1 false ha;cases hb:xf 2 tys with
       |true=>
        have e:bV ts op v s name n 0 es tys=(.mk op v s name n es,3,0):=by rcases h56 with rfl|rfl<;>simp[bV,ha,hb]
        rw[e];have kd:=kb 2 true hb;rcases h56 with rfl|rfl;all_goals(repeat' first|intro hb hp|refine ag rfl (aA U) ?_|refine aY (f:=155) (caps:= [.ptr 8 0]) U hG U kc U (.cons U U (Subs.cons (Sub.row _ _) .nil) .nil) U U ?_|refine aY (f:=155) (caps:= [.ptr 8 0]) U hG U kd U B1 U U ?_|refine am ?_|refine ak ?_ ?_|fail)
        all_goals refine bn ?_
        all_goals rfl
       |false=>
        have e:bV ts op v s name n 0 es tys=xe:=by rcases h56 with rfl|rfl<;>simp[bV,ha,hb]
        rw[e];have kd:=kb 2 false hb;rcases h56 with rfl|rfl;all_goals(repeat' first|intro hb hp|refine ag rfl (aA U) ?_|refine aY (f:=155) (caps:= [.ptr 8 0]) U hG U kc U (.cons U U (Subs.cons (Sub.row _ _) .nil) .nil) U U ?_|refine aY (f:=155) (caps:= [.ptr 8 0]) U hG U kd U B1 U U ?_|refine am ?_|refine ak ?_ ?_|fail)
        all_goals refine bn ?_
        all_goals rfl
    have q5:(op==5)=false:=by simp;omega
    have q6:(op==6)=false:=by simp;omega
    by_cases h789:op=7∨op=8∨op=9
    · cases ha:xf 3 tys with
      |true=>
       have e:bV ts op v s name n 0 es tys=(.mk op v s name n es,3,0):=by rcases h789 with rfl|rfl|rfl<;>simp[bV,ha]
       rw[e];have kc:=kb 3 true ha;rcases h789 with rfl|rfl|rfl;all_goals(repeat' first|intro hb hp|refine ag rfl (aA U) ?_|refine aY (f:=155) (caps:= [.ptr 8 0]) U hG U kc U (.cons U U (Subs.cons (Sub.row _ _) .nil) .nil) U U ?_|refine am ?_|refine ak ?_ ?_|fail)
       all_goals refine bn ?_
       all_goals rfl
      |false=>
       have e:bV ts op v s name n 0 es tys=xe:=by rcases h789 with rfl|rfl|rfl<;>simp[bV,ha]
       rw[e];have kc:=kb 3 false ha;rcases h789 with rfl|rfl|rfl;all_goals(repeat' first|intro hb hp|refine ag rfl (aA U) ?_|refine aY (f:=155) (caps:= [.ptr 8 0]) U hG U kc U (.cons U U (Subs.cons (Sub.row _ _) .nil) .nil) U U ?_|refine am ?_|refine ak ?_ ?_|fail)
       all_goals refine bn ?_
       all_goals rfl
    have q7:(op==7)=false:=by simp;omega
    have q8:(op==8)=false:=by simp;omega
    have q9:(op==9)=false:=by simp;omega
    by_cases h10:op=10
    · subst h10;have e:bV ts 10 v s name n 0 es tys=(.mk 10 v s name n es,3,0):=by simp[bV]
      rw[e];(repeat' first|intro hb hp|refine ag rfl (aA U) ?_|refine am ?_|refine ak ?_ ?_|fail)
      all_goals refine bn ?_
      all_goals rfl
    have q10:(op==10)=false:=by simp[h10]
    have e:bV ts op v s name n 0 es tys=xe:=by simp[bV,h1,h2,h34,h56,h789,h10]
    rw[e];(repeat' first|intro hb hp|refine ag rfl (aA U) ?_|refine am ?_|refine ak ?_ ?_|fail)
    all_goals refine bn ?_
    all_goals rfl
 termination_by e=>SizeOf.sizeOf e
 decreasing_by
  have:=List.sizeOf_lt_of_mem hx;simp;omega
def dw(ts:List Tab)(e:Ex)(k:Int):Ex×Int:=
 if(an ts e).2.2≠0 then(nilE,(an ts e).2.2)
 else if((an ts e).2.1 !=k) && ((an ts e).2.1 !=0) then(nilE,5) else((an ts e).1,0)
def dO(ts:List Tab)(e:Ex):Ex×Int:=if e.op=0 then(e,0) else dw ts e 3
def vz(ts:List Tab)(hs:Sc ts)(e:Ex)(hok:e.Ok)(k:Int):
 CallA prog 112 [.iv (.sl (ts.map Tab.c)),.agg (e.cs.map .iv),aI k] [] [] [] (.tup [.agg ((dw ts e k).1.cs.map .iv),.iv (I (dw ts e k).2)]):=by
 have kb:=oW ts hs e hok;unfold dw;generalize an ts e=r at*
 obtain⟨b,t,f⟩:=r;dsimp only at kb⊢;obtain⟨op,v,s,name,n,l⟩:=e;have hc:(Ex.mk op v s name n l).cs= [I op,I v.k,I v.n,S v.s,S s,S name,I n,.sl (l.map Ex.c)]:=rfl;rw[hc] at kb⊢;refine iA func112 ntmps112 (fun w0 E0=> ?_);by_cases hf:f=0
 · have q:(f !=0)=false:=by simp[hf]
   rw[if_neg (by simp[hf])];cases h1:t !=k with
   |false=>
    rw[Bool.false_and,if_neg sP];refine wz ?_;all_goals refine bn ?_
    all_goals rfl
   |true=>
    cases h2:t !=0 with
    |false=>
     rw[Bool.and_false,if_neg sP];refine wz ?_;all_goals refine bn ?_
     all_goals rfl
    |true=>
     rw[Bool.and_true,if_pos U];refine wz ?_;all_goals refine bn ?_
     all_goals rfl
 · have q:(f !=0)=true:=by simp[hf]
   rw[if_pos hf];refine wz ?_;all_goals refine bn ?_
   all_goals rfl
def rI(ts:List Tab)(hs:Sc ts)(e:Ex)(hok:e.Ok):
 CallA prog 115 [.iv (.sl (ts.map Tab.c)),.agg (e.cs.map .iv)] [] [] [] (.tup [.agg ((dO ts e).1.cs.map .iv),.iv (I (dO ts e).2)]):=by
 have kb:=vz ts hs e hok 3;unfold dO;generalize dw ts e 3=r at*
 obtain⟨b,f⟩:=r;dsimp only at kb⊢;obtain⟨op,v,s,name,n,l⟩:=e;have hc:(Ex.mk op v s name n l).cs= [I op,I v.k,I v.n,S v.s,S s,S name,I n,.sl (l.map Ex.c)]:=rfl;have ho:(Ex.mk op v s name n l).op=op:=rfl;rw[ho];refine iA func115 ntmps115 (fun w0 E0=> ?_);by_cases h0:op=0
 · have q:(op==0)=true:=by simp[h0]
   rw[if_pos h0,hc];rw[hc] at kb;refine wz ?_;all_goals refine bn ?_
   all_goals rfl
 · have q:(op==0)=false:=by simp[h0]
   rw[if_neg h0,hc];rw[hc] at kb;refine wz ?_;all_goals refine bn ?_
   all_goals rfl
inductive Ex.OkS:Ex→Prop
 |mk {op:Int} {v:Val} {s name:List UInt8} {n:Int} {l:List Ex} (hl:l.length*104≤140737488355328) (hs:s.length≤140737488355328) (hn:name.length≤140737488355328) (h: ∀x∈l,x.OkS):Ex.OkS (.mk op v s name n l)
def tQ:List (Int×Int):= [(1,0),(2,0),(3,2),(4,2),(5,2),(6,2),(7,2),(8,2),(9,1),(10,1)]
def gl(op:Int)(v:Val)(s name:Str):Bool:=((op==1) && !aw v)||((op==2) && !(bG name && ((s== [])||bG s)))
def bY(d:Int):Ex→Bool
 | .mk op v s name n l=>match lookM tQ op with
   |none=>false
   |some k=> !(((l.length:Int) !=k)||decide (40<d)) && (!gl op v s name && !((l.attach.map fun x=>bY (d+1) x.1).any (fun b=> !b)))
 decreasing_by
  have:=List.sizeOf_lt_of_mem x.2;simp;omega
def gD(d op:Int)(v:Val)(s name:Str)(n:Int)(l:List Ex):bY d (.mk op v s name n l)=match lookM tQ op with
 |none=>false
 |some k=> !(((l.length:Int) !=k)||decide (40<d)) && (!gl op v s name && !(l.any (fun x=> !bY (d+1) x))):=by
 rw[bY];have e:(l.attach.map fun x=>bY (d+1) x.1)=l.map (bY (d+1)):=by simp
 rw[e,List.any_map];rfl
def cu:MapTy prog 174:=⟨3,3,by kernel_rfl,by kernel_rfl,by kernel_rfl⟩
def BB{d:Int}(hd:d≤40)(hd0:0≤d){x:Ex}{b:Bool}(h:CallG tV prog 88 [.agg (x.cs.map .iv),aI (d+1)] [] [] [] (aB b)):
 CallG tV prog 110 [.agg (x.cs.map .iv),.ptr 1000 0] [(1000,⟨3,.l [aI d]⟩)] [(1000,⟨3,.l [aI d]⟩)] [] (aB (!b)):=by
 refine iG func110 ntmps110 (fun w0 E0 hG=> ?_);refine wz ?_;all_goals exact L.ends U U fR wK
def vQ: ∀(e:Ex) (hok:e.OkS) (d:Int) (hd0:0≤d) (hd:d≤41),CallG tV prog 88 [.agg (e.cs.map .iv),aI d] [] [] [] (aB (bY d e))
 | .mk op v s name n l,hok,d,hd0,hd=>by
   have ih:d≤40→ ∀x∈l,CallG tV prog 88 [.agg (x.cs.map .iv),aI (d+1)] [] [] [] (aB (bY (d+1) x)):=fun h40 x hx=>vQ x (by cases hok with|mk _ _ _ h=>exact h x hx) (d+1) C C
   obtain⟨hl,hsl,hnl⟩:l.length*104≤140737488355328∧s.length≤140737488355328∧name.length≤140737488355328:=by cases hok with|mk hl hs hn _=>exact⟨hl,hs,hn⟩
   have hc:(Ex.mk op v s name n l).cs= [I op,I v.k,I v.n,S v.s,S s,S name,I n,.sl (l.map Ex.c)]:=rfl;rw[gD,hc];clear hc hok;have kn:=je name hnl;have ks:=je s hsl;have kv:=aX v;have ll:(((l.map Ex.c).length:Nat):Int)=(l.length:Int):=by simp
   refine iG func88 ntmps88 (fun w0 E0 hG=> ?_);refine wz ?_;refine LW.mk (LM.make U U U U (fun b=> ?_));refine LM.insert U U U U U U cu U ?_;refine LM.insert U U U U U U cu U ?_;refine LM.insert U U U U U U cu U ?_;refine LM.insert U U U U U U cu U ?_;refine LM.insert U U U U U U cu U ?_;refine LM.insert U U U U U U cu U ?_;refine LM.insert U U U U U U cu U ?_;refine LM.insert U U U U U U cu U ?_;refine LM.insert U U U U U U cu U ?_;refine LM.insert U U U U U U cu U ?_;refine Em hG U U (fun c' hins hk hm hG'=> ?_);obtain⟨nt,w0',E0',ins'⟩:=c';obtain rfl:=hk.nt;obtain rfl:=hins;refine LW.out ?_;have hm:Fp _ b tQ:=hm;cases ha:lookM tQ op with
   |none=>
    have hlk:AV.tup [aI ((lookM tQ op).getD 0),aB (lookM tQ op).isSome] = .tup [aI 0,aB false]:=by rw[ha];rfl
    (repeat' first|intro hb hp|refine ag rfl (jk cu hm U U hlk) ?_|refine am ?_|refine ak ?_ ?_|fail)
    all_goals(refine mq hk ?_)
    all_goals refine bn ?_
    all_goals rfl
   |some k=>
    have hlk:AV.tup [aI ((lookM tQ op).getD 0),aB (lookM tQ op).isSome] = .tup [aI k,aB true]:=by rw[ha];rfl
    dsimp only;cases h1:(((l.map Ex.c).length:Nat):Int) !=k with
    |true=>
     have h1':((l.length:Int) !=k)=true:=by rw[←ll];exact h1
     rw[h1',Bool.true_or];(repeat' first|intro hb hp|refine ag rfl (jk cu hm U U hlk) ?_|refine am ?_|refine ak ?_ ?_|fail)
     all_goals(refine mq hk ?_)
     all_goals refine bn ?_
     all_goals rfl
    |false=>
    have h1':((l.length:Int) !=k)=false:=by rw[←ll];exact h1
    rw[h1',Bool.false_or];cases h2:decide (40<d) with
    |true=>
     (repeat' first|intro hb hp|refine ag rfl (jk cu hm U U hlk) ?_|refine am ?_|refine ak ?_ ?_|fail)
     all_goals(refine mq hk ?_)
     all_goals refine bn ?_
     all_goals rfl
    |false=>
    have h40:d≤40:=by have:=of_decide_eq_false h2;omega
    have kc:=xc (gs:=tV) (f:=110) (b:=⟨3,.l [aI d]⟩) (fun x=> !bY (d+1) x) l C U U (fun x hx=>BB h40 hd0 (ih h40 x hx));clear ih;generalize l.any (fun x=> !bY (d+1) x)=q at*
    rw[show(!false && (!gl op v s name && !q))=(!gl op v s name && !q) from rfl];by_cases o1:op=1
    · subst o1;cases hv:aw v with
      |false=>
       rw[hv] at kv;rw[show gl 1 v s name=true by simp[gl,hv]];(repeat' first|intro hb hp|refine ag rfl (jk cu hm U U hlk) ?_|refine am ?_|refine ak ?_ ?_|fail)
       all_goals(refine mq hk ?_)
       all_goals refine bn ?_
       all_goals rfl
      |true=>
       rw[hv] at kv;rw[show gl 1 v s name=false by simp[gl,hv]];(repeat' first|intro hb hp|refine ag rfl (jk cu hm U U hlk) ?_|(refine LW.is ?_;first|refine ag U (aA U) ?_|refine fz (q:=3) U hG' kc U U U U U U U ?_)|refine am ?_|refine ak ?_ ?_|fail)
       all_goals(refine mq hk ?_)
       all_goals refine bn ?_
       all_goals(cases q<;>rfl)
    have p1:(op==1)=false:=by simp[o1]
    by_cases o2:op=2
    · subst o2;cases hv:bG name with
      |false=>
       rw[hv] at kn;rw[show gl 2 v s name=true by simp[gl,hv]];(repeat' first|intro hb hp|refine ag rfl (jk cu hm U U hlk) ?_|refine LW.is (dM U hG' kn U U ?_)|refine am ?_|refine ak ?_ ?_|fail)
       all_goals(refine mq hk ?_)
       all_goals refine bn ?_
       all_goals rfl
      |true=>
      rw[hv] at kn;cases hs0:s== [] with
      |true=>
       rw[show gl 2 v s name=false by simp[gl,hv,hs0]];(repeat' first|intro hb hp|refine ag rfl (jk cu hm U U hlk) ?_|(refine LW.is ?_;first|refine dM U hG' kn U U ?_|refine ag U (aA U) ?_|refine fz (q:=3) U hG' kc U U U U U U U ?_)|refine am ?_|refine ak ?_ ?_|fail)
       all_goals(refine mq hk ?_)
       all_goals refine bn ?_
       all_goals(cases q<;>rfl)
      |false=>
      cases hw:bG s with
      |false=>
       rw[hw] at ks;rw[show gl 2 v s name=true by simp[gl,hv,hs0,hw]];(repeat' first|intro hb hp|refine ag rfl (jk cu hm U U hlk) ?_|(refine LW.is ?_;first|refine dM U hG' kn U U ?_|refine dM U hG' ks U U ?_)|refine am ?_|refine ak ?_ ?_|fail)
       all_goals(refine mq hk ?_)
       all_goals refine bn ?_
       all_goals rfl
      |true=>
       rw[hw] at ks;rw[show gl 2 v s name=false by simp[gl,hv,hs0,hw]];(repeat' first|intro hb hp|refine ag rfl (jk cu hm U U hlk) ?_|(refine LW.is ?_;first|refine dM U hG' kn U U ?_|refine dM U hG' ks U U ?_|refine ag U (aA U) ?_|refine fz (q:=3) U hG' kc U U U U U U U ?_)|refine am ?_|refine ak ?_ ?_|fail)
       all_goals(refine mq hk ?_)
       all_goals refine bn ?_
       all_goals(cases q<;>rfl)
    have p2:(op==2)=false:=by simp[o2]
    rw[show gl op v s name=false by simp[gl,o1,o2]];(repeat' first|intro hb hp|refine ag rfl (jk cu hm U U hlk) ?_|(refine LW.is ?_;first|refine ag U (aA U) ?_|refine fz (q:=3) U hG' kc U U U U U U U ?_)|refine am ?_|refine ak ?_ ?_|fail)
    all_goals(refine mq hk ?_)
    all_goals refine bn ?_
    all_goals(cases q<;>rfl)
 termination_by e=>SizeOf.sizeOf e
 decreasing_by
  have:=List.sizeOf_lt_of_mem hx;simp;omega
def qw: ∀l:List Ex,∀e∈l.map Ex.c,e.length=8:=fun l e he=>by obtain⟨y,_,rfl⟩:=mM he;rw[aN];rfl
def Gc(n:Nat)(a:Int)(ha:a=n)(hn:0<n)(hl:n*104≤140737488355328):
 CallA prog 153 [.nils,aI a] [] [] [(24,⟨78,8⟩)] (.row 24 []):=by
 refine iA func153 ntmps153 (fun w0 E0=> ?_);have hb:decide (a<0)=false:=by simp;omega
 have hb4:decide ((0:Int)<a - ((0:Int) - ((([]:List (List IV)).length:Nat):Int)))=true:=by simp;omega
 have hz:((([]:List (List IV)).length:Nat):Int)=0:=rfl;(repeat' first|intro hb hp|(refine LW.is ?_;first|refine ag U (nV U) ?_|refine ag U (yO U U U) ?_|refine uO 1000 (m:=n) U U U C hn (by rw[fC];omega) C U U ?_|refine ag U (ur (n':=0) U U (Int.le_refl _) C U) ?_|refine ag U (qf U U C C) ?_)|refine am ?_|refine ak ?_ ?_|fail)
 all_goals(apply L.rowS0 1000 24 4 22;rfl;rfl;omega;rfl;rfl;exact hn;rfl)
 all_goals exact L.ends U U fR (Wk.mk' (by intro id h;simp[keys] at h) .nil .nil (.cons U .nil))
def KC:CallA prog 153 [.nils,aI 0] [] [] [] .nils:=by
 refine iA func153 ntmps153 (fun w0 E0=> ?_);have hb4:decide ((0:Int)<0 - ((0:Int) - ((([]:List (List IV)).length:Nat):Int)))=false:=by simp
 have hz:((([]:List (List IV)).length:Nat):Int)=0:=rfl;(repeat' first|intro hb hp|(refine LW.is ?_;first|refine ag U (nV U) ?_|refine ag U (qf U U C C) ?_)|refine am ?_|refine ak ?_ ?_|fail)
 all_goals exact L.ends U U fR (Wk.mk' (by intro id h;simp[keys] at h) .nil .nil .nil)
def Cf(Ls:List (List Ex))(h1:Ls.length≤1000000)(h2:Ls.flatten.length*104≤140737488355328):
 CallA prog 109 [.iv (.sl (Ls.map bg))] [] [] [(13,⟨78,8⟩)] (.row 13 (Ls.flatten.map Ex.c)):=by
 refine iA func109 ntmps109 (fun w0 E0=> ?_);have flt: ∀i,(Ls.take i).flatten.length≤Ls.flatten.length:=fun i=>by
  conv=>rhs;rw[←List.take_append_drop i Ls,List.flatten_append,gV]
  omega
 have fst: ∀{i:Nat} {A:List Ex},Ls[i]?=some A→(Ls.take (i+1)).flatten=(Ls.take i).flatten++A:=fun h=>by rw[dg h];simp
 refine wz ?_;refine ae (ι:=Nat) (fun i=>⟨[(11,aI (i:Int)),(10,aI ((Ls.map bg).length:Int)),(9,.iv (.sl (Ls.map bg))),(3,aI ((Ls.take i).flatten.length:Int)),(0,.iv (.sl (Ls.map bg)))],[],[]⟩) (fun i=>Ls.length - i) (fun i=>True) (i0:=0) ?_ trivial ?_
 · exact df
 intro i _ K hK;cases hx:Ls[i]? with
 |some A=>
  have hlt:=eZ (l:=Ls.map bg) (cq (f:=bg) hx);have hlt':=eP hx;have g1:(Ls.map bg)[((i:Nat):Int).toNat]?=some [.sl (A.map Ex.c)]:=by rw[iN,gP,hx];rfl
  have hA:=fst hx;have hB:=flt (i+1);rw[hA,gV] at hB;have lA:(A.map Ex.c).length=A.length:=lM _;have hn:decide (((Ls.take i).flatten.length:Int)+((A.map Ex.c).length:Int)<0)=false:=by simp;omega
  (repeat' first|intro hb hp|(refine LW.is ?_;first|refine ag U (iV U U (by rw[lA];omega) (by rw[lA];omega)) ?_)|refine am ?_|refine ak ?_ ?_|fail)
  refine hK _ (i+1) trivial C (Wk.mk' kK (wF (wF (wF (.cons U (Sub.of_eq ?_) F1)))) .nil .nil);rw[hA,gV,←lA];rfl
 |none=>
  have hlt:=fa (l:=Ls.map bg) (bf hx);rw[bc hx];clear hK hx;have kg: ∀n:Nat,n=Ls.flatten.length→0<n→CallA prog 153 [.nils,aI (Ls.flatten.length:Int)] [] [] [(24,⟨78,8⟩)] (.row 24 []):=fun n hn h0=>Gc n _ C h0 C
  by_cases h0:Ls.flatten.length=0
  · rw[h0];have kz:=KC;(repeat' first|intro hb hp|refine AO rfl kz rfl rfl ?_|refine am ?_|refine ak ?_ ?_|fail)
    refine L.adopt 24 (s:=6) (t:=78) (k:=8) U U U ?_;refine ae (ι:=Nat) (fun i=>⟨[(27,aI (i:Int)),(26,aI ((Ls.map bg).length:Int)),(25,.iv (.sl (Ls.map bg))),(6,.row 24 ((Ls.take i).flatten.map Ex.c))],[],[(24,⟨78,8⟩)]⟩) (fun i=>Ls.length - i) (fun i=>True) (i0:=0) ?_ trivial ?_
    · exact df
    intro i _ K hK;cases hx:Ls[i]? with
    |some A=>
     have hlt:=eZ (l:=Ls.map bg) (cq (f:=bg) hx);have hlt':=eP hx;have g1:(Ls.map bg)[((i:Nat):Int).toNat]?=some [.sl (A.map Ex.c)]:=by rw[iN,gP,hx];rfl
     have hA:=fst hx;have hB:=flt (i+1);rw[hA,gV] at hB;(repeat' first|intro hb hp|(refine LW.is ?_;first|refine bC U U U U (qw _) (qw _) (by rw[lM,lM,fC];omega) (by rw[lM,lM];omega) U U ?_)|refine am ?_|refine ak ?_ ?_|fail)
     refine L.only [27,26,25,6] ?_;refine L.retok 6 33 24 U U U U ?_;refine hK _ (i+1) trivial C (Wk.mk' kK (wF (wF (wF (.cons U (Sub.of_eq (congrArg (AV.row 24) (by rw[hA,pA]))) .nil)))) .nil (.cons U .nil))
    |none=>
     have hlt:=fa (l:=Ls.map bg) (bf hx);rw[bc hx];refine wz ?_;all_goals(refine L.only [2] ?_)
     all_goals(refine L.retok 2 24 13 U U U U ?_)
     all_goals exact L.ends U U fR (Wk.mk' (by intro id h;simp[keys] at h) .nil .nil (.cons U .nil))
  · have kr:=kg _ U C;(repeat' first|intro hb hp|refine uP rfl kr rfl rfl ?_|refine am ?_|refine ak ?_ ?_|fail)
    refine ae (ι:=Nat) (fun i=>⟨[(27,aI (i:Int)),(26,aI ((Ls.map bg).length:Int)),(25,.iv (.sl (Ls.map bg))),(6,.row 24 ((Ls.take i).flatten.map Ex.c))],[],[(24,⟨78,8⟩)]⟩) (fun i=>Ls.length - i) (fun i=>True) (i0:=0) ?_ trivial ?_
    · exact df
    intro i _ K hK;cases hx:Ls[i]? with
    |some A=>
     have hlt:=eZ (l:=Ls.map bg) (cq (f:=bg) hx);have hlt':=eP hx;have g1:(Ls.map bg)[((i:Nat):Int).toNat]?=some [.sl (A.map Ex.c)]:=by rw[iN,gP,hx];rfl
     have hA:=fst hx;have hB:=flt (i+1);rw[hA,gV] at hB;(repeat' first|intro hb hp|(refine LW.is ?_;first|refine bC U U U U (qw _) (qw _) (by rw[lM,lM,fC];omega) (by rw[lM,lM];omega) U U ?_)|refine am ?_|refine ak ?_ ?_|fail)
     refine L.only [27,26,25,6] ?_;refine L.retok 6 33 24 U U U U ?_;refine hK _ (i+1) trivial C (Wk.mk' kK (wF (wF (wF (.cons U (Sub.of_eq (congrArg (AV.row 24) (by rw[hA,pA]))) .nil)))) .nil (.cons U .nil))
    |none=>
     have hlt:=fa (l:=Ls.map bg) (bf hx);rw[bc hx];refine wz ?_;all_goals(refine L.only [2] ?_)
     all_goals(refine L.retok 2 24 13 U U U U ?_)
     all_goals exact L.ends U U fR (Wk.mk' (by intro id h;simp[keys] at h) .nil .nil (.cons U .nil))
def du(s:Stm):List Ex:=((s.out++s.ord++s.rows.flatten)++s.sets.map Ast.e)++(if s.wh.op=0 then [] else [s.wh])
structure Stm.Ok (s:Stm):Prop where
 tot:(s.out.length+s.ord.length+s.rows.flatten.length+s.sets.length+1)*104≤140737488355328
 rows:s.rows.length*24≤140737488355328
 sets:s.sets.length*120≤140737488355328
 cols:s.cols.length≤140737488355328
 frm:s.frm.length≤140737488355328
 all: ∀e∈du s,e.OkS
 wh:s.wh.OkS
 name:s.name.length≤140737488355328
 table:s.table.length≤140737488355328
 col:s.col.length≤140737488355328
 cn: ∀c∈s.cols,c.n.length≤140737488355328
def Gf(s:Stm)(hok:s.Ok):CallA prog 86 [.agg (s.cs.map .iv)] [] [] [] (.iv (.sl ((du s).map Ex.c))):=by
 have htot:=hok.tot;have hrl:=hok.rows;clear hok;obtain⟨kind,name,table,col,cols,rows,sets,frm,out,wh,ord,down,n⟩:=s;dsimp only at htot hrl;have kc:=Cf [out,ord] sP (by simp;omega);rw[show [out,ord].flatten=out++ord by simp] at kc;unfold du;dsimp only;refine iA func86 ntmps86 (fun w0 E0=> ?_);have flt: ∀i,(rows.take i).flatten.length≤rows.flatten.length:=fun i=>by
  conv=>rhs;rw[←List.take_append_drop i rows,List.flatten_append,gV]
  omega
 have fst: ∀{i:Nat} {A:List Ex},rows[i]?=some A→(rows.take (i+1)).flatten=(rows.take i).flatten++A:=fun h=>by rw[dg h];simp
 refine wz ?_;refine ae (ι:=Nat) (fun i=>⟨[(17,aI (i:Int)),(16,aI ((rows.map bg).length:Int)),(15,.iv (.sl (rows.map bg))),(3,.row 13 ((out++ord++(rows.take i).flatten).map Ex.c)),(1,.ptr 1 0)],[(1,⟨80,.l ((Stm.cs ⟨kind,name,table,col,cols,rows,sets,frm,out,wh,ord,down,n⟩).map .iv)⟩)],[(13,⟨78,8⟩)]⟩) (fun i=>rows.length - i) (fun i=>True) (i0:=0) ?_ trivial ?_
 · refine Wk.mk' kK (wF (wF (wF (.cons U (Sub.of_eq (congrArg (AV.row 13) sP)) F1)))) B1 (.cons U .nil)
 intro i _ K hK;cases hx:rows[i]? with
 |some A=>
  have hlt:=eZ (l:=rows.map bg) (cq (f:=bg) hx);have hlt':=eP hx;have g1:(rows.map bg)[((i:Nat):Int).toNat]?=some [.sl (A.map Ex.c)]:=by rw[iN,gP,hx];rfl
  have hA:=fst hx;have hB:=flt (i+1);rw[hA,gV] at hB;(repeat' first|intro hb hp|(refine LW.is ?_;first|refine bC U U U U (qw _) (qw _) (by simp only[lM,gV,fC];omega) (by simp only[lM,gV];omega) U U ?_)|refine am ?_|refine ak ?_ ?_|fail)
  refine L.only [17,16,15,3,1] ?_;refine L.retok 3 23 13 U U U U ?_;refine hK _ (i+1) trivial C (Wk.mk' kK (wF (wF (wF (.cons U (Sub.of_eq (congrArg (AV.row 13) (by rw[hA];simp))) F1)))) B1 (.cons U .nil))
 |none=>
 have hlt:=fa (l:=rows.map bg) (bf hx);rw[bc hx];clear hK hx;generalize hP:out++ord++rows.flatten=P at*
 have lP:P.length=out.length+ord.length+rows.flatten.length:=by rw[←hP,gV,gV]
 clear hP;have tot2:(P.length+sets.length+1)*104≤140737488355328:=by rw[lP];exact htot
 have tot3:P.length+sets.length+1≤1353245080340:=by clear htot;omega
 refine wz ?_;refine ae (ι:=Nat) (fun i=>⟨[(28,aI (i:Int)),(27,aI ((sets.map Ast.c).length:Int)),(26,.iv (.sl (sets.map Ast.c))),(3,.row 13 ((P++(sets.take i).map Ast.e).map Ex.c)),(1,.ptr 1 0)],[(1,⟨80,.l ((Stm.cs ⟨kind,name,table,col,cols,rows,sets,frm,out,wh,ord,down,n⟩).map .iv)⟩)],[(13,⟨78,8⟩)]⟩) (fun i=>sets.length - i) (fun i=>True) (i0:=0) ?_ trivial ?_
 · refine Wk.mk' kK (wF (wF (wF (.cons U (Sub.of_eq (congrArg (AV.row 13) sP)) F1)))) B1 (.cons U .nil)
 intro j _ K hK;cases hy:sets[j]? with
 |some x=>
  have hlt2:=eZ (l:=sets.map Ast.c) (cq (f:=Ast.c) hy);have hlt2':=eP hy;have g1:(sets.map Ast.c)[((j:Nat):Int).toNat]?=some [S x.co,I x.e.op,I x.e.v.k,I x.e.v.n,S x.e.v.s,S x.e.s,S x.e.name,I x.e.n,.sl (x.e.l.map Ex.c)]:=by rw[iN,gP,hy];rfl
  have hT:(sets.take (j+1)).map Ast.e=(sets.take j).map Ast.e++ [x.e]:=by rw[dg hy];simp
  have hl:((P++(sets.take j).map Ast.e).map Ex.c).length≤P.length+sets.length:=by rw[lM,gV,lM,lT];omega
  have bm:((P++(sets.take j).map Ast.e).map Ex.c).length+1≤maxLen:=Nat.le_trans (Nat.succ_le_succ hl) (Nat.le_trans tot3 (by rw[fC];decide));have bb:(((P++(sets.take j).map Ast.e).map Ex.c).length+1)*104≤225000000000000:=Nat.le_trans (mR 104 (Nat.succ_le_succ hl)) (Nat.le_trans tot2 dD);(repeat' first|intro hb hp|refine LW.is (bC U U U U (qw _) (bz U bK) bm bb U U ?_)|refine am ?_|refine ak ?_ ?_|fail)
  refine L.onlyS [28,27,26,3,1] [1] U ?_;refine L.retok 3 36 13 U U U U ?_;refine hK _ (j+1) trivial C (Wk.mk' kK (wF (wF (wF (.cons U (Sub.of_eq (congrArg (AV.row 13) (by rw[hT,←List.append_assoc,pA (l₂:= [x.e])];exact congrArg _ (congrArg (· :: []) (aN x.e).symm)))) F1)))) B1 (.cons U .nil))
 |none=>
 have hlt2:=fa (l:=sets.map Ast.c) (bf hy);rw[bc hy];clear hK hy;generalize hR:P++sets.map Ast.e=R at*
 have lR:R.length=P.length+sets.length:=by rw[←hR];simp
 clear hR;by_cases h0:wh.op=0
 · have q:(wh.op !=0)=false:=by simp[h0]
   rw[if_pos h0,List.append_nil];refine wz ?_;all_goals refine bn ?_
   all_goals rfl
 · have q:(wh.op !=0)=true:=by simp[h0]
   rw[if_neg h0];have bm:(R.map Ex.c).length+1≤maxLen:=by rw[lM,lR];exact Nat.le_trans tot3 (by rw[fC];decide)
   have bb:((R.map Ex.c).length+1)*104≤225000000000000:=by rw[lM,lR];exact Nat.le_trans tot2 dD
   (repeat' first|intro hb hp|refine LW.is (bC U U U U (qw _) (bz U bK) bm bb U U ?_)|refine am ?_|refine ak ?_ ?_|fail)
   all_goals refine bn ?_
   all_goals(rw[pA];exact congrArg AV.iv (congrArg IV.sl (congrArg (R.map Ex.c++ ·) (congrArg (· :: []) (aN wh).symm))))
end Go.Proofs.Y
