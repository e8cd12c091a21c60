/- Lemmas towards the law. Conditions: each one says its own. -/
import Derived.Test.YtnhmohbhgocbjaaGreatDoorZU6
set_option linter.all false
set_option maxHeartbeats 64000000
set_option maxRecDepth 100000
namespace Go.Proofs.Y
open Go.Abs Go.Proofs.Tryz
attribute [local irreducible] L Code.wp bodyPost Exit.then Exit.inBlock
abbrev BR:=Ex×Int×Int
def eG(l:List Int):Int:=(l.find? (fun f=>f !=0)).getD 0
def wC:BR:=(nilE,0,5)
def bQ(ts:List A4)(op:Int)(v:A3)(s name:Str)(n f:Int)(es:List Ex)(T:List Int):BR:=
 if f≠0 then(nilE,0,f)
 else if op=1 then(.mk op v s name n es,v.k,0)
 else if op=2 then(.mk op v s name (eF ts s name).1 es,(eF ts s name).2.1,(eF ts s name).2.2)
 else if op=3\/op=4 then if wD 1 T then(.mk op v s name n es,1,0) else wC
 else if op=5\/op=6 then if(wD 1 T||wD 2 T) then(.mk op v s name n es,3,0) else wC
 else if op=7\/op=8\/op=9 then if wD 3 T then(.mk op v s name n es,3,0) else wC
 else if op=10 then(.mk op v s name n es,3,0)
 else wC
def an(ts:List A4):Ex->BR
 | .mk op v s name n l=>bQ ts op v s name n (eG ((l.attach.map fun x=>an ts x.1).map (·.2.2))) ((l.attach.map fun x=>an ts x.1).map (·.1)) ((l.attach.map fun x=>an ts x.1).map (·.2.1))
 decreasing_by
  all_goals
   have:=List.sizeOf_lt_of_mem x.2;simp;omega
def iJ(ts:List A4)(op:Int)(v:A3)(s name:Str)(n:Int)(l:List Ex):
 an ts (.mk op v s name n l)=bQ ts op v s name n (eG (l.map fun x=>(an ts x).2.2)) (l.map fun x=>(an ts x).1) (l.map fun x=>(an ts x).2.1):=by
 rw[an];have e:(l.attach.map fun x=>an ts x.1)=l.map (an ts):=by simp
 rw[e];simp[List.map_map,Function.comp_def]
def LZ{l:List Ex}{g:Ex->Int}{i:Nat}{x:Ex}(h: ∀y∈l.take i,g y=0)(T:l[i]?=some x)(hp:g x≠0):eG (l.map g)=g x:=by
 have hi:=(gS T).1;have e:l.map g=(l.take i).map g++g x::(l.drop (i+1)).map g:=by
  rw[<-List.map_cons,<-pA,<-(gS T).2,<-List.drop_eq_getElem_cons hi,List.take_append_drop]
 have hn:((l.take i).map g).find? (fun f=>f !=0)=none:=List.find?_eq_none.2 (fun y hy=>by obtain⟨z,hz,rfl⟩:=mM hy;simp[h z hz]);have hq:(g x !=0)=true:=by simpa using hp
 rw[eG,e,List.find?_append,hn,List.find?_cons,hq];rfl
def LY{l:List Ex}{g:Ex->Int}(h: ∀y∈l,g y=0):eG (l.map g)=0:=by
 have hn:(l.map g).find? (fun f=>f !=0)=none:=List.find?_eq_none.2 (fun y T=>by obtain⟨z,hz,rfl⟩:=mM T;simp[h z hz]);rw[eG,hn];rfl
def Co{g:Ex->Int}{l:List Ex}{i:Nat}{x:Ex}(h: ∀y∈l.take i,g y=0)(hx:l[i]?=some x)(hp:g x=0): ∀y∈l.take (i+1),g y=0:=fun y T=>by
 rw[List.take_add_one,hx] at T;rcases mA T with T|T
 · exact h y T
 · simp at T;subst T;exact hp
def oP(ts:List A4)(hs:Sc ts): ∀(e:Ex) (a0:e.Ok),CallA prog 116 [.iv (.sl (ts.map A4.c)),.agg (e.cs.map .iv)] [] [] [] (.tup [.agg ((an ts e).1.cs.map .iv),.iv (I (an ts e).2.1),.iv (I (an ts e).2.2)])
 | .mk op v s name n l,a0=>by
   have ih: ∀x∈l,CallA prog 116 [.iv (.sl (ts.map A4.c)),.agg (x.cs.map .iv)] [] [] [] (.tup [.agg ((an ts x).1.cs.map .iv),.iv (I (an ts x).2.1),.iv (I (an ts x).2.2)]):=fun x hx=>oP ts hs x (by cases a0 with|mk _ h=>exact h x hx)
   have hl:l.length*104<=140737488355328:=by cases a0 with|mk hl _=>exact hl
   have hc:(Ex.mk op v s name n l).cs= [I op,I v.k,I v.n,S v.s,S s,S name,I n,.sl (l.map Ex.c)]:=rfl;rw[iJ,hc];clear hc a0;refine CallG.toA (iG func116 ntmps116 (fun w0 E0 hG=> ?_));refine wz ?_;refine L.adopt 7 (s:=7) (t:=78) (k:=8) U U U ?_;refine L.adoptB 8 108 3 1 U sP U U (.cons .here .nil) ?_;refine ae (ι:=Nat) (fun i=>⟨[(21,aI (i:Int)),(20,aI ((l.map Ex.c).length:Int)),(19,.iv (.sl (l.map Ex.c))),(7,.row 7 (((l.take i).map fun x=>(an ts x).1).map Ex.c)),(0,.iv (.sl (ts.map A4.c))),(3,.ptr 3 0),(4,.ptr 4 0),(8,.ptr 8 0),(5,aI 0),(6,aI 0)],
    [(3,⟨78,.l [.iv (I op),.iv (I v.k),.iv (I v.n),.iv (S v.s),.iv (S s),.iv (S name),.iv (I n),.iv (.sl (l.map Ex.c))]⟩),(4,⟨78,.l [.iv (I 0),.iv (I 0),.iv (I 0),.iv (S []),.iv (S []),.iv (S []),.iv (I 0),.nils]⟩),(8,⟨147,.l [.row 108 (((l.take i).map fun x=>(an ts x).2.1).map nh)]⟩)],[(7,⟨78,8⟩),(108,⟨3,1⟩)]⟩) (fun i=>l.length - i) (fun i=> ∀x∈l.take i,(an ts x).2.2=0) (i0:=0) ?_ sP ?_
   · exact df
   intro i hI K hK;cases hx:l[i]? with
   |some x=>
    have a4:=fZ (l:=l.map Ex.c) (cM (f:=Ex.c) hx);have a6:=fM hx;have a3:=ih x (gE hx);have g1:(l.map Ex.c)[((i:Nat):Int).toNat]?=some [I x.op,I x.v.k,I x.v.n,S x.v.s,S x.s,S x.name,I x.n,.sl (x.l.map Ex.c)]:=by rw[iN,gP,hx];exact congrArg some (aN x)
    have n1:((l.take (i+1)).map fun x=>(an ts x).1).map Ex.c=((l.take i).map fun x=>(an ts x).1).map Ex.c++ [(an ts x).1.cs]:=by rw[dv hx,pA,pA];exact congrArg _ (by simp[aN])
    have n2:((l.take (i+1)).map fun x=>(an ts x).2.1).map nh=((l.take i).map fun x=>(an ts x).2.1).map nh++ [nh (an ts x).2.1]:=by rw[dv hx];simp
    have l1:(((l.take i).map fun x=>(an ts x).1).map Ex.c).length=i:=by simp;omega
    have l2:(((l.take i).map fun x=>(an ts x).2.1).map nh).length=i:=by simp;omega
    have k1: ∀e∈((l.take i).map fun x=>(an ts x).1).map Ex.c,e.length=8:=fun e he=>by obtain⟨y,_,rfl⟩:=mM he;rw[aN];rfl
    have k2: ∀e∈((l.take i).map fun x=>(an ts x).2.1).map nh,e.length=1:=fun e he=>by obtain⟨y,_,rfl⟩:=mM he;rfl
    by_cases hf:(an ts x).2.2=0
    · have a5:=Co (g:=fun x=>(an ts x).2.2) hI hx hf;generalize an ts x=r at*
      obtain⟨e,ty,f⟩:=r;dsimp only at hf a3 n1 n2;subst hf;generalize ((l.take i).map fun x=>(an ts x).1).map Ex.c=es at*
      generalize ((l.take i).map fun x=>(an ts x).2.1).map nh=T at*
      clear hI ih;(repeat' first|intro hb hp|(refine DR.is ?_;first|(refine rh U U U U (by first|exact k1|exact k2) (by first|exact a1 U|exact bB U bV) (by first|(simp[maxLen,ah,l1];omega)|(simp[maxLen,ah,l2];omega)) (by first|(simp[ah,l1];omega)|(simp[ah,l2];omega)) U U ?_))|refine am ?_|refine al ?_ ?_|fail)
      refine L.onlyS [21,20,19,7,0,3,4,8,5,6] [3,4,8] U ?_;refine L.retok 7 39 7 U U U U ?_;refine Ca 8 43 108 U sP U U U (.cons .row .nil) ?_;refine hK _ (i+1) a5 C (Wk.mk' kK (wF (wF (wF (.cons U (Sub.of_eq (congrArg (AV.row 7) n1.symm)) F6)))) (wB (wB (.cons U U (Subs.cons (Sub.of_eq (congrArg (AV.row 108) n2.symm)) .nil) .nil))) (.cons U (.cons U .nil)))
    · have he:=LZ (g:=fun x=>(an ts x).2.2) hI hx hf;rw[he];generalize an ts x=r at*
      obtain⟨e,ty,f⟩:=r;dsimp only at hf a3 n1 n2 he|-;have hb:bQ ts op v s name n f (l.map fun x=>(an ts x).1) (l.map fun x=>(an ts x).2.1)=(nilE,0,f):=by rw[bQ,if_pos hf]
      rw[hb];have q:(f !=0)=true:=by simpa using hf
      refine wz ?_;all_goals refine aU ?_
      all_goals rfl
   |none=>
    have a4:=gc (l:=l.map Ex.c) (bz hx);have hN:l.take i=l:=tL (gO hx);rw[hN] at hI|-;rw[LY (g:=fun x=>(an ts x).2.2) hI];have ll:(l.map fun x=>(an ts x).2.1).length=l.length:=by simp
    generalize (l.map fun x=>(an ts x).1)=es at*
    generalize (l.map fun x=>(an ts x).2.1)=T at*
    have kb:=fun(k:Int) (b:Bool) (h:wD k T=b)=>(h▸(FT (gs:= []) k T C).at1 (q:=8) U U U U:CallG [] prog 155 ([aI k] ++ [.ptr 8 0]) [(8,⟨147,.l [.iv (.sl (T.map nh))]⟩)] [(8,⟨147,.l [.iv (.sl (T.map nh))]⟩)] [] (aB b))
    have kf:=Ih ts (.mk op v s name n es) hs;clear hI ih hK hx hN;by_cases h1:op=1
    · subst h1;have e:bQ ts 1 v s name n 0 es T=(.mk 1 v s name n es,v.k,0):=by simp[bQ]
      rw[e];(repeat' first|intro hb hp|refine ag rfl (aA U) ?_|refine am ?_|refine al ?_ ?_|fail)
      all_goals refine aU ?_
      all_goals rfl
    have q1:(op==1)=false:=by simp[h1]
    by_cases h2:op=2
    · subst h2;have e:bQ ts 2 v s name n 0 es T=(.mk 2 v s name (eF ts s name).1 es,(eF ts s name).2.1,(eF ts s name).2.2):=by simp[bQ]
      rw[e];have kf:CallA _ _ _ _ _ _ (.tup [.iv (I (eF ts s name).1),.iv (I (eF ts s name).2.1),.iv (I (eF ts s name).2.2)]):=kf;generalize eF ts s name=r at*
      (repeat' first|intro hb hp|refine ag rfl (aA U) ?_|refine am ?_|refine al ?_ ?_|fail)
      all_goals refine aU ?_
      all_goals rfl
    have q2:(op==2)=false:=by simp[h2]
    by_cases aR:op=3\/op=4
    · cases ha:wD 1 T with
      |true=>
       have e:bQ ts op v s name n 0 es T=(.mk op v s name n es,1,0):=by rcases aR with rfl|rfl<;>simp[bQ,ha]
       rw[e];have kc:=kb 1 true ha;rcases aR with rfl|rfl;all_goals(repeat' first|intro hb hp|refine ag rfl (aA U) ?_|refine aZ (f:=155) (caps:= [.ptr 8 0]) U hG U kc U (.cons U U (Subs.cons (Sub.row _ _) .nil) .nil) U U ?_|refine am ?_|refine al ?_ ?_|fail)
       all_goals refine aU ?_
       all_goals rfl
      |false=>
       have e:bQ ts op v s name n 0 es T=wC:=by rcases aR with rfl|rfl<;>simp[bQ,ha]
       rw[e];have kc:=kb 1 false ha;rcases aR with rfl|rfl;all_goals(repeat' first|intro hb hp|refine ag rfl (aA U) ?_|refine aZ (f:=155) (caps:= [.ptr 8 0]) U hG U kc U (.cons U U (Subs.cons (Sub.row _ _) .nil) .nil) U U ?_|refine am ?_|refine al ?_ ?_|fail)
       all_goals refine aU ?_
       all_goals rfl
    have q3:(op==3)=false:=by simp;omega
    have q4:(op==4)=false:=by simp;omega
    by_cases ar:op=5\/op=6
    · cases ha:wD 1 T with
      |true=>
       have e:bQ ts op v s name n 0 es T=(.mk op v s name n es,3,0):=by rcases ar with rfl|rfl<;>simp[bQ,ha]
       rw[e];have kc:=kb 1 true ha;rcases ar with rfl|rfl;all_goals(repeat' first|intro hb hp|refine ag rfl (aA U) ?_|refine aZ (f:=155) (caps:= [.ptr 8 0]) U hG U kc U (.cons U U (Subs.cons (Sub.row _ _) .nil) .nil) U U ?_|refine am ?_|refine al ?_ ?_|fail)
       all_goals refine aU ?_
       all_goals rfl
      |false=>
       have kc:=kb 1 false ha;cases hb:wD 2 T with
       |true=>
        have e:bQ ts op v s name n 0 es T=(.mk op v s name n es,3,0):=by rcases ar with rfl|rfl<;>simp[bQ,ha,hb]
        rw[e];have kd:=kb 2 true hb;rcases ar with rfl|rfl;all_goals(repeat' first|intro hb hp|refine ag rfl (aA U) ?_|refine aZ (f:=155) (caps:= [.ptr 8 0]) U hG U kc U (.cons U U (Subs.cons (Sub.row _ _) .nil) .nil) U U ?_|refine aZ (f:=155) (caps:= [.ptr 8 0]) U hG U kd U B1 U U ?_|refine am ?_|refine al ?_ ?_|fail)
        all_goals refine aU ?_
        all_goals rfl
       |false=>
        have e:bQ ts op v s name n 0 es T=wC:=by rcases ar with rfl|rfl<;>simp[bQ,ha,hb]
        rw[e];have kd:=kb 2 false hb;rcases ar with rfl|rfl;all_goals(repeat' first|intro hb hp|refine ag rfl (aA U) ?_|refine aZ (f:=155) (caps:= [.ptr 8 0]) U hG U kc U (.cons U U (Subs.cons (Sub.row _ _) .nil) .nil) U U ?_|refine aZ (f:=155) (caps:= [.ptr 8 0]) U hG U kd U B1 U U ?_|refine am ?_|refine al ?_ ?_|fail)
        all_goals refine aU ?_
        all_goals rfl
    have q5:(op==5)=false:=by simp;omega
    have q6:(op==6)=false:=by simp;omega
    by_cases ad:op=7\/op=8\/op=9
    · cases ha:wD 3 T with
      |true=>
       have e:bQ ts op v s name n 0 es T=(.mk op v s name n es,3,0):=by rcases ad with rfl|rfl|rfl<;>simp[bQ,ha]
       rw[e];have kc:=kb 3 true ha;rcases ad with rfl|rfl|rfl;all_goals(repeat' first|intro hb hp|refine ag rfl (aA U) ?_|refine aZ (f:=155) (caps:= [.ptr 8 0]) U hG U kc U (.cons U U (Subs.cons (Sub.row _ _) .nil) .nil) U U ?_|refine am ?_|refine al ?_ ?_|fail)
       all_goals refine aU ?_
       all_goals rfl
      |false=>
       have e:bQ ts op v s name n 0 es T=wC:=by rcases ad with rfl|rfl|rfl<;>simp[bQ,ha]
       rw[e];have kc:=kb 3 false ha;rcases ad with rfl|rfl|rfl;all_goals(repeat' first|intro hb hp|refine ag rfl (aA U) ?_|refine aZ (f:=155) (caps:= [.ptr 8 0]) U hG U kc U (.cons U U (Subs.cons (Sub.row _ _) .nil) .nil) U U ?_|refine am ?_|refine al ?_ ?_|fail)
       all_goals refine aU ?_
       all_goals rfl
    have q7:(op==7)=false:=by simp;omega
    have q8:(op==8)=false:=by simp;omega
    have q9:(op==9)=false:=by simp;omega
    by_cases a2:op=10
    · subst a2;have e:bQ ts 10 v s name n 0 es T=(.mk 10 v s name n es,3,0):=by simp[bQ]
      rw[e];(repeat' first|intro hb hp|refine ag rfl (aA U) ?_|refine am ?_|refine al ?_ ?_|fail)
      all_goals refine aU ?_
      all_goals rfl
    have a7:(op==10)=false:=by simp[a2]
    have e:bQ ts op v s name n 0 es T=wC:=by simp[bQ,h1,h2,aR,ar,ad,a2]
    rw[e];(repeat' first|intro hb hp|refine ag rfl (aA U) ?_|refine am ?_|refine al ?_ ?_|fail)
    all_goals refine aU ?_
    all_goals rfl
 termination_by e=>SizeOf.sizeOf e
 decreasing_by
  have:=List.sizeOf_lt_of_mem hx;simp;omega
def dw(ts:List A4)(e:Ex)(k:Int):Ex×Int:=
 if(an ts e).2.2≠0 then(nilE,(an ts e).2.2)
 else if((an ts e).2.1 !=k) && ((an ts e).2.1 !=0) then(nilE,5) else((an ts e).1,0)
def dN(ts:List A4)(e:Ex):Ex×Int:=if e.op=0 then(e,0) else dw ts e 3
def uY(ts:List A4)(hs:Sc ts)(e:Ex)(ad:e.Ok)(k:Int):
 CallA prog 112 [.iv (.sl (ts.map A4.c)),.agg (e.cs.map .iv),aI k] [] [] [] (.tup [.agg ((dw ts e k).1.cs.map .iv),.iv (I (dw ts e k).2)]):=by
 have kb:=oP ts hs e ad;unfold dw;generalize an ts e=r at*
 obtain⟨b,t,f⟩:=r;dsimp only at kb|-;obtain⟨op,v,s,name,n,l⟩:=e;have hc:(Ex.mk op v s name n l).cs= [I op,I v.k,I v.n,S v.s,S s,S name,I n,.sl (l.map Ex.c)]:=rfl;rw[hc] at kb|-;refine iA func112 ntmps112 (fun w0 E0=> ?_);by_cases T:f=0
 · have q:(f !=0)=false:=by simp[T]
   rw[if_neg (by simp[T])];cases h1:t !=k with
   |false=>
    rw[Bool.false_and,if_neg sP];refine wz ?_;all_goals refine aU ?_
    all_goals rfl
   |true=>
    cases h2:t !=0 with
    |false=>
     rw[Bool.and_false,if_neg sP];refine wz ?_;all_goals refine aU ?_
     all_goals rfl
    |true=>
     rw[Bool.and_true,if_pos U];refine wz ?_;all_goals refine aU ?_
     all_goals rfl
 · have q:(f !=0)=true:=by simp[T]
   rw[if_pos T];refine wz ?_;all_goals refine aU ?_
   all_goals rfl
def rp(ts:List A4)(hs:Sc ts)(e:Ex)(T:e.Ok):
 CallA prog 115 [.iv (.sl (ts.map A4.c)),.agg (e.cs.map .iv)] [] [] [] (.tup [.agg ((dN ts e).1.cs.map .iv),.iv (I (dN ts e).2)]):=by
 have kb:=uY ts hs e T 3;unfold dN;generalize dw ts e 3=r at*
 obtain⟨b,f⟩:=r;dsimp only at kb|-;obtain⟨op,v,s,name,n,l⟩:=e;have hc:(Ex.mk op v s name n l).cs= [I op,I v.k,I v.n,S v.s,S s,S name,I n,.sl (l.map Ex.c)]:=rfl;have ho:(Ex.mk op v s name n l).op=op:=rfl;rw[ho];refine iA func115 ntmps115 (fun w0 E0=> ?_);by_cases h0:op=0
 · have q:(op==0)=true:=by simp[h0]
   rw[if_pos h0,hc];rw[hc] at kb;refine wz ?_;all_goals refine aU ?_
   all_goals rfl
 · have q:(op==0)=false:=by simp[h0]
   rw[if_neg h0,hc];rw[hc] at kb;refine wz ?_;all_goals refine aU ?_
   all_goals rfl
inductive Ex.OkS:Ex->Prop
 |mk {op:Int} {v:A3} {s name:List UInt8} {n:Int} {l:List Ex} (hl:l.length*104<=140737488355328) (hs:s.length<=140737488355328) (hn:name.length<=140737488355328) (h: ∀x∈l,x.OkS):Ex.OkS (.mk op v s name n l)
def tv:List (Int×Int):= [(1,0),(2,0),(3,2),(4,2),(5,2),(6,2),(7,2),(8,2),(9,1),(10,1)]
def gl(op:Int)(v:A3)(s name:Str):Bool:=((op==1) && !au v)||((op==2) && !(bF name && ((s== [])||bF s)))
def bX(d:Int):Ex->Bool
 | .mk op v s name n l=>match lookM tv op with
   |none=>false
   |some k=> !(((l.length:Int) !=k)||decide (40<d)) && (!gl op v s name && !((l.attach.map fun x=>bX (d+1) x.1).any (fun b=> !b)))
 decreasing_by
  have:=List.sizeOf_lt_of_mem x.2;simp;omega
def gD(d op:Int)(v:A3)(s name:Str)(n:Int)(l:List Ex):bX d (.mk op v s name n l)=match lookM tv op with
 |none=>false
 |some k=> !(((l.length:Int) !=k)||decide (40<d)) && (!gl op v s name && !(l.any (fun x=> !bX (d+1) x))):=by
 rw[bX];have e:(l.attach.map fun x=>bX (d+1) x.1)=l.map (bX (d+1)):=by simp
 rw[e,List.any_map];rfl
def ct:G4 prog 174:=⟨3,3,by kernel_rfl,by kernel_rfl,by kernel_rfl⟩
def Be{d:Int}(hd:d<=40)(T:0<=d){x:Ex}{b:Bool}(h:CallG tD prog 88 [.agg (x.cs.map .iv),aI (d+1)] [] [] [] (aB b)):
 CallG tD prog 110 [.agg (x.cs.map .iv),.ptr 1000 0] [(1000,⟨3,.l [aI d]⟩)] [(1000,⟨3,.l [aI d]⟩)] [] (aB (!b)):=by
 refine iG func110 ntmps110 (fun w0 E0 hG=> ?_);refine wz ?_;all_goals exact L.ends U U fR wK
def vv: ∀(e:Ex) (ar:e.OkS) (d:Int) (a2:0<=d) (hd:d<=41),CallG tD prog 88 [.agg (e.cs.map .iv),aI d] [] [] [] (aB (bX d e))
 | .mk op v s name n l,ar,d,a2,hd=>by
   have ih:d<=40-> ∀x∈l,CallG tD prog 88 [.agg (x.cs.map .iv),aI (d+1)] [] [] [] (aB (bX (d+1) x)):=fun aR x hx=>vv x (by cases ar with|mk _ _ _ h=>exact h x hx) (d+1) C C
   obtain⟨hl,a4,a5⟩:l.length*104<=140737488355328/\s.length<=140737488355328/\name.length<=140737488355328:=by cases ar with|mk hl hs hn _=>exact⟨hl,hs,hn⟩
   have hc:(Ex.mk op v s name n l).cs= [I op,I v.k,I v.n,S v.s,S s,S name,I n,.sl (l.map Ex.c)]:=rfl;rw[gD,hc];clear hc ar;have kn:=jd name a5;have ks:=jd s a4;have kv:=aY v;have ll:(((l.map Ex.c).length:Nat):Int)=(l.length:Int):=by simp
   refine iG func88 ntmps88 (fun w0 E0 hG=> ?_);refine wz ?_;refine LW.mk (LM.make U U U U (fun b=> ?_));refine LM.insert U U U U U U ct U ?_;refine LM.insert U U U U U U ct U ?_;refine LM.insert U U U U U U ct U ?_;refine LM.insert U U U U U U ct U ?_;refine LM.insert U U U U U U ct U ?_;refine LM.insert U U U U U U ct U ?_;refine LM.insert U U U U U U ct U ?_;refine LM.insert U U U U U U ct U ?_;refine LM.insert U U U U U U ct U ?_;refine LM.insert U U U U U U ct U ?_;refine DK hG U U (fun c' a3 hk hm ad=> ?_);obtain⟨nt,a7,a8,a6⟩:=c';obtain rfl:=hk.nt;obtain rfl:=a3;refine LW.out ?_;have hm:EQ _ b tv:=hm;cases ha:lookM tv op with
   |none=>
    have T:AV.tup [aI ((lookM tv op).getD 0),aB (lookM tv op).isSome] = .tup [aI 0,aB false]:=by rw[ha];rfl
    (repeat' first|intro hb hp|refine ag rfl (jj ct hm U U T) ?_|refine am ?_|refine al ?_ ?_|fail)
    all_goals(refine mi hk ?_)
    all_goals refine aU ?_
    all_goals rfl
   |some k=>
    have T:AV.tup [aI ((lookM tv op).getD 0),aB (lookM tv op).isSome] = .tup [aI k,aB true]:=by rw[ha];rfl
    dsimp only;cases h1:(((l.map Ex.c).length:Nat):Int) !=k with
    |true=>
     have a0:((l.length:Int) !=k)=true:=by rw[<-ll];exact h1
     rw[a0,Bool.true_or];(repeat' first|intro hb hp|refine ag rfl (jj ct hm U U T) ?_|refine am ?_|refine al ?_ ?_|fail)
     all_goals(refine mi hk ?_)
     all_goals refine aU ?_
     all_goals rfl
    |false=>
    have a0:((l.length:Int) !=k)=false:=by rw[<-ll];exact h1
    rw[a0,Bool.false_or];cases h2:decide (40<d) with
    |true=>
     (repeat' first|intro hb hp|refine ag rfl (jj ct hm U U T) ?_|refine am ?_|refine al ?_ ?_|fail)
     all_goals(refine mi hk ?_)
     all_goals refine aU ?_
     all_goals rfl
    |false=>
    have aR:d<=40:=by have:=of_decide_eq_false h2;omega
    have kc:=wx (gs:=tD) (f:=110) (b:=⟨3,.l [aI d]⟩) (fun x=> !bX (d+1) x) l C U U (fun x hx=>Be aR a2 (ih aR x hx));clear ih;generalize l.any (fun x=> !bX (d+1) x)=q at*
    rw[show(!false && (!gl op v s name && !q))=(!gl op v s name && !q) from rfl];by_cases o1:op=1
    · subst o1;cases hv:au v with
      |false=>
       rw[hv] at kv;rw[show gl 1 v s name=true by simp[gl,hv]];(repeat' first|intro hb hp|refine ag rfl (jj ct hm U U T) ?_|refine am ?_|refine al ?_ ?_|fail)
       all_goals(refine mi hk ?_)
       all_goals refine aU ?_
       all_goals rfl
      |true=>
       rw[hv] at kv;rw[show gl 1 v s name=false by simp[gl,hv]];(repeat' first|intro hb hp|refine ag rfl (jj ct hm U U T) ?_|(refine LW.is ?_;first|refine ag U (aA U) ?_|refine fv (q:=3) U ad kc U U U U U U U ?_)|refine am ?_|refine al ?_ ?_|fail)
       all_goals(refine mi hk ?_)
       all_goals refine aU ?_
       all_goals(cases q<;>rfl)
    have p1:(op==1)=false:=by simp[o1]
    by_cases o2:op=2
    · subst o2;cases hv:bF name with
      |false=>
       rw[hv] at kn;rw[show gl 2 v s name=true by simp[gl,hv]];(repeat' first|intro hb hp|refine ag rfl (jj ct hm U U T) ?_|refine LW.is (dK U ad kn U U ?_)|refine am ?_|refine al ?_ ?_|fail)
       all_goals(refine mi hk ?_)
       all_goals refine aU ?_
       all_goals rfl
      |true=>
      rw[hv] at kn;cases a1:s== [] with
      |true=>
       rw[show gl 2 v s name=false by simp[gl,hv,a1]];(repeat' first|intro hb hp|refine ag rfl (jj ct hm U U T) ?_|(refine LW.is ?_;first|refine dK U ad kn U U ?_|refine ag U (aA U) ?_|refine fv (q:=3) U ad kc U U U U U U U ?_)|refine am ?_|refine al ?_ ?_|fail)
       all_goals(refine mi hk ?_)
       all_goals refine aU ?_
       all_goals(cases q<;>rfl)
      |false=>
      cases hw:bF s with
      |false=>
       rw[hw] at ks;rw[show gl 2 v s name=true by simp[gl,hv,a1,hw]];(repeat' first|intro hb hp|refine ag rfl (jj ct hm U U T) ?_|(refine LW.is ?_;first|refine dK U ad kn U U ?_|refine dK U ad ks U U ?_)|refine am ?_|refine al ?_ ?_|fail)
       all_goals(refine mi hk ?_)
       all_goals refine aU ?_
       all_goals rfl
      |true=>
       rw[hw] at ks;rw[show gl 2 v s name=false by simp[gl,hv,a1,hw]];(repeat' first|intro hb hp|refine ag rfl (jj ct hm U U T) ?_|(refine LW.is ?_;first|refine dK U ad kn U U ?_|refine dK U ad ks U U ?_|refine ag U (aA U) ?_|refine fv (q:=3) U ad kc U U U U U U U ?_)|refine am ?_|refine al ?_ ?_|fail)
       all_goals(refine mi hk ?_)
       all_goals refine aU ?_
       all_goals(cases q<;>rfl)
    have p2:(op==2)=false:=by simp[o2]
    rw[show gl op v s name=false by simp[gl,o1,o2]];(repeat' first|intro hb hp|refine ag rfl (jj ct hm U U T) ?_|(refine LW.is ?_;first|refine ag U (aA U) ?_|refine fv (q:=3) U ad kc U U U U U U U ?_)|refine am ?_|refine al ?_ ?_|fail)
    all_goals(refine mi hk ?_)
    all_goals refine aU ?_
    all_goals(cases q<;>rfl)
 termination_by e=>SizeOf.sizeOf e
 decreasing_by
  have:=List.sizeOf_lt_of_mem hx;simp;omega
def qj: ∀l:List Ex,∀e∈l.map Ex.c,e.length=8:=fun l e he=>by obtain⟨y,_,rfl⟩:=mM he;rw[aN];rfl
def FC(n:Nat)(a:Int)(ha:a=n)(hn:0<n)(hl:n*104<=140737488355328):
 CallA prog 153 [.nils,aI a] [] [] [(24,⟨78,8⟩)] (.row 24 []):=by
 refine iA func153 ntmps153 (fun w0 E0=> ?_);have T:decide (a<0)=false:=by simp;omega
 have ad:decide ((0:Int)<a - ((0:Int) - ((([]:List (List IV)).length:Nat):Int)))=true:=by simp;omega
 have hz:((([]:List (List IV)).length:Nat):Int)=0:=rfl;(repeat' first|intro T hp|(refine LW.is ?_;first|refine ag U (nN U) ?_|refine ag U (yq U U U) ?_|refine uv 1000 (m:=n) U U U C hn (by rw[fJ];omega) C U U ?_|refine ag U (uc (n':=0) U U (Int.le_refl _) C U) ?_|refine ag U (pS U U C C) ?_)|refine am ?_|refine al ?_ ?_|fail)
 all_goals(apply L.rowS0 1000 24 4 22;rfl;rfl;omega;rfl;rfl;exact hn;rfl)
 all_goals exact L.ends U U fR (Wk.mk' (by intro id h;simp[keys] at h) .nil .nil (.cons U .nil))
def Ka:CallA prog 153 [.nils,aI 0] [] [] [] .nils:=by
 refine iA func153 ntmps153 (fun w0 E0=> ?_);have T:decide ((0:Int)<0 - ((0:Int) - ((([]:List (List IV)).length:Nat):Int)))=false:=by simp
 have hz:((([]:List (List IV)).length:Nat):Int)=0:=rfl;(repeat' first|intro hb hp|(refine LW.is ?_;first|refine ag U (nN U) ?_|refine ag U (pS U U C C) ?_)|refine am ?_|refine al ?_ ?_|fail)
 all_goals exact L.ends U U fR (Wk.mk' (by intro id h;simp[keys] at h) .nil .nil .nil)
def BG(T:List (List Ex))(h1:T.length<=1000000)(h2:T.flatten.length*104<=140737488355328):
 CallA prog 109 [.iv (.sl (T.map bf))] [] [] [(13,⟨78,8⟩)] (.row 13 (T.flatten.map Ex.c)):=by
 refine iA func109 ntmps109 (fun w0 E0=> ?_);have aR: ∀i,(T.take i).flatten.length<=T.flatten.length:=fun i=>by
  conv=>rhs;rw[<-List.take_append_drop i T,List.flatten_append,gV]
  omega
 have fst: ∀{i:Nat} {A:List Ex},T[i]?=some A->(T.take (i+1)).flatten=(T.take i).flatten++A:=fun h=>by rw[dv h];simp
 refine wz ?_;refine ae (ι:=Nat) (fun i=>⟨[(11,aI (i:Int)),(10,aI ((T.map bf).length:Int)),(9,.iv (.sl (T.map bf))),(3,aI ((T.take i).flatten.length:Int)),(0,.iv (.sl (T.map bf)))],[],[]⟩) (fun i=>T.length - i) (fun i=>True) (i0:=0) ?_ trivial ?_
 · exact df
 intro i _ K hK;cases hx:T[i]? with
 |some A=>
  have ad:=fZ (l:=T.map bf) (cM (f:=bf) hx);have ar:=fM hx;have g1:(T.map bf)[((i:Nat):Int).toNat]?=some [.sl (A.map Ex.c)]:=by rw[iN,gP,hx];rfl
  have hA:=fst hx;have hB:=aR (i+1);rw[hA,gV] at hB;have lA:(A.map Ex.c).length=A.length:=lM _;have hn:decide (((T.take i).flatten.length:Int)+((A.map Ex.c).length:Int)<0)=false:=by simp;omega
  (repeat' first|intro hb hp|(refine LW.is ?_;first|refine ag U (iU U U (by rw[lA];omega) (by rw[lA];omega)) ?_)|refine am ?_|refine al ?_ ?_|fail)
  refine hK _ (i+1) trivial C (Wk.mk' kK (wF (wF (wF (.cons U (Sub.of_eq ?_) F1)))) .nil .nil);rw[hA,gV,<-lA];rfl
 |none=>
  have ad:=gc (l:=T.map bf) (bz hx);rw[br hx];clear hK hx;have kg: ∀n:Nat,n=T.flatten.length->0<n->CallA prog 153 [.nils,aI (T.flatten.length:Int)] [] [] [(24,⟨78,8⟩)] (.row 24 []):=fun n hn h0=>FC n _ C h0 C
  by_cases h0:T.flatten.length=0
  · rw[h0];have kz:=Ka;(repeat' first|intro hb hp|refine Aq rfl kz rfl rfl ?_|refine am ?_|refine al ?_ ?_|fail)
    refine L.adopt 24 (s:=6) (t:=78) (k:=8) U U U ?_;refine ae (ι:=Nat) (fun i=>⟨[(27,aI (i:Int)),(26,aI ((T.map bf).length:Int)),(25,.iv (.sl (T.map bf))),(6,.row 24 ((T.take i).flatten.map Ex.c))],[],[(24,⟨78,8⟩)]⟩) (fun i=>T.length - i) (fun i=>True) (i0:=0) ?_ trivial ?_
    · exact df
    intro i _ K hK;cases hx:T[i]? with
    |some A=>
     have ad:=fZ (l:=T.map bf) (cM (f:=bf) hx);have ar:=fM hx;have g1:(T.map bf)[((i:Nat):Int).toNat]?=some [.sl (A.map Ex.c)]:=by rw[iN,gP,hx];rfl
     have hA:=fst hx;have hB:=aR (i+1);rw[hA,gV] at hB;(repeat' first|intro hb hp|(refine LW.is ?_;first|refine bJ U U U U (qj _) (qj _) (by rw[lM,lM,fJ];omega) (by rw[lM,lM];omega) U U ?_)|refine am ?_|refine al ?_ ?_|fail)
     refine L.only [27,26,25,6] ?_;refine L.retok 6 33 24 U U U U ?_;refine hK _ (i+1) trivial C (Wk.mk' kK (wF (wF (wF (.cons U (Sub.of_eq (congrArg (AV.row 24) (by rw[hA,pA]))) .nil)))) .nil (.cons U .nil))
    |none=>
     have ad:=gc (l:=T.map bf) (bz hx);rw[br hx];refine wz ?_;all_goals(refine L.only [2] ?_)
     all_goals(refine L.retok 2 24 13 U U U U ?_)
     all_goals exact L.ends U U fR (Wk.mk' (by intro id h;simp[keys] at h) .nil .nil (.cons U .nil))
  · have kr:=kg _ U C;(repeat' first|intro hb hp|refine uw rfl kr rfl rfl ?_|refine am ?_|refine al ?_ ?_|fail)
    refine ae (ι:=Nat) (fun i=>⟨[(27,aI (i:Int)),(26,aI ((T.map bf).length:Int)),(25,.iv (.sl (T.map bf))),(6,.row 24 ((T.take i).flatten.map Ex.c))],[],[(24,⟨78,8⟩)]⟩) (fun i=>T.length - i) (fun i=>True) (i0:=0) ?_ trivial ?_
    · exact df
    intro i _ K hK;cases hx:T[i]? with
    |some A=>
     have ad:=fZ (l:=T.map bf) (cM (f:=bf) hx);have ar:=fM hx;have g1:(T.map bf)[((i:Nat):Int).toNat]?=some [.sl (A.map Ex.c)]:=by rw[iN,gP,hx];rfl
     have hA:=fst hx;have hB:=aR (i+1);rw[hA,gV] at hB;(repeat' first|intro hb hp|(refine LW.is ?_;first|refine bJ U U U U (qj _) (qj _) (by rw[lM,lM,fJ];omega) (by rw[lM,lM];omega) U U ?_)|refine am ?_|refine al ?_ ?_|fail)
     refine L.only [27,26,25,6] ?_;refine L.retok 6 33 24 U U U U ?_;refine hK _ (i+1) trivial C (Wk.mk' kK (wF (wF (wF (.cons U (Sub.of_eq (congrArg (AV.row 24) (by rw[hA,pA]))) .nil)))) .nil (.cons U .nil))
    |none=>
     have ad:=gc (l:=T.map bf) (bz hx);rw[br hx];refine wz ?_;all_goals(refine L.only [2] ?_)
     all_goals(refine L.retok 2 24 13 U U U U ?_)
     all_goals exact L.ends U U fR (Wk.mk' (by intro id h;simp[keys] at h) .nil .nil (.cons U .nil))
def dq(s:A9):List Ex:=((s.out++s.ord++s.rows.flatten)++s.sets.map D4.e)++(if s.wh.op=0 then [] else [s.wh])
structure A9.Ok (s:A9):Prop where
 tot:(s.out.length+s.ord.length+s.rows.flatten.length+s.sets.length+1)*104<=140737488355328
 rows:s.rows.length*24<=140737488355328
 sets:s.sets.length*120<=140737488355328
 cols:s.cols.length<=140737488355328
 frm:s.frm.length<=140737488355328
 all: ∀e∈dq s,e.OkS
 wh:s.wh.OkS
 name:s.name.length<=140737488355328
 table:s.table.length<=140737488355328
 col:s.col.length<=140737488355328
 cn: ∀c∈s.cols,c.n.length<=140737488355328
def FF(s:A9)(aR:s.Ok):CallA prog 86 [.agg (s.cs.map .iv)] [] [] [] (.iv (.sl ((dq s).map Ex.c))):=by
 have T:=aR.tot;have a1:=aR.rows;clear aR;obtain⟨kind,name,table,col,cols,rows,sets,frm,out,wh,ord,down,n⟩:=s;dsimp only at T a1;have kc:=BG [out,ord] sP (by simp;omega);rw[show [out,ord].flatten=out++ord by simp] at kc;unfold dq;dsimp only;refine iA func86 ntmps86 (fun w0 E0=> ?_);have a2: ∀i,(rows.take i).flatten.length<=rows.flatten.length:=fun i=>by
  conv=>rhs;rw[<-List.take_append_drop i rows,List.flatten_append,gV]
  omega
 have fst: ∀{i:Nat} {A:List Ex},rows[i]?=some A->(rows.take (i+1)).flatten=(rows.take i).flatten++A:=fun h=>by rw[dv h];simp
 refine wz ?_;refine ae (ι:=Nat) (fun i=>⟨[(17,aI (i:Int)),(16,aI ((rows.map bf).length:Int)),(15,.iv (.sl (rows.map bf))),(3,.row 13 ((out++ord++(rows.take i).flatten).map Ex.c)),(1,.ptr 1 0)],[(1,⟨80,.l ((A9.cs ⟨kind,name,table,col,cols,rows,sets,frm,out,wh,ord,down,n⟩).map .iv)⟩)],[(13,⟨78,8⟩)]⟩) (fun i=>rows.length - i) (fun i=>True) (i0:=0) ?_ trivial ?_
 · refine Wk.mk' kK (wF (wF (wF (.cons U (Sub.of_eq (congrArg (AV.row 13) sP)) F1)))) B1 (.cons U .nil)
 intro i _ K hK;cases hx:rows[i]? with
 |some A=>
  have a3:=fZ (l:=rows.map bf) (cM (f:=bf) hx);have a5:=fM hx;have g1:(rows.map bf)[((i:Nat):Int).toNat]?=some [.sl (A.map Ex.c)]:=by rw[iN,gP,hx];rfl
  have hA:=fst hx;have hB:=a2 (i+1);rw[hA,gV] at hB;(repeat' first|intro hb hp|(refine LW.is ?_;first|refine bJ U U U U (qj _) (qj _) (by simp only[lM,gV,fJ];omega) (by simp only[lM,gV];omega) U U ?_)|refine am ?_|refine al ?_ ?_|fail)
  refine L.only [17,16,15,3,1] ?_;refine L.retok 3 23 13 U U U U ?_;refine hK _ (i+1) trivial C (Wk.mk' kK (wF (wF (wF (.cons U (Sub.of_eq (congrArg (AV.row 13) (by rw[hA];simp))) F1)))) B1 (.cons U .nil))
 |none=>
 have a3:=gc (l:=rows.map bf) (bz hx);rw[br hx];clear hK hx;generalize hP:out++ord++rows.flatten=P at*
 have lP:P.length=out.length+ord.length+rows.flatten.length:=by rw[<-hP,gV,gV]
 clear hP;have ad:(P.length+sets.length+1)*104<=140737488355328:=by rw[lP];exact T
 have ar:P.length+sets.length+1<=1353245080340:=by clear T;omega
 refine wz ?_;refine ae (ι:=Nat) (fun i=>⟨[(28,aI (i:Int)),(27,aI ((sets.map D4.c).length:Int)),(26,.iv (.sl (sets.map D4.c))),(3,.row 13 ((P++(sets.take i).map D4.e).map Ex.c)),(1,.ptr 1 0)],[(1,⟨80,.l ((A9.cs ⟨kind,name,table,col,cols,rows,sets,frm,out,wh,ord,down,n⟩).map .iv)⟩)],[(13,⟨78,8⟩)]⟩) (fun i=>sets.length - i) (fun i=>True) (i0:=0) ?_ trivial ?_
 · refine Wk.mk' kK (wF (wF (wF (.cons U (Sub.of_eq (congrArg (AV.row 13) sP)) F1)))) B1 (.cons U .nil)
 intro j _ K hK;cases hy:sets[j]? with
 |some x=>
  have a0:=fZ (l:=sets.map D4.c) (cM (f:=D4.c) hy);have a4:=fM hy;have g1:(sets.map D4.c)[((j:Nat):Int).toNat]?=some [S x.co,I x.e.op,I x.e.v.k,I x.e.v.n,S x.e.v.s,S x.e.s,S x.e.name,I x.e.n,.sl (x.e.l.map Ex.c)]:=by rw[iN,gP,hy];rfl
  have hT:(sets.take (j+1)).map D4.e=(sets.take j).map D4.e++ [x.e]:=by rw[dv hy];simp
  have hl:((P++(sets.take j).map D4.e).map Ex.c).length<=P.length+sets.length:=by rw[lM,gV,lM,lT];omega
  have bm:((P++(sets.take j).map D4.e).map Ex.c).length+1<=maxLen:=Nat.le_trans (Nat.succ_le_succ hl) (Nat.le_trans ar (by rw[fJ];decide));have bb:(((P++(sets.take j).map D4.e).map Ex.c).length+1)*104<=225000000000000:=Nat.le_trans (mR 104 (Nat.succ_le_succ hl)) (Nat.le_trans ad dD);(repeat' first|intro hb hp|refine LW.is (bJ U U U U (qj _) (bB U bV) bm bb U U ?_)|refine am ?_|refine al ?_ ?_|fail)
  refine L.onlyS [28,27,26,3,1] [1] U ?_;refine L.retok 3 36 13 U U U U ?_;refine hK _ (j+1) trivial C (Wk.mk' kK (wF (wF (wF (.cons U (Sub.of_eq (congrArg (AV.row 13) (by rw[hT,<-List.append_assoc,pA (l₂:= [x.e])];exact congrArg _ (congrArg (· :: []) (aN x.e).symm)))) F1)))) B1 (.cons U .nil))
 |none=>
 have a0:=gc (l:=sets.map D4.c) (bz hy);rw[br hy];clear hK hy;generalize hR:P++sets.map D4.e=R at*
 have lR:R.length=P.length+sets.length:=by rw[<-hR];simp
 clear hR;by_cases h0:wh.op=0
 · have q:(wh.op !=0)=false:=by simp[h0]
   rw[if_pos h0,List.append_nil];refine wz ?_;all_goals refine aU ?_
   all_goals rfl
 · have q:(wh.op !=0)=true:=by simp[h0]
   rw[if_neg h0];have bm:(R.map Ex.c).length+1<=maxLen:=by rw[lM,lR];exact Nat.le_trans ar (by rw[fJ];decide)
   have bb:((R.map Ex.c).length+1)*104<=225000000000000:=by rw[lM,lR];exact Nat.le_trans ad dD
   (repeat' first|intro hb hp|refine LW.is (bJ U U U U (qj _) (bB U bV) bm bb U U ?_)|refine am ?_|refine al ?_ ?_|fail)
   all_goals refine aU ?_
   all_goals(rw[pA];exact congrArg AV.iv (congrArg IV.sl (congrArg (R.map Ex.c++ ·) (congrArg (· :: []) (aN wh).symm))))
end Go.Proofs.Y
