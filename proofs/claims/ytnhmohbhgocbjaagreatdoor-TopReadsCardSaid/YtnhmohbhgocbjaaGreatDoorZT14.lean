/- Lemmas towards the law. Conditions: each one says its own. -/
import Derived.Test.YtnhmohbhgocbjaaGreatDoorZT9
import Derived.Test.YtnhmohbhgocbjaaGreatDoorZT11
set_option linter.all false
set_option maxHeartbeats 64000000
set_option maxRecDepth 100000
namespace Go.Proofs.Y
open Go.Abs Go.Proofs.Tryz
attribute [local irreducible] L Code.wp bodyPost Exit.then Exit.inBlock
def lU{α:Type}{l:List α}{g:α→Int}{i:Nat}{x:α}(h: ∀y∈l.take i,g y=0)(hx:l[i]?=some x)(hp:g x≠0):eG (l.map g)=g x:=by
 have hi:=(gS hx).1;have e:l.map g=(l.take i).map g++g x::(l.drop (i+1)).map g:=by
  rw[←List.map_cons,←pA,←(gS hx).2,←List.drop_eq_getElem_cons hi,List.take_append_drop]
 have hn:((l.take i).map g).find? (fun f=>f !=0)=none:=List.find?_eq_none.2 (fun y hy=>by obtain⟨z,hz,rfl⟩:=mM hy;simp[h z hz]);have hq:(g x !=0)=true:=by simpa using hp
 rw[eG,e,List.find?_append,hn,List.find?_cons,hq];rfl
def nD{α:Type}{l:List α}{g:α→Int}(h: ∀y∈l,g y=0):eG (l.map g)=0:=by
 have hn:(l.map g).find? (fun f=>f !=0)=none:=List.find?_eq_none.2 (fun y hy=>by obtain⟨z,hz,rfl⟩:=mM hy;simp[h z hz]);rw[eG,hn];rfl
def gA{α:Type}{g:α→Int}{l:List α}{i:Nat}{x:α}(h: ∀y∈l.take i,g y=0)(hx:l[i]?=some x)(hp:g x=0): ∀y∈l.take (i+1),g y=0:=fun y hy=>by
 rw[List.take_add_one,hx] at hy;rcases mA hy with hy|hy
 · exact h y hy
 · simp at hy;subst hy;exact hp
def nT{α:Type}{l:List α}{i:Nat}{x:α}(h:l[i]?=some x):l.zipIdx[i]?=some (x,i):=by simp[List.getElem?_zipIdx,h]
def qC{α:Type}{l:List α}{i:Nat}(h:l[i]?=none):l.zipIdx[i]?=none:=by simpa[List.getElem?_zipIdx] using h
def np:List AV:= [.iv (I 0),.iv (S []),.iv (S []),.iv (S []),.nils,.nils,.nils,.nils,.nils,.iv (I 0),.iv (I 0),.iv (I 0),.iv (S []),.iv (S []),.iv (S []),.iv (I 0),.nils,.nils,.iv (.im (.bool false)),.iv (I 0)]
def jN(t:Tab)(p:Ex×Nat):Ex×Int:=dw [] p.1 (eT t (p.2:Int))
def eI(t:Tab)(r:List Ex):List Ex×Int:=
 if r.length≠t.cols.length then([],5) else(r.zipIdx.map fun p=>(jN t p).1,eG (r.zipIdx.map fun p=>(jN t p).2))
def lq(t:Tab)(l:List Ast)(p:Ast×Nat):Ast×Int:=
 if aU t p.1.co<0 then(p.1,3)
 else if(l.take p.2).any (fun y=>y.co==p.1.co) then(p.1,4)
 else(⟨p.1.co,(dw [t] p.1.e (eT t (aU t p.1.co))).1⟩,(dw [t] p.1.e (eT t (aU t p.1.co))).2)
def rowsE(s:Stm)(t:Tab):Int:=eG (s.rows.map fun r=>(eI t r).2)
def setsE(s:Stm)(t:Tab):Int:=eG (s.sets.zipIdx.map fun p=>(lq t s.sets p).2)
def eO(s:Stm)(t:Tab):Stm×Int:=
 if rowsE s t≠0 then(s,rowsE s t)
 else if setsE s t≠0 then(s,setsE s t)
 else({s with rows:=s.rows.map fun r=>(eI t r).1,sets:=s.sets.zipIdx.map fun p=>(lq t s.sets p).1,wh:=(dO [t] s.wh).1},(dO [t] s.wh).2)
def Ex.OkS.ok: ∀{e:Ex},e.OkS→e.Ok
 | .mk op v s name n l,.mk hl _ _ h=> .mk hl (fun x hx=>Ex.OkS.ok (h x hx))
 termination_by e=>SizeOf.sizeOf e
 decreasing_by
  have:=List.sizeOf_lt_of_mem hx;simp;omega
def Co{gs:au}(y x:Ast):
 CallG gs prog 114 [.agg (y.c.map .iv),.ptr 1000 0] [(1000,⟨144,.l (x.c.map .iv)⟩)] [(1000,⟨144,.l (x.c.map .iv)⟩)] [] (aB (y.co==x.co)):=by
 refine iG func114 ntmps114 (fun w0 E0 hG=> ?_);refine wz ?_;all_goals exact L.ends U U fR wK
def DY(s:Stm)(hok:s.Ok)(t:Tab)(ht:t.cols.length≤1000)(hw:s.wh.Ok):
 CallA prog 91 [.agg (s.cs.map .iv),.agg (t.c.map .iv)] [] [] [] (.tup [.agg ((eO s t).1.cs.map .iv),.iv (I (eO s t).2)]):=by
 have kw:=rI [t] ⟨by simp,by simpa using ht⟩ s.wh hw;have htot:=hok.tot;have hrl:=hok.rows;have hall:=hok.all;have hsl:=hok.sets;clear hok hw;obtain⟨kind,name,table,col,cols,rows,sets,frm,out,wh,ord,down,n⟩:=s;dsimp only at htot hrl kw hsl;have hrl2:rows.length≤5864062014806:=by clear htot;omega
 clear htot;have hre: ∀r∈rows,∀x∈r,x.Ok:=fun r hr x hx=>(hall x (by unfold du;simp only[List.mem_append,List.mem_flatten];exact .inl (.inl (.inr ⟨r,hr,hx⟩)))).ok
 have hse: ∀x∈sets,x.e.Ok:=fun x hx=>(hall x.e (by unfold du;simp only[List.mem_append,List.mem_map];exact .inl (.inr ⟨x,hx,rfl⟩))).ok
 clear hall;have htl:(t.cols.map Col.c).length=t.cols.length:=lM _;unfold eO;dsimp only;generalize dO [t] wh=W at*
 obtain⟨W1,W2⟩:=W;refine CallG.toA (iG func91 ntmps91 (fun w0 E0 hG=> ?_));refine wz ?_;refine L.adopt 6 (s:=6) (t:=76) (k:=1) U U U ?_;refine ae (ι:=Nat) (fun i=>⟨[(25,aI (i:Int)),(24,aI ((rows.map bg).length:Int)),(23,.iv (.sl (rows.map bg))),(6,.row 6 (((rows.take i).map fun r=>(eI t r).1).map bg)),(2,.ptr 2 0),(3,.ptr 3 0),(4,.ptr 4 0),(5,aI 0)],
  [(2,⟨80,.l ((Stm.cs ⟨kind,name,table,col,cols,rows,sets,frm,out,wh,ord,down,n⟩).map .iv)⟩),(3,⟨57,.l (t.c.map .iv)⟩),(4,⟨80,.l np⟩)],[(6,⟨76,1⟩)]⟩) (fun i=>rows.length - i) (fun i=> ∀r∈rows.take i,(eI t r).2=0) (i0:=0) ?_ sP ?_
 · exact df
 intro i hI K hK;cases hx:rows[i]? with
 |some r=>
  have hlt:=eZ (l:=rows.map bg) (cq (f:=bg) hx);have hlt':=eP hx;have g1:(rows.map bg)[((i:Nat):Int).toNat]?=some [.sl (r.map Ex.c)]:=by rw[iN,gP,hx];rfl
  by_cases hlen:r.length=t.cols.length
  case neg=>
   have hr:eI t r=([],5):=by rw[eI,if_pos hlen]
   have he:rowsE ⟨kind,name,table,col,cols,rows,sets,frm,out,wh,ord,down,n⟩ t=5:=by
    have:=lU (g:=fun r=>(eI t r).2) hI hx (by rw[hr];decide);rw[rowsE,this,hr]
   rw[he,if_pos dD];have q:(((r.map Ex.c).length:Int) !=((t.cols.map Col.c).length:Int))=true:=by simp;omega
   refine wz ?_;all_goals refine bn ?_
   all_goals rfl
  have hlen':(((r.map Ex.c).length:Int) !=((t.cols.map Col.c).length:Int))=false:=by simp;omega
  have hrE:eI t r=(r.zipIdx.map fun p=>(jN t p).1,eG (r.zipIdx.map fun p=>(jN t p).2)):=by rw[eI,if_neg C]
  have hxr:=hre r (gE hx);have hrt:r.length≤1000:=C;refine wz ?_;refine L.adopt 9 (s:=9) (t:=78) (k:=8) U U U ?_;refine ae (ι:=Nat) (fun j=>⟨[(38,aI (j:Int)),(37,aI ((r.map Ex.c).length:Int)),(36,.iv (.sl (r.map Ex.c))),(9,.row 9 (((r.zipIdx.take j).map fun p=>(jN t p).1).map Ex.c)),(25,aI (i:Int)),(24,aI ((rows.map bg).length:Int)),(23,.iv (.sl (rows.map bg))),(6,.row 6 (((rows.take i).map fun r=>(eI t r).1).map bg)),(2,.ptr 2 0),(3,.ptr 3 0),(4,.ptr 4 0),(5,aI 0)],
   [(2,⟨80,.l ((Stm.cs ⟨kind,name,table,col,cols,rows,sets,frm,out,wh,ord,down,n⟩).map .iv)⟩),(3,⟨57,.l (t.c.map .iv)⟩),(4,⟨80,.l np⟩)],[(9,⟨78,8⟩),(6,⟨76,1⟩)]⟩) (fun j=>r.length - j) (fun j=> ∀p∈r.zipIdx.take j,(jN t p).2=0) (i0:=0) ?_ sP ?_
  · exact df
  intro j hJ K2 hK2;cases hy:r[j]? with
  |some x=>
   have jlt:=eZ (l:=r.map Ex.c) (cq (f:=Ex.c) hy);have jlt':=eP hy;have hz:=nT hy;have kx:=vz [] Sc.nil x (hxr x (gE hy)) (eT t (j:Int));have hct:eT t (j:Int)=(t.cols.getD j ⟨[],0,false⟩).t:=by rw[eT,iN]
   have g2:(r.map Ex.c)[((j:Nat):Int).toNat]?=some [I x.op,I x.v.k,I x.v.n,S x.v.s,S x.s,S x.name,I x.n,.sl (x.l.map Ex.c)]:=by rw[iN,gP,hy];exact congrArg some (aN x)
   have g3:(t.cols.map Col.c)[((j:Nat):Int).toNat]?=some [S (t.cols.getD j ⟨[],0,false⟩).n,I (t.cols.getD j ⟨[],0,false⟩).t,.im (.bool (t.cols.getD j ⟨[],0,false⟩).m)]:=by rw[iN,gP,cV ⟨[],0,false⟩ (show j<t.cols.length by omega)];rfl
   have hv:jN t (x,j)=dw [] x (eT t (j:Int)):=rfl;have n1:(((r.zipIdx.take (j+1)).map fun p=>(jN t p).1).map Ex.c)=((r.zipIdx.take j).map fun p=>(jN t p).1).map Ex.c++ [(jN t (x,j)).1.cs]:=by rw[dg hz,pA,pA];exact congrArg _ (by simp[aN])
   have l1:(((r.zipIdx.take j).map fun p=>(jN t p).1).map Ex.c).length≤1000:=by simp;omega
   have bm:(((r.zipIdx.take j).map fun p=>(jN t p).1).map Ex.c).length+1≤maxLen:=Nat.le_trans (Nat.succ_le_succ l1) (by rw[fC];decide);have bb:((((r.zipIdx.take j).map fun p=>(jN t p).1).map Ex.c).length+1)*104≤225000000000000:=Nat.le_trans (mR 104 (Nat.succ_le_succ l1)) dD;by_cases hf:(jN t (x,j)).2=0
   · have hJ':=gA (g:=fun p=>(jN t p).2) hJ hz hf;rw[hv] at hf n1;rw[hct] at kx hf n1;generalize dw [] x (t.cols.getD j ⟨[],0,false⟩).t=m at*
     obtain⟨e,f⟩:=m;dsimp only at hf kx n1;subst hf;generalize t.cols.getD j ⟨[],0,false⟩=cc at*
     have k1:=qw ((r.zipIdx.take j).map fun p=>(jN t p).1);generalize ((r.zipIdx.take j).map fun p=>(jN t p).1).map Ex.c=es at*
     (repeat' first|intro hb hp|refine LW.is (bC U U U U k1 (bz U bK) bm bb U U ?_)|refine am ?_|refine ak ?_ ?_|fail)
     refine L.onlyS [38,37,36,9,25,24,23,6,2,3,4,5] [2,3,4] U ?_;refine L.retok 9 62 9 U U U U ?_;refine hK2 _ (j+1) hJ' C (Wk.mk' kK (wF (wF (wF (.cons U (Sub.of_eq (congrArg (AV.row 9) n1.symm)) (wF F7))))) B3 (.cons U (.cons U .nil)))
   · have he:rowsE ⟨kind,name,table,col,cols,rows,sets,frm,out,wh,ord,down,n⟩ t=(jN t (x,j)).2:=by
      have h1:=lU (g:=fun p=>(jN t p).2) hJ hz hf;have h2:(eI t r).2=(jN t (x,j)).2:=by rw[hrE];exact h1
      have:=lU (g:=fun r=>(eI t r).2) hI hx (by rw[h2];exact hf);rw[rowsE,this,h2]
     rw[he,if_pos hf];rw[hv] at hf⊢;rw[hct] at kx hf⊢;generalize dw [] x (t.cols.getD j ⟨[],0,false⟩).t=m at*
     obtain⟨e,f⟩:=m;dsimp only at hf kx⊢;generalize t.cols.getD j ⟨[],0,false⟩=cc at*
     have q:(f !=0)=true:=by simpa using hf
     refine wz ?_;all_goals refine bn ?_
     all_goals rfl
  |none=>
   have jlt:=fa (l:=r.map Ex.c) (bf hy);have hzn:=qC hy;rw[bc hzn] at hJ⊢;have h0:(eI t r).2=0:=by rw[hrE];exact nD hJ
   have hI':=gA (g:=fun r=>(eI t r).2) hI hx h0;have n1:(((rows.take (i+1)).map fun r=>(eI t r).1).map bg)=((rows.take i).map fun r=>(eI t r).1).map bg++ [bg (r.zipIdx.map fun p=>(jN t p).1)]:=by rw[dg hx,pA,pA];exact congrArg _ (by simp[hrE])
   have l1:(((rows.take i).map fun r=>(eI t r).1).map bg).length+1≤rows.length:=by simp;omega
   have bm:(((rows.take i).map fun r=>(eI t r).1).map bg).length+1≤maxLen:=Nat.le_trans l1 (Nat.le_trans hrl2 (by rw[fC];decide));have bb:((((rows.take i).map fun r=>(eI t r).1).map bg).length+1)*24≤225000000000000:=Nat.le_trans (mR 24 l1) (Nat.le_trans hrl dD);have k1: ∀e∈((rows.take i).map fun r=>(eI t r).1).map bg,e.length=1:=fun e he=>by obtain⟨y,_,rfl⟩:=mM he;rfl
   generalize ((rows.take i).map fun r=>(eI t r).1).map bg=es at*
   (repeat' first|intro hb hp|refine LW.is (bC U U U U k1 (bz U bK) bm bb U U ?_)|refine am ?_|refine ak ?_ ?_|fail)
   refine L.onlyS [25,24,23,6,2,3,4,5] [2,3,4] U ?_;refine L.retok 6 67 6 U U U U ?_;refine hK _ (i+1) hI' C (Wk.mk' kK (wF (wF (wF (.cons U (Sub.of_eq (congrArg (AV.row 6) n1.symm)) F4)))) B3 (.cons U .nil))
 |none=>
 have hlt:=fa (l:=rows.map bg) (bf hx);rw[bc hx] at hI⊢;have he0:rowsE ⟨kind,name,table,col,cols,rows,sets,frm,out,wh,ord,down,n⟩ t=0:=nD hI;rw[he0,if_neg dD];clear hK hx hI hre he0;generalize hRW:rows.map (fun r=>(eI t r).1)=RW at*
 clear hRW;refine wz ?_;refine L.adopt 14 (s:=14) (t:=144) (k:=9) U U U ?_;refine ae (ι:=Nat) (fun j=>⟨[(72,aI (j:Int)),(71,aI ((sets.map Ast.c).length:Int)),(70,.iv (.sl (sets.map Ast.c))),(14,.row 14 (((sets.zipIdx.take j).map fun p=>(lq t sets p).1).map Ast.c)),(6,.row 6 (RW.map bg)),(2,.ptr 2 0),(3,.ptr 3 0),(4,.ptr 4 0),(5,aI 0)],
  [(2,⟨80,.l ((Stm.cs ⟨kind,name,table,col,cols,rows,sets,frm,out,wh,ord,down,n⟩).map .iv)⟩),(3,⟨57,.l (t.c.map .iv)⟩),(4,⟨80,.l np⟩)],[(14,⟨144,9⟩),(6,⟨76,1⟩)]⟩) (fun j=>sets.length - j) (fun j=> ∀p∈sets.zipIdx.take j,(lq t sets p).2=0) (i0:=0) ?_ sP ?_
 · exact df
 intro j hJ K hK;cases hy:sets[j]? with
 |some x=>
  have jlt:=eZ (l:=sets.map Ast.c) (cq (f:=Ast.c) hy);have jlt':=eP hy;have hz:=nT hy;have hxe:=hse x (gE hy);have g2:(sets.map Ast.c)[((j:Nat):Int).toNat]?=some [S x.co,I x.e.op,I x.e.v.k,I x.e.v.n,S x.e.v.s,S x.e.s,S x.e.name,I x.e.n,.sl (x.e.l.map Ex.c)]:=by rw[iN,gP,hy];rfl
  have kf:=eJ t x.co C;have hset:lq t sets (x,j)=if aU t x.co<0 then(x,3) else if(sets.take j).any (fun y=>y.co==x.co) then(x,4) else(⟨x.co,(dw [t] x.e (eT t (aU t x.co))).1⟩,(dw [t] x.e (eT t (aU t x.co))).2):=rfl
  have hE:(lq t sets (x,j)).2≠0→setsE ⟨kind,name,table,col,cols,rows,sets,frm,out,wh,ord,down,n⟩ t=(lq t sets (x,j)).2:=fun h=>lU (g:=fun p=>(lq t sets p).2) hJ hz h
  by_cases hc0:aU t x.co<0
  · have q:decide (aU t x.co<0)=true:=decide_eq_true hc0;have h1:lq t sets (x,j)=(x,3):=by rw[hset,if_pos hc0]
    rw[hE (by rw[h1];exact(by decide:(3:Int)≠0)),h1,if_pos (show(3:Int)≠0 by decide)];refine wz ?_;all_goals refine bn ?_
    all_goals rfl
  have q:decide (aU t x.co<0)=false:=decide_eq_false hc0;rw[if_neg hc0] at hset;have kc:=xa (gs:= []) (f:=114) (b:=⟨144,.l (x.c.map .iv)⟩) (fun y=>y.co==x.co) (sets.take j) (by rw[lT];omega) U U (fun y _=>Co y x);have k9: ∀e∈sets.map Ast.c,e.length=9:=fun e he=>by obtain⟨y,_,rfl⟩:=mM he;rfl
  have hsl2:(sets.map Ast.c).take ((j:Nat):Int).toNat=(sets.take j).map Ast.c:=by rw[iN,List.map_take]
  have ljs:((j:Nat):Int)≤(sets.map Ast.c).length:=by rw[lM];omega
  cases hm:(sets.take j).any (fun y=>y.co==x.co) with
  |true=>
   rw[hm] at kc;rw[hm,if_pos U] at hset;rw[hE (by rw[hset];exact(by decide:(4:Int)≠0)),hset,if_pos (show(4:Int)≠0 by decide)];(repeat' first|intro hb hp|(refine LW.is ?_;first|refine ag U (eA U U k9 C ljs hsl2) ?_|refine ag U (aA U) ?_|refine fz (q:=16) U hG kc U U U U U U U ?_)|refine am ?_|refine ak ?_ ?_|fail)
   all_goals refine bn ?_
   all_goals rfl
  |false=>
  rw[hm] at kc;rw[hm,if_neg dD] at hset;have hran:=zG (fun c:Col=>c.n==x.co) t.cols;have hcm:aU t x.co=iB (fun c:Col=>c.n==x.co) t.cols:=rfl;have hki:(aU t x.co).toNat<t.cols.length:=by
   rw[hcm] at hc0⊢;unfold iB at hc0⊢;cases hf:t.cols.findIdx? (fun c:Col=>c.n==x.co) with
   |none=>rw[hf] at hc0;simp only at hc0;omega
   |some j=>have:=(List.findIdx?_eq_some_iff_getElem.1 hf).1;simpa using this
  have g3:(t.cols.map Col.c)[(aU t x.co).toNat]?=some [S (t.cols.getD (aU t x.co).toNat ⟨[],0,false⟩).n,I (t.cols.getD (aU t x.co).toNat ⟨[],0,false⟩).t,.im (.bool (t.cols.getD (aU t x.co).toNat ⟨[],0,false⟩).m)]:=by rw[gP,cV ⟨[],0,false⟩ hki];rfl
  have kx:=vz [t] ⟨by simp,by simpa using ht⟩ x.e hxe (eT t (aU t x.co));have n1:(((sets.zipIdx.take (j+1)).map fun p=>(lq t sets p).1).map Ast.c)=((sets.zipIdx.take j).map fun p=>(lq t sets p).1).map Ast.c++ [(lq t sets (x,j)).1.c]:=by rw[dg hz,pA,pA];rfl
  have hct:eT t (aU t x.co)=(t.cols.getD (aU t x.co).toNat ⟨[],0,false⟩).t:=rfl;have hJ':=gA (g:=fun p=>(lq t sets p).2) hJ hz;rw[hset] at hE hJ' n1;rw[hct] at kx hE hJ' n1;generalize t.cols.getD (aU t x.co).toNat ⟨[],0,false⟩=cc at*
  clear hset hcm hct hran;generalize aU t x.co=kk at*
  generalize dw [t] x.e cc.t=m at*
  obtain⟨e,f⟩:=m;dsimp only at hE hJ' n1 kx;by_cases hf:f=0
  · subst hf;have l1:(((sets.zipIdx.take j).map fun p=>(lq t sets p).1).map Ast.c).length+1≤sets.length:=by rw[lM,lM,lT,List.length_zipIdx];omega
    have hsl3:sets.length≤1172812402962:=C;have bm:(((sets.zipIdx.take j).map fun p=>(lq t sets p).1).map Ast.c).length+1≤maxLen:=Nat.le_trans l1 (Nat.le_trans hsl3 (by rw[fC];decide));have bb:((((sets.zipIdx.take j).map fun p=>(lq t sets p).1).map Ast.c).length+1)*120≤225000000000000:=Nat.le_trans (mR 120 l1) (Nat.le_trans hsl dD);have k1: ∀e∈((sets.zipIdx.take j).map fun p=>(lq t sets p).1).map Ast.c,e.length=9:=fun e he=>by obtain⟨y,_,rfl⟩:=mM he;rfl
    have hJ':=hJ' U;generalize ((sets.zipIdx.take j).map fun p=>(lq t sets p).1).map Ast.c=es at*
    (repeat' first|intro hb hp|(refine LW.is ?_;first|refine ag U (eA U U k9 C ljs hsl2) ?_|refine ag U (aA U) ?_|refine fz (q:=16) U hG kc U U U U U U U ?_|refine bC U U U U k1 (bz U bK) bm bb U U ?_)|refine am ?_|refine ak ?_ ?_|fail)
    refine L.onlyS [72,71,70,14,6,2,3,4,5] [2,3,4] U ?_;refine L.retok 14 115 14 U U U U ?_;refine hK _ (j+1) hJ' C (Wk.mk' kK (wF (wF (wF (.cons U (Sub.of_eq (congrArg (AV.row 14) n1.symm)) F5)))) B3 (.cons U (.cons U .nil)))
  · rw[hE hf,if_pos hf];have q2:(f !=0)=true:=by simpa using hf
    (repeat' first|intro hb hp|(refine LW.is ?_;first|refine ag U (eA U U k9 C ljs hsl2) ?_|refine ag U (aA U) ?_|refine fz (q:=16) U hG kc U U U U U U U ?_)|refine am ?_|refine ak ?_ ?_|fail)
    all_goals refine bn ?_
    all_goals rfl
 |none=>
  have jlt:=fa (l:=sets.map Ast.c) (bf hy);have hzn:=qC hy;rw[bc hzn] at hJ⊢;have he:setsE ⟨kind,name,table,col,cols,rows,sets,frm,out,wh,ord,down,n⟩ t=0:=nD hJ;rw[he,if_neg dD];clear hK hJ hy hzn he;generalize (sets.zipIdx.map fun p=>(lq t sets p).1)=SS at*
  refine wz ?_;all_goals refine bn ?_
  all_goals rfl
def ce(c:Cat)(frm:List Str)(p:Str×Nat):Tab×Int:=
 if(ab c p.1).2=false then((ab c p.1).1,3)
 else if(frm.take p.2).any (fun y=>p.1==y) then((ab c p.1).1,4) else((ab c p.1).1,0)
def tx(c:Cat)(frm:List Str)(p:Str×Nat):(ce c frm p).1=(ab c p.1).1:=by
 unfold ce;split
 · rfl
 · split<;>rfl
def tT(t:Tab)(a:Nat)(p:Col×Nat):Ex:= .mk 2 af t.n p.1.n ((a:Int)+(p.2:Int)) []
def fm:List Tab→Nat→List Ex
 | [],_=> []
 |t::ts,a=>t.cols.zipIdx.map (tT t a)++fm ts (a+t.cols.length)
def lY(ts:List Tab):Nat:=(ts.map fun t=>t.cols.length).sum
def wM: ∀(x y:List Tab) (a:Nat),fm (x++y) a=fm x a++fm y (a+lY x)
 | [],y,a=>by simp[fm,lY]
 |t::x,y,a=>by
  have e:a+t.cols.length+lY x=a+lY (t::x):=by simp only[lY,List.map_cons,List.sum_cons];omega
  rw[List.cons_append,fm,wM x y,fm,List.append_assoc,e]
def qB: ∀(x:List Tab) (a:Nat),(fm x a).length=lY x
 | [],a=>rfl
 |t::x,a=>by rw[fm,gV,qB x];simp[lY]
def Lk(x y:List Tab):lY (x++y)=lY x+lY y:=by simp[lY]
def Ju: ∀{x:List Tab},(∀t∈x,t.cols.length≤1000)→lY x≤x.length*1000
 | [],_=>by simp[lY]
 |t::x,h=>by
  have h1:=h t (List.mem_cons_self ..);have h2:=Ju (x:=x) (fun t ht=>h t (List.mem_cons_of_mem _ ht));simp only[lY,List.map_cons,List.sum_cons,lC] at*
  omega
def iI(c:Cat)(s:Stm):Stm×Int:=
 if s.frm.length<1∨2<s.frm.length then(s,1)
 else if eG (s.frm.zipIdx.map fun p=>(ce c s.frm p).2)≠0 then(s,eG (s.frm.zipIdx.map fun p=>(ce c s.frm p).2))
 else
  let all:=s.frm.zipIdx.map fun p=>(ce c s.frm p).1
  if eG (s.out.map fun x=>(an all x).2.2)≠0 then(s,eG (s.out.map fun x=>(an all x).2.2))
  else if eG (s.ord.map fun x=>(an all x).2.2)≠0 then(s,eG (s.ord.map fun x=>(an all x).2.2))
  else({s with out:=if s.out= [] then fm all 0 else s.out.map fun x=>(an all x).1,ord:=s.ord.map fun x=>(an all x).1,wh:=(dO all s.wh).1},(dO all s.wh).2)
def DX(c:Cat)(s:Stm)(hok:s.Ok)(hct:c.ts.length≤1000)(hcc: ∀name,(ab c name).1.cols.length≤1000)(hwh:s.wh.Ok):
 CallA prog 92 [.agg (c.c.map .iv),.agg (s.cs.map .iv)] [] [] [] (.tup [.agg ((iI c s).1.cs.map .iv),.iv (I (iI c s).2)]):=by
 have htot:=hok.tot;have hall:=hok.all;clear hok;obtain⟨kind,name,table,col,cols,rows,sets,frm,out,wh,ord,down,n⟩:=s;dsimp only at htot hwh;have hout: ∀x∈out,x.Ok:=fun x hx=>(hall x (by unfold du;simp only[List.mem_append];exact .inl (.inl (.inl (.inl hx))))).ok
 have hord: ∀x∈ord,x.Ok:=fun x hx=>(hall x (by unfold du;simp only[List.mem_append];exact .inl (.inl (.inl (.inr hx))))).ok
 have hu1:out.length*104≤140737488355328:=by generalize rows.flatten.length=z at htot;omega
 have ho1:ord.length*104≤140737488355328:=by generalize rows.flatten.length=z at htot;omega
 have hu2:out.length≤1353245080340:=by clear htot;omega
 have ho2:ord.length≤1353245080340:=by clear htot;omega
 clear hall htot;unfold iI;dsimp only;have lf:((frm.map Str.c).length:Int)=(frm.length:Int):=by simp
 refine CallG.toA (iG func92 ntmps92 (fun w0 E0 hG=> ?_));by_cases hfl:frm.length<1∨2<frm.length
 · rw[if_pos hfl];cases hl1:decide (((frm.map Str.c).length:Int)<1) with
   |true=>
    refine wz ?_;all_goals refine bn ?_
    all_goals rfl
   |false=>
    have hl2:decide ((2:Int)<((frm.map Str.c).length:Int))=true:=by
     have:=of_decide_eq_false hl1;rw[lf] at this⊢;exact decide_eq_true C
    refine wz ?_;all_goals refine bn ?_
    all_goals rfl
 rw[if_neg hfl];have hl1:decide (((frm.map Str.c).length:Int)<1)=false:=by rw[lf];exact decide_eq_false C
 have hl2:decide ((2:Int)<((frm.map Str.c).length:Int))=false:=by rw[lf];exact decide_eq_false C
 have hf2:frm.length≤2:=C;refine wz ?_;refine L.adopt 6 (s:=6) (t:=57) (k:=2) rfl rfl rfl ?_;refine ae (ι:=Nat) (fun i=>⟨[(44,aI (i:Int)),(43,aI ((frm.map Str.c).length:Int)),(42,.iv (.sl (frm.map Str.c))),(6,.row 6 (((frm.zipIdx.take i).map fun p=>(ce c frm p).1).map Tab.c)),(2,.ptr 2 0),(3,.ptr 3 0),(4,.ptr 4 0),(5,aI 0)],
  [(2,⟨47,.l (c.c.map .iv)⟩),(3,⟨80,.l ((Stm.cs ⟨kind,name,table,col,cols,rows,sets,frm,out,wh,ord,down,n⟩).map .iv)⟩),(4,⟨80,.l np⟩)],[(6,⟨57,2⟩)]⟩) (fun i=>frm.length - i) (fun i=> ∀p∈frm.zipIdx.take i,(ce c frm p).2=0) (i0:=0) ?_ sP ?_
 · exact df
 intro i hI K hK;cases hx:frm[i]? with
 |some x=>
  have hlt:=eZ (l:=frm.map Str.c) (cq (f:=Str.c) hx);have hlt':=eP hx;have hz:=nT hx;have g1:(frm.map Str.c)[((i:Nat):Int).toNat]?=some [S x]:=by rw[iN,gP,hx];rfl
  have kf:=gj c x C;have hcx:=hcc x;have hone:ce c frm (x,i)=if(ab c x).2=false then((ab c x).1,3) else if(frm.take i).any (fun y=>x==y) then((ab c x).1,4) else((ab c x).1,0):=rfl
  have hE:(ce c frm (x,i)).2≠0→eG (frm.zipIdx.map fun p=>(ce c frm p).2)=(ce c frm (x,i)).2:=fun h=>lU (g:=fun p=>(ce c frm p).2) hI hz h
  have k1s: ∀e∈frm.map Str.c,e.length=1:=fun e he=>by obtain⟨y,_,rfl⟩:=mM he;rfl
  have hsl2:(frm.map Str.c).take ((i:Nat):Int).toNat=(frm.take i).map Str.c:=by rw[iN,List.map_take]
  have lis:((i:Nat):Int)≤(frm.map Str.c).length:=by rw[lf];omega
  have kc:=pV (frm.take i) x (by rw[lT];omega);have n1:(((frm.zipIdx.take (i+1)).map fun p=>(ce c frm p).1).map Tab.c)=((frm.zipIdx.take i).map fun p=>(ce c frm p).1).map Tab.c++ [(ce c frm (x,i)).1.c]:=by rw[dg hz,pA,pA];rfl
  have hI':=gA (g:=fun p=>(ce c frm p).2) hI hz;have l1:(((frm.zipIdx.take i).map fun p=>(ce c frm p).1).map Tab.c).length+1≤2:=by rw[lM,lM,lT,List.length_zipIdx];omega
  have bm:(((frm.zipIdx.take i).map fun p=>(ce c frm p).1).map Tab.c).length+1≤maxLen:=Nat.le_trans l1 (by rw[fC];decide);have bb:((((frm.zipIdx.take i).map fun p=>(ce c frm p).1).map Tab.c).length+1)*40≤225000000000000:=Nat.le_trans (mR 40 l1) dD;have k1: ∀e∈((frm.zipIdx.take i).map fun p=>(ce c frm p).1).map Tab.c,e.length=2:=fun e he=>by obtain⟨y,_,rfl⟩:=mM he;rfl
  cases hb:(ab c x).2 with
  |false=>
   rw[hb,if_pos rfl] at hone;rw[hb] at kf;rw[hE (by rw[hone];exact(by decide:(3:Int)≠0)),hone,if_pos (show(3:Int)≠0 by decide)];generalize (ab c x).1=tt at*
   refine wz ?_;all_goals refine bn ?_
   all_goals rfl
  |true=>
  rw[hb,if_neg dD] at hone;rw[hb] at kf;cases hm:(frm.take i).any (fun y=>x==y) with
  |true=>
   rw[hm,if_pos rfl] at hone;rw[hm] at kc;rw[hE (by rw[hone];exact(by decide:(4:Int)≠0)),hone,if_pos (show(4:Int)≠0 by decide)];generalize (ab c x).1=tt at*
   (repeat' first|intro hb hp|(refine LW.is ?_;first|apply ag;rfl;apply eA;rfl;rfl;exact k1s;omega;exact lis;exact hsl2)|refine am ?_|refine ak ?_ ?_|fail)
   all_goals refine bn ?_
   all_goals rfl
  |false=>
  rw[hm,if_neg dD] at hone;rw[hm] at kc;rw[hone] at hI' n1;have hI2:=hI' rfl;clear hI';generalize (ab c x).1=tt at*
  clear hone hE;generalize ((frm.zipIdx.take i).map fun p=>(ce c frm p).1).map Tab.c=es at*
  (repeat' first|intro hb hp|(refine LW.is ?_;first|apply ag;rfl;apply eA;rfl;rfl;exact k1s;omega;exact lis;exact hsl2|apply bC;rfl;rfl;rfl;rfl;exact k1;exact bz rfl bK;exact bm;exact bb;rfl;rfl)|refine am ?_|refine ak ?_ ?_|fail)
  refine L.onlyS [44,43,42,6,2,3,4,5] [2,3,4] rfl ?_;refine L.retok 6 68 6 rfl rfl rfl rfl ?_;refine hK _ (i+1) hI2 C (Wk.mk' kK (wF (wF (wF (.cons rfl (Sub.of_eq (congrArg (AV.row 6) n1.symm)) F4)))) B3 (.cons rfl .nil))
 |none=>
 have hlt:=fa (l:=frm.map Str.c) (bf hx);have hzn:=qC hx;rw[bc hzn] at hI⊢;have he0:eG (frm.zipIdx.map fun p=>(ce c frm p).2)=0:=nD hI;rw[he0,if_neg dD];have hsc:Sc (frm.zipIdx.map fun p=>(ce c frm p).1):=⟨by rw[lM,List.length_zipIdx];omega,fun t ht=>by
  obtain⟨p,_,rfl⟩:=mM ht;rw[tx];exact hcc p.1⟩
 have hal:(frm.zipIdx.map fun p=>(ce c frm p).1).length≤2:=by rw[lM,List.length_zipIdx];omega
 clear hK hI hx hzn he0;generalize (frm.zipIdx.map fun p=>(ce c frm p).1)=all at*
 refine wz ?_;refine L.adopt 11 (s:=11) (t:=78) (k:=8) rfl rfl rfl ?_;refine ae (ι:=Nat) (fun j=>⟨[(73,aI (j:Int)),(72,aI ((out.map Ex.c).length:Int)),(71,.iv (.sl (out.map Ex.c))),(11,.row 11 (((out.take j).map fun x=>(an all x).1).map Ex.c)),(6,.iv (.sl (all.map Tab.c))),(2,.ptr 2 0),(3,.ptr 3 0),(4,.ptr 4 0),(5,aI 0)],
  [(2,⟨47,.l (c.c.map .iv)⟩),(3,⟨80,.l ((Stm.cs ⟨kind,name,table,col,cols,rows,sets,frm,out,wh,ord,down,n⟩).map .iv)⟩),(4,⟨80,.l np⟩)],[(11,⟨78,8⟩)]⟩) (fun j=>out.length - j) (fun j=> ∀x∈out.take j,(an all x).2.2=0) (i0:=0) ?_ sP ?_
 · exact Wk.mk' kK (wF (wF (wF (wF (.cons rfl (Sub.row _ _) F4))))) B3 (.cons rfl .nil)
 intro j hJ K hK;cases hx:out[j]? with
 |some x=>
  have jlt:=eZ (l:=out.map Ex.c) (cq (f:=Ex.c) hx);have jlt':=eP hx;have kx:=oW all hsc x (hout x (gE hx));have g2:(out.map Ex.c)[((j:Nat):Int).toNat]?=some [I x.op,I x.v.k,I x.v.n,S x.v.s,S x.s,S x.name,I x.n,.sl (x.l.map Ex.c)]:=by rw[iN,gP,hx];exact congrArg some (aN x)
  have n1:((out.take (j+1)).map fun x=>(an all x).1).map Ex.c=((out.take j).map fun x=>(an all x).1).map Ex.c++ [(an all x).1.cs]:=by rw[dg hx,pA,pA];exact congrArg _ (by simp[aN])
  have l1:(((out.take j).map fun x=>(an all x).1).map Ex.c).length+1≤out.length:=by rw[lM,lM,lT];omega
  have bm:(((out.take j).map fun x=>(an all x).1).map Ex.c).length+1≤maxLen:=Nat.le_trans l1 (Nat.le_trans hu2 (by rw[fC];decide));have bb:((((out.take j).map fun x=>(an all x).1).map Ex.c).length+1)*104≤225000000000000:=Nat.le_trans (mR 104 l1) (Nat.le_trans hu1 dD);by_cases hf:(an all x).2.2=0
  · have hJ':=gA (g:=fun x=>(an all x).2.2) hJ hx hf;have k1:=qw ((out.take j).map fun x=>(an all x).1);generalize an all x=m at*
    obtain⟨e,ty,f⟩:=m;dsimp only at hf kx n1;subst hf;generalize ((out.take j).map fun x=>(an all x).1).map Ex.c=es at*
    (repeat' first|intro hb hp|(refine LW.is ?_;first|apply bC;rfl;rfl;rfl;rfl;exact k1;exact bz rfl bK;exact bm;exact bb;rfl;rfl)|refine am ?_|refine ak ?_ ?_|fail)
    refine L.onlyS [73,72,71,11,6,2,3,4,5] [2,3,4] rfl ?_;refine L.retok 11 91 11 rfl rfl rfl rfl ?_;refine hK _ (j+1) hJ' C (Wk.mk' kK (wF (wF (wF (.cons rfl (Sub.of_eq (congrArg (AV.row 11) n1.symm)) F5)))) B3 (.cons rfl .nil))
  · have he:eG (out.map fun x=>(an all x).2.2)=(an all x).2.2:=lU (g:=fun x=>(an all x).2.2) hJ hx hf;rw[he,if_pos hf];generalize an all x=m at*
    obtain⟨e,ty,f⟩:=m;dsimp only at hf kx⊢;have q:(f !=0)=true:=by simpa using hf
    refine wz ?_;all_goals refine bn ?_
    all_goals rfl
 |none=>
 have jlt:=fa (l:=out.map Ex.c) (bf hx);rw[bc hx] at hJ⊢;have he:eG (out.map fun x=>(an all x).2.2)=0:=nD hJ;rw[he,if_neg dD];clear hK hJ hx he;by_cases hnil:out= []
 · subst hnil;rw[if_pos rfl];refine wz ?_;refine ae (ι:=Nat) (fun i=>⟨[(99,aI (i:Int)),(98,aI ((all.map Tab.c).length:Int)),(97,.iv (.sl (all.map Tab.c))),(17,aI (lY (all.take i):Int)),(11,.row 11 ((fm (all.take i) 0).map Ex.c)),(6,.iv (.sl (all.map Tab.c))),(2,.ptr 2 0),(3,.ptr 3 0),(4,.ptr 4 0),(5,aI 0)],
    [(2,⟨47,.l (c.c.map .iv)⟩),(3,⟨80,.l ((Stm.cs ⟨kind,name,table,col,cols,rows,sets,frm,[],wh,ord,down,n⟩).map .iv)⟩),(4,⟨80,.l np⟩)],[(11,⟨78,8⟩)]⟩) (fun i=>all.length - i) (fun i=>True) (i0:=0) ?_ trivial ?_
   · exact df
   intro i _ K hK;cases hx:all[i]? with
   |some t=>
    have ilt:=eZ (l:=all.map Tab.c) (cq (f:=Tab.c) hx);have ilt':=eP hx;have g2:(all.map Tab.c)[((i:Nat):Int).toNat]?=some [S t.n,.sl (t.cols.map Col.c)]:=by rw[iN,gP,hx];rfl
    have htc:=hsc.c t (gE hx);have hat:lY (all.take i)≤2000:=by
     have h1:=Ju (x:=all.take i) (fun t ht=>hsc.c t (mT ht));rw[lT] at h1;omega
    have ha2:lY (all.take (i+1))=lY (all.take i)+t.cols.length:=by rw[dg hx,Lk];simp[lY]
    have ho3:fm (all.take (i+1)) 0=fm (all.take i) 0++t.cols.zipIdx.map (tT t (lY (all.take i))):=by rw[dg hx,wM,Nat.zero_add];simp[fm]
    have hol:(fm (all.take i) 0).length=lY (all.take i):=qB _ _;generalize fm (all.take i) 0=OO at*
    generalize lY (all.take i)=a at*
    refine wz ?_;refine ae (ι:=Nat) (fun k=>⟨[(106,aI (k:Int)),(105,aI ((t.cols.map Col.c).length:Int)),(104,.iv (.sl (t.cols.map Col.c))),(19,.ptr 19 0),(99,aI (i:Int)),(98,aI ((all.map Tab.c).length:Int)),(97,.iv (.sl (all.map Tab.c))),(17,aI (a:Int)),(11,.row 11 ((OO++(t.cols.zipIdx.take k).map (tT t a)).map Ex.c)),(6,.iv (.sl (all.map Tab.c))),(2,.ptr 2 0),(3,.ptr 3 0),(4,.ptr 4 0),(5,aI 0)],
     [(19,⟨57,.l (t.c.map .iv)⟩),(2,⟨47,.l (c.c.map .iv)⟩),(3,⟨80,.l ((Stm.cs ⟨kind,name,table,col,cols,rows,sets,frm,[],wh,ord,down,n⟩).map .iv)⟩),(4,⟨80,.l np⟩)],[(11,⟨78,8⟩)]⟩) (fun k=>t.cols.length - k) (fun k=>True) (i0:=0) ?_ trivial ?_
    · exact Wk.mk' kK (wF (wF (wF (wF (wF (wF (wF (wF (.cons rfl (Sub.of_eq (congrArg (AV.row 11) sP)) F5))))))))) B4 (.cons rfl .nil)
    intro k _ K2 hK2;cases hy:t.cols[k]? with
    |some x=>
     have klt:=eZ (l:=t.cols.map Col.c) (cq (f:=Col.c) hy);have klt':=eP hy;have g3:(t.cols.map Col.c)[((k:Nat):Int).toNat]?=some [S x.n,I x.t,.im (.bool x.m)]:=by rw[iN,gP,hy];rfl
     have n1:((OO++(t.cols.zipIdx.take (k+1)).map (tT t a)).map Ex.c)=(OO++(t.cols.zipIdx.take k).map (tT t a)).map Ex.c++ [(tT t a (x,k)).cs]:=by rw[dg (nT hy)];simp only[pA,List.map_cons,List.map_nil,List.append_assoc];rw[aN (tT t a (x,k))]
     have l1:((OO++(t.cols.zipIdx.take k).map (tT t a)).map Ex.c).length+1≤4000:=by rw[lM,gV,lM,lT,List.length_zipIdx];omega
     have bm:((OO++(t.cols.zipIdx.take k).map (tT t a)).map Ex.c).length+1≤maxLen:=Nat.le_trans l1 (by rw[fC];decide);have bb:(((OO++(t.cols.zipIdx.take k).map (tT t a)).map Ex.c).length+1)*104≤225000000000000:=Nat.le_trans (mR 104 l1) dD;have k1:=qw (OO++(t.cols.zipIdx.take k).map (tT t a));generalize (OO++(t.cols.zipIdx.take k).map (tT t a)).map Ex.c=es at*
     (repeat' first|intro hb hp|(refine LW.is ?_;first|apply bC;rfl;rfl;rfl;rfl;exact k1;exact bz rfl bK;exact bm;exact bb;rfl;rfl)|refine am ?_|refine ak ?_ ?_|fail)
     refine L.onlyS [106,105,104,19,99,98,97,17,11,6,2,3,4,5] [19,2,3,4] rfl ?_;refine L.retok 11 121 11 rfl rfl rfl rfl ?_;refine hK2 _ (k+1) trivial C (Wk.mk' kK (wF (wF (wF (wF (wF (wF (wF (wF (.cons rfl (Sub.of_eq (congrArg (AV.row 11) n1.symm)) F5))))))))) B4 (.cons rfl .nil))
    |none=>
     have klt:=fa (l:=t.cols.map Col.c) (bf hy);rw[bc (qC hy)];have lc:((t.cols.map Col.c).length:Int)=(t.cols.length:Int):=by simp
     (repeat' first|intro hb hp|(refine LW.is ?_;first|apply ag;rfl;apply iV;rfl;rfl;(rw[lc];omega);(rw[lc];omega))|refine am ?_|refine ak ?_ ?_|fail)
     refine hK _ (i+1) trivial C (Wk.mk' kK (wF (wF (wF (.cons rfl (Sub.of_eq (by rw[ha2,Int.natCast_add,←lc])) (.cons rfl (Sub.of_eq (by rw[ho3])) F5))))) B3 (.cons rfl .nil))
   |none=>
    have ilt:=fa (l:=all.map Tab.c) (bf hx);rw[bc hx];clear hK hx;generalize fm all 0=OUT at*
    refine wz ?_;refine L.adopt 22 (s:=22) (t:=78) (k:=8) rfl rfl rfl ?_;refine ae (ι:=Nat) (fun j=>⟨[(132,aI (j:Int)),(131,aI ((ord.map Ex.c).length:Int)),(130,.iv (.sl (ord.map Ex.c))),(22,.row 22 (((ord.take j).map fun x=>(an all x).1).map Ex.c)),(11,.iv (.sl (OUT.map Ex.c))),(6,.iv (.sl (all.map Tab.c))),(2,.ptr 2 0),(3,.ptr 3 0),(4,.ptr 4 0),(5,aI 0)],
     [(2,⟨47,.l (c.c.map .iv)⟩),(3,⟨80,.l ((Stm.cs ⟨kind,name,table,col,cols,rows,sets,frm,[],wh,ord,down,n⟩).map .iv)⟩),(4,⟨80,.l np⟩)],[(22,⟨78,8⟩)]⟩) (fun j=>ord.length - j) (fun j=> ∀x∈ord.take j,(an all x).2.2=0) (i0:=0) ?_ sP ?_
    · exact Wk.mk' kK (wF (wF (wF (wF (.cons rfl (Sub.row _ _) F5))))) B3 (.cons rfl .nil)
    intro j hJ K hK;cases hx:ord[j]? with
    |some x=>
     have jlt:=eZ (l:=ord.map Ex.c) (cq (f:=Ex.c) hx);have jlt':=eP hx;have kx:=oW all hsc x (hord x (gE hx));have g2:(ord.map Ex.c)[((j:Nat):Int).toNat]?=some [I x.op,I x.v.k,I x.v.n,S x.v.s,S x.s,S x.name,I x.n,.sl (x.l.map Ex.c)]:=by rw[iN,gP,hx];exact congrArg some (aN x)
     have n1:((ord.take (j+1)).map fun x=>(an all x).1).map Ex.c=((ord.take j).map fun x=>(an all x).1).map Ex.c++ [(an all x).1.cs]:=by rw[dg hx,pA,pA];exact congrArg _ (by simp[aN])
     have l1:(((ord.take j).map fun x=>(an all x).1).map Ex.c).length+1≤ord.length:=by rw[lM,lM,lT];omega
     have bm:(((ord.take j).map fun x=>(an all x).1).map Ex.c).length+1≤maxLen:=Nat.le_trans l1 (Nat.le_trans ho2 (by rw[fC];decide));have bb:((((ord.take j).map fun x=>(an all x).1).map Ex.c).length+1)*104≤225000000000000:=Nat.le_trans (mR 104 l1) (Nat.le_trans ho1 dD);by_cases hf:(an all x).2.2=0
     · have hJ':=gA (g:=fun x=>(an all x).2.2) hJ hx hf;have k1:=qw ((ord.take j).map fun x=>(an all x).1);generalize an all x=m at*
       obtain⟨e,ty,f⟩:=m;dsimp only at hf kx n1;subst hf;generalize ((ord.take j).map fun x=>(an all x).1).map Ex.c=es at*
       (repeat' first|intro hb hp|(refine LW.is ?_;first|apply bC;rfl;rfl;rfl;rfl;exact k1;exact bz rfl bK;exact bm;exact bb;rfl;rfl)|refine am ?_|refine ak ?_ ?_|fail)
       refine L.onlyS [132,131,130,22,11,6,2,3,4,5] [2,3,4] rfl ?_;refine L.retok 22 150 22 rfl rfl rfl rfl ?_;refine hK _ (j+1) hJ' C (Wk.mk' kK (wF (wF (wF (.cons rfl (Sub.of_eq (congrArg (AV.row 22) n1.symm)) F6)))) B3 (.cons rfl .nil))
     · have he:eG (ord.map fun x=>(an all x).2.2)=(an all x).2.2:=lU (g:=fun x=>(an all x).2.2) hJ hx hf;rw[he,if_pos hf];generalize an all x=m at*
       obtain⟨e,ty,f⟩:=m;dsimp only at hf kx⊢;have q:(f !=0)=true:=by simpa using hf
       refine wz ?_;all_goals refine bn ?_
       all_goals rfl
    |none=>
     have jlt:=fa (l:=ord.map Ex.c) (bf hx);rw[bc hx] at hJ⊢;have he:eG (ord.map fun x=>(an all x).2.2)=0:=nD hJ;rw[he,if_neg dD];clear hK hJ hx he;generalize (ord.map fun x=>(an all x).1)=ORD at*
     have kw:=rI all hsc wh hwh;generalize dO all wh=W at*
     obtain⟨W1,W2⟩:=W;refine wz ?_;all_goals refine bn ?_
     all_goals rfl
 · rw[if_neg hnil];have hlo:((((out.map Ex.c).length:Nat):Int)==0)=false:=by
    have:out.length≠0:=fun h=>hnil (List.length_eq_zero_iff.1 h)
    simp;exact hnil
   generalize (out.map fun x=>(an all x).1)=OUT at*
   refine wz ?_;refine L.adopt 22 (s:=22) (t:=78) (k:=8) rfl rfl rfl ?_;refine ae (ι:=Nat) (fun j=>⟨[(132,aI (j:Int)),(131,aI ((ord.map Ex.c).length:Int)),(130,.iv (.sl (ord.map Ex.c))),(22,.row 22 (((ord.take j).map fun x=>(an all x).1).map Ex.c)),(11,.iv (.sl (OUT.map Ex.c))),(6,.iv (.sl (all.map Tab.c))),(2,.ptr 2 0),(3,.ptr 3 0),(4,.ptr 4 0),(5,aI 0)],
    [(2,⟨47,.l (c.c.map .iv)⟩),(3,⟨80,.l ((Stm.cs ⟨kind,name,table,col,cols,rows,sets,frm,out,wh,ord,down,n⟩).map .iv)⟩),(4,⟨80,.l np⟩)],[(22,⟨78,8⟩)]⟩) (fun j=>ord.length - j) (fun j=> ∀x∈ord.take j,(an all x).2.2=0) (i0:=0) ?_ sP ?_
   · exact Wk.mk' kK (wF (wF (wF (wF (.cons rfl (Sub.row _ _) F5))))) B3 (.cons rfl .nil)
   intro j hJ K hK;cases hx:ord[j]? with
   |some x=>
    have jlt:=eZ (l:=ord.map Ex.c) (cq (f:=Ex.c) hx);have jlt':=eP hx;have kx:=oW all hsc x (hord x (gE hx));have g2:(ord.map Ex.c)[((j:Nat):Int).toNat]?=some [I x.op,I x.v.k,I x.v.n,S x.v.s,S x.s,S x.name,I x.n,.sl (x.l.map Ex.c)]:=by rw[iN,gP,hx];exact congrArg some (aN x)
    have n1:((ord.take (j+1)).map fun x=>(an all x).1).map Ex.c=((ord.take j).map fun x=>(an all x).1).map Ex.c++ [(an all x).1.cs]:=by rw[dg hx,pA,pA];exact congrArg _ (by simp[aN])
    have l1:(((ord.take j).map fun x=>(an all x).1).map Ex.c).length+1≤ord.length:=by rw[lM,lM,lT];omega
    have bm:(((ord.take j).map fun x=>(an all x).1).map Ex.c).length+1≤maxLen:=Nat.le_trans l1 (Nat.le_trans ho2 (by rw[fC];decide));have bb:((((ord.take j).map fun x=>(an all x).1).map Ex.c).length+1)*104≤225000000000000:=Nat.le_trans (mR 104 l1) (Nat.le_trans ho1 dD);by_cases hf:(an all x).2.2=0
    · have hJ':=gA (g:=fun x=>(an all x).2.2) hJ hx hf;have k1:=qw ((ord.take j).map fun x=>(an all x).1);generalize an all x=m at*
      obtain⟨e,ty,f⟩:=m;dsimp only at hf kx n1;subst hf;generalize ((ord.take j).map fun x=>(an all x).1).map Ex.c=es at*
      (repeat' first|intro hb hp|(refine LW.is ?_;first|apply bC;rfl;rfl;rfl;rfl;exact k1;exact bz rfl bK;exact bm;exact bb;rfl;rfl)|refine am ?_|refine ak ?_ ?_|fail)
      refine L.onlyS [132,131,130,22,11,6,2,3,4,5] [2,3,4] rfl ?_;refine L.retok 22 150 22 rfl rfl rfl rfl ?_;refine hK _ (j+1) hJ' C (Wk.mk' kK (wF (wF (wF (.cons rfl (Sub.of_eq (congrArg (AV.row 22) n1.symm)) F6)))) B3 (.cons rfl .nil))
    · have he:eG (ord.map fun x=>(an all x).2.2)=(an all x).2.2:=lU (g:=fun x=>(an all x).2.2) hJ hx hf;rw[he,if_pos hf];generalize an all x=m at*
      obtain⟨e,ty,f⟩:=m;dsimp only at hf kx⊢;have q:(f !=0)=true:=by simpa using hf
      refine wz ?_;all_goals refine bn ?_
      all_goals rfl
   |none=>
    have jlt:=fa (l:=ord.map Ex.c) (bf hx);rw[bc hx] at hJ⊢;have he:eG (ord.map fun x=>(an all x).2.2)=0:=nD hJ;rw[he,if_neg dD];clear hK hJ hx he;generalize (ord.map fun x=>(an all x).1)=ORD at*
    have kw:=rI all hsc wh hwh;generalize dO all wh=W at*
    obtain⟨W1,W2⟩:=W;refine wz ?_;all_goals refine bn ?_
    all_goals rfl
def pI(c:Cat)(s:Stm):Int:=if cw ⟨s.name,s.cols⟩=false then 1 else if(ab c s.name).2 then 4 else if 3≤c.ts.length then 8 else 0
def vB(c:Cat)(s:Stm):Int:=
 if bG s.name=false then 1
 else if(ab c s.table).2=false∨aU (ab c s.table).1 s.col<0 then 3
 else if c.is.any (fun x=>x.n==s.name) then 4 else if 4≤c.is.length then 8 else 0
def eM(c:Cat)(s:Stm):Stm×Int:=
 if s.kind=1 then(s,pI c s)
 else if s.kind=2 then(s,vB c s)
 else if s.kind=3 then(s,if(ab c s.name).2 then 0 else 3)
 else if s.kind=7 then iI c s
 else if(ab c s.table).2 then eO s (ab c s.table).1 else(s,3)
def gh(c:Cat)(s:Stm):Bool:= !(((!dJ c||decide (s.kind<1))||decide (7<s.kind))||(du s).any (fun e=> !bY 1 e))
def aJ(c:Cat)(s:Stm):Stm×Int:=
 if gh c s=false then(LD,1) else if(eM c s).2≠0 then(LD,(eM c s).2) else((eM c s).1,0)
def zK{c:Cat}(h:dJ c=true):c.ts.length≤3∧c.is.length≤4∧ ∀name,(ab c name).1.cols.length≤4:=by
 simp only[dJ,aE,decide_eq_true_eq] at h;obtain⟨h1,h2,h3,h4⟩:=h;refine⟨by omega,by omega,fun name=> ?_⟩;unfold ab;cases hf:c.ts.find? (fun t=>t.n==name) with
 |none=>simp
 |some t=>
  obtain⟨i,hi⟩:=List.getElem?_of_mem (List.mem_of_find?_eq_some hf);have:=aT h1 (t,i) (List.mem_iff_getElem?.2 ⟨i,by simp[List.getElem?_zipIdx,hi]⟩);simp only[qJ,Bool.not_eq_true',Bool.or_eq_false_iff,Bool.not_eq_false'] at this;have hg:=this.1;simp only[cw,aE,decide_eq_true_eq] at hg;exact hg.2.2.2.1
def Ed(e:Ex)(hok:e.OkS):CallG tV prog 87 [.agg (e.cs.map .iv)] [] [] [] (aB (!bY 1 e)):=by
 have k:=vQ e hok 1 dD dD;refine iG func87 ntmps87 (fun w0 E0 hG=> ?_);refine wz ?_;all_goals refine bn ?_
 all_goals rfl
def Ec{gs:au}(x:Idx)(s:Stm):
 CallG gs prog 90 [.agg (x.c.map .iv),.ptr 1000 0] [(1000,⟨80,.l (s.cs.map .iv)⟩)] [(1000,⟨80,.l (s.cs.map .iv)⟩)] [] (aB (x.n==s.name)):=by
 refine iG func90 ntmps90 (fun w0 E0 hG=> ?_);refine wz ?_;all_goals(apply L.ends;rfl;rfl;exact fR;exact Wk.mk' kK .nil B1 .nil)
def Eb(c:Cat)(hc:c.Ok)(s:Stm)(hok:s.Ok):
 CallG tV prog 59 [.agg (c.c.map .iv),.agg (s.cs.map .iv)] [] [] [] (.tup [.agg ((aJ c s).1.cs.map .iv),.iv (I (aJ c s).2)]):=by
 have kg:=tw c hc;have ke:=Gf s hok;have kc:=wl (gs:=tV) (f:=87) (fun e=> !bY 1 e) (du s) ?hel (fun e he=>Ed e (hok.all e he))
 case hel=>
  have h:=hok.tot;unfold du;simp only[gV,lM];have:(if s.wh.op=0 then([]:List Ex) else [s.wh]).length≤1:=by split<;>simp
  generalize s.rows.flatten.length=z at*
  omega
 have kfT:=gj c s.table hc.t;have kfN:=gj c s.name hc.t;have knN:=je s.name hok.name;have hgt:(⟨s.name,s.cols⟩:Tab).Ok:=⟨hok.name,hok.cols,hok.cn⟩
 have kgt:=pR ⟨s.name,s.cols⟩ hgt;have kx:=wZ (gs:=tV) (f:=90) (b:=⟨80,.l (s.cs.map .iv)⟩) (fun x=>x.n==s.name) c.is hc.i rfl rfl (fun x _=>Ec x s);unfold aJ;refine iG func59 ntmps59 (fun w0 E0 hG=> ?_);cases hg:dJ c with
 |false=>
  rw[hg] at kg;rw[show gh c s=false by simp[gh,hg],if_pos rfl];refine wz ?_;all_goals refine bn ?_
  all_goals rfl
 |true=>
 rw[hg] at kg;obtain⟨hct,hci,hcc⟩:=zK hg;have kch:=DX c s hok C (fun name=>Nat.le_trans (hcc name) dD) hok.wh.ok;have kcg:=DY s hok (ab c s.table).1 (Nat.le_trans (hcc s.table) dD) hok.wh.ok;cases h1:decide (s.kind<1) with
 |true=>
  rw[show gh c s=false by simp[gh,hg,h1],if_pos rfl];refine wz ?_;all_goals refine bn ?_
  all_goals rfl
 |false=>
 cases h2:decide (7<s.kind) with
 |true=>
  rw[show gh c s=false by simp[gh,hg,h1,h2],if_pos rfl];refine wz ?_;all_goals refine bn ?_
  all_goals rfl
 |false=>
 cases h3:(du s).any (fun e=> !bY 1 e) with
 |true=>
  rw[h3] at kc;rw[show gh c s=false by simp[gh,hg,h1,h2,h3],if_pos rfl];refine wz ?_;all_goals refine bn ?_
  all_goals rfl
 |false=>
 rw[h3] at kc;rw[show gh c s=true by simp[gh,hg,h1,h2,h3],if_neg dD];have hk:s.kind=1∨s.kind=2∨s.kind=3∨s.kind=4∨s.kind=5∨s.kind=6∨s.kind=7:=by
  have:=of_decide_eq_false h1;have:=of_decide_eq_false h2;omega
 have lts:((c.ts.map Tab.c).length:Int)=(c.ts.length:Int):=by simp
 have lis:((c.is.map Idx.c).length:Int)=(c.is.length:Int):=by simp
 have q0:((0:Int) !=0)=false:=rfl;rcases hk with hk|hk|hk|hk|hk|hk|hk
 ·
  rw[show eM c s=(s,pI c s) by rw[eM,if_pos hk]];obtain⟨kind,name,table,col,cols,rows,sets,frm,out,wh,ord,down,n⟩:=s;dsimp only at hk kg ke kc kfT kfN knN kgt kx⊢;subst hk;clear kch kcg hcc hgt hok;unfold pI;dsimp only;generalize ab c table=ft at*
  generalize ab c name=fn at*
  obtain⟨tt,is⟩:=ft;obtain⟨tn,twice⟩:=fn;dsimp only at*
  cases hq:cw ⟨name,cols⟩ with
  |false=>
   rw[hq] at kgt;rw[if_pos rfl,if_pos (show(1:Int)≠0 by decide)];refine wz ?_;all_goals refine bn ?_
   all_goals rfl
  |true=>
  rw[hq] at kgt;rw[if_neg (show¬(true=false) by decide)];cases twice with
  |true=>
   rw[if_pos rfl,if_pos (show(4:Int)≠0 by decide)];refine wz ?_;all_goals refine bn ?_
   all_goals rfl
  |false=>
  rw[if_neg (show¬(false=true) by decide)];by_cases h3:3≤c.ts.length
  · have q3:decide ((3:Int)≤((c.ts.map Tab.c).length:Int))=true:=decide_eq_true (by rw[lts];omega);rw[if_pos h3,if_pos (show(8:Int)≠0 by decide)];refine wz ?_;all_goals refine bn ?_
    all_goals rfl
  · have q3:decide ((3:Int)≤((c.ts.map Tab.c).length:Int))=false:=decide_eq_false (by rw[lts];omega);rw[if_neg h3,if_neg (show¬((0:Int)≠0) by decide)];refine wz ?_;all_goals refine bn ?_
    all_goals rfl
 ·
  rw[show eM c s=(s,vB c s) by rw[eM,if_neg (by rw[hk];decide),if_pos hk]];have kcol:=eJ (ab c s.table).1 s.col (Nat.le_trans (hcc s.table) dD);obtain⟨kind,name,table,col,cols,rows,sets,frm,out,wh,ord,down,n⟩:=s;dsimp only at hk kg ke kc kfT kfN knN kgt kx kcol⊢;subst hk;clear kch kcg hcc hgt hok kgt kfN;unfold vB;dsimp only;generalize ab c table=ft at*
  obtain⟨tt,is⟩:=ft;dsimp only at*
  cases hq:bG name with
  |false=>
   rw[hq] at knN;rw[if_pos rfl,if_pos (show(1:Int)≠0 by decide)];refine wz ?_;all_goals refine bn ?_
   all_goals rfl
  |true=>
  rw[hq] at knN;rw[if_neg (show¬(true=false) by decide)];cases is with
  |false=>
   rw[if_pos (show(false=false∨aU tt col<0) from .inl rfl),if_pos (show(3:Int)≠0 by decide)];refine wz ?_;all_goals refine bn ?_
   all_goals rfl
  |true=>
  by_cases hc0:aU tt col<0
  · have qc:decide (aU tt col<0)=true:=decide_eq_true hc0;rw[if_pos (show(true=false∨aU tt col<0) from .inr hc0),if_pos (show(3:Int)≠0 by decide)];refine wz ?_;all_goals refine bn ?_
    all_goals rfl
  have qc:decide (aU tt col<0)=false:=decide_eq_false hc0;rw[if_neg (show¬(true=false∨aU tt col<0) by simp[hc0])];cases ha:c.is.any (fun x=>x.n==name) with
  |true=>
   rw[ha] at kx;rw[if_pos rfl,if_pos (show(4:Int)≠0 by decide)];(repeat' first|intro hb hp|(refine LW.is ?_;first|apply ag;rfl;apply aA;rfl|apply fz (q:=3);rfl;exact hG;exact kx;rfl;rfl;rfl;rfl;rfl;rfl;rfl)|refine am ?_|refine ak ?_ ?_|fail)
   all_goals refine bn ?_
   all_goals rfl
  |false=>
  rw[ha] at kx;rw[if_neg (show¬(false=true) by decide)];by_cases h4:4≤c.is.length
  · have q3:decide ((4:Int)≤((c.is.map Idx.c).length:Int))=true:=decide_eq_true (by rw[lis];omega);rw[if_pos h4,if_pos (show(8:Int)≠0 by decide)];(repeat' first|intro hb hp|(refine LW.is ?_;first|apply ag;rfl;apply aA;rfl|apply fz (q:=3);rfl;exact hG;exact kx;rfl;rfl;rfl;rfl;rfl;rfl;rfl)|refine am ?_|refine ak ?_ ?_|fail)
    all_goals refine bn ?_
    all_goals rfl
  · have q3:decide ((4:Int)≤((c.is.map Idx.c).length:Int))=false:=decide_eq_false (by rw[lis];omega);rw[if_neg h4,if_neg (show¬((0:Int)≠0) by decide)];(repeat' first|intro hb hp|(refine LW.is ?_;first|apply ag;rfl;apply aA;rfl|apply fz (q:=3);rfl;exact hG;exact kx;rfl;rfl;rfl;rfl;rfl;rfl;rfl)|refine am ?_|refine ak ?_ ?_|fail)
    all_goals refine bn ?_
    all_goals rfl
 ·
  rw[show eM c s=(s,if(ab c s.name).2 then 0 else 3) by rw[eM,if_neg (by rw[hk];decide),if_neg (by rw[hk];decide),if_pos hk]];obtain⟨kind,name,table,col,cols,rows,sets,frm,out,wh,ord,down,n⟩:=s;dsimp only at hk kg ke kc kfT kfN⊢;subst hk;clear kch kcg hcc hgt hok kgt knN kx;generalize ab c table=ft at*
  generalize ab c name=fn at*
  obtain⟨tt,is⟩:=ft;obtain⟨tn,there⟩:=fn;dsimp only at*
  cases there with
  |false=>
   rw[if_pos (show((if false=true then(0:Int) else 3)≠0) by decide)];refine wz ?_;all_goals refine bn ?_
   all_goals rfl
  |true=>
   rw[if_neg (show¬((if true=true then(0:Int) else 3)≠0) by decide)];refine wz ?_;all_goals refine bn ?_
   all_goals rfl
 iterate 3
  ·
   rw[show eM c s=if(ab c s.table).2 then eO s (ab c s.table).1 else(s,3) by rw[eM,if_neg (by rw[hk];decide),if_neg (by rw[hk];decide),if_neg (by rw[hk];decide),if_neg (by rw[hk];decide)]];generalize hm:eO s (ab c s.table).1=m at*
   obtain⟨kind,name,table,col,cols,rows,sets,frm,out,wh,ord,down,n⟩:=s;dsimp only at hk kg ke kc kfT kcg⊢;subst hk;clear hm kch hcc hgt hok kgt knN kx kfN;generalize ab c table=ft at*
   obtain⟨tt,is⟩:=ft;obtain⟨m1,m2⟩:=m;dsimp only at*
   cases is with
   |false=>
    rw[if_neg (show¬(false=true) by decide),if_pos (show(3:Int)≠0 by decide)];exact ws
   |true=>
   rw[if_pos rfl];by_cases hm2:m2=0
   · subst hm2;rw[if_neg (show¬((0:Int)≠0) by decide)];exact ws
   · have qm:(m2 !=0)=true:=by simpa using hm2
     rw[if_pos hm2];exact ws
 ·
  rw[show eM c s=iI c s by rw[eM,if_neg (by rw[hk];decide),if_neg (by rw[hk];decide),if_neg (by rw[hk];decide),if_pos hk]];generalize iI c s=m at*
  obtain⟨kind,name,table,col,cols,rows,sets,frm,out,wh,ord,down,n⟩:=s;dsimp only at hk kg ke kc kfT kch⊢;subst hk;clear kcg hcc hgt hok kgt knN kx kfN;generalize ab c table=ft at*
  obtain⟨tt,is⟩:=ft;obtain⟨m1,m2⟩:=m;dsimp only at*
  by_cases hm2:m2=0
  · subst hm2;rw[if_neg (show¬((0:Int)≠0) by decide)];refine wz ?_;all_goals refine bn ?_
    all_goals rfl
  · have qm:(m2 !=0)=true:=by simpa using hm2
    rw[if_pos hm2];refine wz ?_;all_goals refine bn ?_
    all_goals rfl
end Go.Proofs.Y
namespace Go.Proofs.Y
open Go.Abs
def ug(ty:Int)(v:Val):Prop:=(v.k=0∨v.k=ty)∧(ty≠3→aw v=true)
def gz(ty:Int):ug ty af:=⟨.inl U,fun _=>by decide⟩
def jX(n:Int):ug 3 (dX n):=by
 unfold dX;split
 · exact⟨.inr U,fun h=>absurd U h⟩
 · exact gz 3
def Kj(op:Int)(a b:Val):ug 1 (tR op a b):=by
 unfold tR;simp only;generalize (if op=4 then a.n - b.n else a.n+b.n)=n;cases h:aw ⟨1,n,[]⟩ with
 |true=>rw[if_pos U];exact⟨.inr U,fun _=>h⟩
 |false=>rw[if_neg dD];exact gz 1
def Ki{op:Int}(a b:Val):(op=3∨op=4→ug 1 (qg op a b))∧(op≠3→op≠4→ug 3 (qg op a b)):=by
 unfold qg;constructor
 · intro h;rw[if_neg C,if_neg C];split
   · exact gz 1
   · rw[if_neg C,if_neg C];split
     · exact gz 1
     · exact Kj op a b
 · intro h3 h4;split
   · exact jX _
   · split
     · exact jX _
     · split
       · exact gz 3
       · split
         · exact jX _
         · split
           · exact jX _
           · rw[if_pos (.inr ⟨h3,h4⟩)];exact gz 3
def If{op:Int}: ∀vs:List Val,(op=3∨op=4→ug 1 (mC op vs))∧(op≠3→op≠4→ug 3 (mC op vs))
 | [] =>⟨fun _=>gz 1,fun _ _=>gz 3⟩
 | [a] =>⟨fun h=>by rw[mC,if_neg C,if_neg C];exact gz 1,fun _ _=>by
     rw[mC];split
     · exact jX _
     · split
       · exact jX _
       · exact gz 3⟩
 | [a,b] =>Ki a b
 |a::b::c::t=>⟨fun _=>gz 1,fun _ _=>gz 3⟩
def Ln(ts:List Tab)(row:List Val):Prop:= ∀(s name:Str) (p k:Int),eF ts s name=(p,k,0)→0≤p∧ ∃v,row[p.toNat]?=some v∧ug k v
def Gr{ts:List Tab}{row:List Val}(hr:Ln ts row){e b:Ex}{ty:Int}(hg:e.op=1→aw e.v=true)(h:an ts e=(b,ty,0)):ug ty (aC row b):=by
 obtain⟨op,v,s,name,n,l⟩:=e;rw[iL] at h;generalize eG (l.map fun x=>(an ts x).2.2)=f at*
 generalize (l.map fun x=>(an ts x).1)=es at*
 generalize (l.map fun x=>(an ts x).2.1)=tys at*
 unfold bV at h;by_cases hf:f=0
 case neg=>rw[if_pos hf] at h;simp only[Prod.mk.injEq] at h;exact absurd h.2.2 hf
 rw[if_neg (by simp[hf])] at h;by_cases h1:op=1
 · rw[if_pos h1] at h;simp only[Prod.mk.injEq] at h;obtain⟨rfl,rfl,_⟩:=h;subst h1;rw[eR];exact⟨.inr U,fun _=>hg U⟩
 rw[if_neg h1] at h;by_cases h2:op=2
 · rw[if_pos h2] at h;simp only[Prod.mk.injEq] at h;obtain⟨rfl,h3,h4⟩:=h;subst h2;obtain⟨p0,w,hw,hk⟩:=hr s name (eF ts s name).1 ty (by rw[←h3,←h4]);rw[eR,oK,uZ,if_pos p0,hw];exact hk
 rw[if_neg h2] at h;have hev: ∀n,aC row (.mk op v s name n es)=mC op (es.map (aC row)):=fun n=>by rw[eR,jQ _ _ _ _ h1 h2]
 have hr:=If (op:=op) (es.map (aC row));have hb: ∀{x:BR},x=xe→x=(b,ty,0)→False:=fun h1 h2=>by rw[h1] at h2;simp[xe] at h2
 by_cases h34:op=3∨op=4
 · rw[if_pos h34] at h;split at h
   · simp only[Prod.mk.injEq] at h;obtain⟨rfl,rfl,_⟩:=h;rw[hev];exact hr.1 h34
   · exact(hb U h).elim
 rw[if_neg h34] at h;have h3:op≠3:=fun e=>h34 (.inl e)
 have h4:op≠4:=fun e=>h34 (.inr e)
 split at h
 · split at h
   · simp only[Prod.mk.injEq] at h;obtain⟨rfl,rfl,_⟩:=h;rw[hev];exact hr.2 h3 h4
   · exact(hb U h).elim
 · split at h
   · split at h
     · simp only[Prod.mk.injEq] at h;obtain⟨rfl,rfl,_⟩:=h;rw[hev];exact hr.2 h3 h4
     · exact(hb U h).elim
   · split at h
     · simp only[Prod.mk.injEq] at h;obtain⟨rfl,rfl,_⟩:=h;rw[hev];exact hr.2 h3 h4
     · exact(hb U h).elim
def Kk{ty:Int}{v:Val}(h:ug 0 v):ug ty v:=⟨.inl (h.1.elim id id),fun _=>h.2 dD⟩
def xV{ts:List Tab}{row:List Val}(hr:Ln ts row){e b:Ex}{k:Int}(hg:e.op=1→aw e.v=true)(h:dw ts e k=(b,0)):ug k (aC row b):=by
 unfold dw at h;obtain⟨⟨b',ty,f⟩,hb⟩: ∃r,an ts e=r:=⟨_,rfl⟩
 rw[hb] at h;dsimp only at h;by_cases hf:f=0
 case neg=>rw[if_pos hf] at h;simp only[Prod.mk.injEq] at h;exact absurd h.2 hf
 subst hf;rw[if_neg sP] at h;by_cases hc:((ty !=k) && (ty !=0))=true
 · rw[if_pos hc] at h;simp at h
 rw[if_neg hc] at h;simp only[Prod.mk.injEq] at h;obtain⟨rfl,_⟩:=h;have:=Gr hr hg hb;by_cases hk:ty=k
 · rw[←hk];exact this
 · have h0:ty=0:=by
    simp only[aE,bne_iff_ne,not_and,Decidable.not_not] at hc;exact hc hk
   subst h0;exact Kk this
def oG{row:List Val}: ∀{cs:List Col} {i:Nat},oH row i cs=true→ ∀(j:Nat) (c:Col),cs[j]?=some c→DG c (row.getD (i+j) af)=true
 | [],i,h,j,c,hc=>by simp at hc
 |c0::cs,i,h,j,c,hc=>by
  rw[oH,List.zipIdx_cons,List.all_cons,aE] at h;cases j with
  |zero=>simp at hc;subst hc;exact h.1
  |succ j=>
   have:=oG (row:=row) (cs:=cs) (i:=i+1) h.2 j c (by simpa using hc);rw[show i+(j+1)=i+1+j by omega];exact this
def Fe{c:Col}{v:Val}(h:DG c v=true):ug c.t v:=by
 unfold DG at h;simp only[Bool.not_eq_true',Bool.or_eq_false_iff,Bool.not_eq_false',Bool.and_eq_false_iff,bne_eq_false_iff_eq] at h;refine⟨?_,fun _=>h.1⟩;rcases h.2 with h|h
 · exact .inr h
 · exact .inl h.2
def IC{t:Tab}{s name:Str}{p k:Int}(h:eF [t] s name=(p,k,0)):p=aU t name∧0≤aU t name∧k=eT t (aU t name):=by
 unfold eF at h;simp only[iE] at h;by_cases hh:FZ s name t=true
 · rw[if_pos hh,if_neg dD] at h;have h0:0≤aU t name:=by unfold FZ at hh;simp only[aE,decide_eq_true_eq] at hh;exact hh.1
   rw[if_neg C] at h;simp only[Prod.mk.injEq] at h;exact⟨by omega,h0,h.2.1.symm⟩
 · rw[if_neg hh] at h;simp at h
def Jl{t:Tab}{name:Str}(h:0≤aU t name): ∃c,t.cols[(aU t name).toNat]?=some c∧c.n=name:=by
 obtain⟨x,hx,hp,_⟩:=Mm (p:=fun c:Col=>c.n==name) (l:=t.cols) (i:=(aU t name).toNat) (show aU t name=_ by omega);exact⟨x,hx,by simpa using hp⟩
def HI{t:Tab}{row:List Val}(h:jM t row=true):Ln [t] row:=by
 simp only[jM,aE,beq_iff_eq] at h;intro s name p k hf;obtain⟨rfl,h0,rfl⟩:=IC hf;refine⟨h0,?_⟩;obtain⟨c,hc,_⟩:=Jl h0;have hi:=(gS hc).1;have hv:=oG h.2 _ _ hc;rw[Nat.zero_add] at hv;refine⟨row.getD (aU t name).toNat af,cV af C,?_⟩;have:eT t (aU t name)=c.t:=by rw[eT,List.getD_eq_getElem?_getD,hc];rfl
 rw[this];exact Fe hv
def vP{d:Int}{e:Ex}(h:bY d e=true):e.op=1→aw e.v=true:=by
 obtain⟨op,v,s,name,n,l⟩:=e;intro h1;have h1:op=1:=h1;subst h1;rw[gD] at h;cases hl:lookM tQ 1 with
 |none=>rw[hl] at h;simp at h
 |some k=>
  rw[hl] at h;simp only[aE,Bool.not_eq_true'] at h;have:=h.2.1;show aw v=true;cases hv:aw v with
  |true=>rfl
  |false=>simp[gl,hv] at this
structure Upd (c:Cat) (s:Stm) (b:Stm):Prop where
 tab:(ab c s.table).2=true
 sets: ∀x∈b.sets,0≤aU (ab c s.table).1 x.co∧ ∃y∈s.sets,dw [(ab c s.table).1] y.e (eT (ab c s.table).1 (aU (ab c s.table).1 x.co))=(x.e,0)
 wh:dO [(ab c s.table).1] s.wh=(b.wh,0)
 good:dJ c=true
 form: ∀e∈du s,bY 1 e=true
 len:b.sets.length=s.sets.length
def sC{c:Cat}{s:Stm}(h:gh c s=true):dJ c=true∧ ∀e∈du s,bY 1 e=true:=by
 simp only[gh,Bool.not_eq_true',Bool.or_eq_false_iff,Bool.not_eq_false'] at h;refine⟨h.1.1.1,fun e he=> ?_⟩;have:=List.any_eq_false.1 h.2 e he;simpa using this
def mY{l:List Int}(h:eG l=0): ∀x∈l,x=0:=by
 intro x hx;unfold eG at h;cases hf:l.find? (fun f=>f !=0) with
 |none=>have:=List.find?_eq_none.1 hf x hx;simpa using this
 |some y=>
  rw[hf] at h;have:=List.find?_some hf;simp at h this;omega
def CK{c:Cat}{s b:Stm}(hk:s.kind=4∨s.kind=5∨s.kind=6)(h:aJ c s=(b,0)):Upd c s b:=by
 unfold aJ at h;cases hf:gh c s with
 |false=>rw[hf,if_pos U] at h;simp at h
 |true=>
 rw[hf,if_neg dD] at h;obtain⟨hg,hfo⟩:=sC hf;by_cases hp:(eM c s).2=0
 case neg=>rw[if_pos hp] at h;simp only[Prod.mk.injEq] at h;exact absurd h.2 hp
 rw[if_neg (by simp[hp])] at h;simp only[Prod.mk.injEq] at h;obtain⟨h,_⟩:=h;have hpre:eM c s=if(ab c s.table).2 then eO s (ab c s.table).1 else(s,3):=by
  rw[eM,if_neg C,if_neg C,if_neg C,if_neg C]
 rw[hpre] at h hp;cases ht:(ab c s.table).2 with
 |false=>rw[ht,if_neg dD] at hp;simp at hp
 |true=>
 rw[ht,if_pos U] at h hp;unfold eO at h hp;by_cases he:rowsE s (ab c s.table).1=0
 case neg=>rw[if_pos he] at hp;exact absurd hp he
 rw[if_neg (by simp[he])] at h hp;by_cases hs:setsE s (ab c s.table).1=0
 case neg=>rw[if_pos hs] at hp;exact absurd hp hs
 rw[if_neg (by simp[hs])] at h hp;dsimp only at h hp;refine⟨ht,fun x hx=> ?_,by rw[←h];exact Prod.ext U hp,hg,hfo,by rw[←h];simp⟩;rw[←h] at hx;obtain⟨p,hp1,rfl⟩:=mM hx;have h0:=mY hs _ (List.mem_map_of_mem (f:=fun p=>(lq (ab c s.table).1 s.sets p).2) hp1);have hy:p.1∈s.sets:=by
  obtain⟨q,i⟩:=p;exact gE (List.mem_zipIdx_iff_getElem?.1 hp1)
 unfold lq at h0⊢;by_cases hc:aU (ab c s.table).1 p.1.co<0
 · rw[if_pos hc] at h0;simp at h0
 rw[if_neg hc] at h0⊢;split at h0
 · simp at h0
 rename_i hany;rw[if_neg hany];exact⟨Int.not_lt.1 hc,p.1,hy,Prod.ext U h0⟩
end Go.Proofs.Y
namespace Go.Abs
def Yields.cmpB{P:Program}{c:Ctx}{st:St}{o:Oper}{f:FuncId}{x y:Operand}{ats:Array TypeId}{m n:List UInt8}(ho:o.op= .call {callee:= .value (.func f),args:= #[x,y],argTypes:=ats})
 (hok:tB P f Extern.BytealgCompare.compare) (hx:st.ev x=aS m) (hy:st.ev y=aS n):Yields P c st o (aI (Lib.compareBytes m n)):=
 .im U fun E a w hi=>by
   obtain⟨fn,hf,h1,h2,h3,h4⟩:=hok;have e1:=hi.im hx;have e2:=hi.im hy;have hrun:=run_callFunc_extern hf h1 h2 h3 h4 #[.string ⟨m.toArray⟩,.string ⟨n.toArray⟩] w;rw[Lib.run_compareString] at hrun;have:(execOp a.eval o).run P w=(callFunc f #[a.eval x,a.eval y]).run P w:=by
    simp[execOp,ho,resolve,Deferred.ofValue,Act.eval,invoke]
   rw[this,e1,e2,hrun];simp[Result.andThen]
def LK{P:Program}{c:Ctx}{fr:List (Nat×AV)}{bx:List (Nat×Box)}{tk:List (Nat×Tok)}{d:Nat}{ty:TypeId}{pos:String}{aft:Array Edge}{f:FuncId}{x y:Operand}{ats:Array TypeId}{m n:List UInt8}
 (hok:tB P f Extern.BytealgCompare.compare) (hx:St.ev ⟨fr,bx,tk⟩ x=aS m) (hy:St.ev ⟨fr,bx,tk⟩ y=aS n):VV P c ⟨fr,bx,tk⟩ ⟨some d,.call {callee:= .value (.func f),args:= #[x,y],argTypes:=ats},ty,pos,aft,none⟩ (aI (Lib.compareBytes m n)) []:=
 .mk fun st' kE kL=> .cmpB U hok ((kE x oO).trans hx) ((kE y oO).trans hy)
end Go.Abs
namespace Go.Proofs.Y
open Go.Abs Go.Proofs.Tryz
attribute [local irreducible] L Code.wp bodyPost Exit.then Exit.inBlock
def wn: ∀a b:Str,decide (Lib.compareBytes a b<0)=decide (a<b)
 | [],[] =>by simp[Lib.compareBytes]
 | [],_::_=>by simp[Lib.compareBytes]
 |_::_,[] =>by simp[Lib.compareBytes]
 |a::l,b::m=>by
  have ih:=wn l m;unfold Lib.compareBytes;rw[Bool.eq_iff_iff] at ih⊢;simp only[decide_eq_true_eq,List.cons_lt_cons_iff] at ih⊢;by_cases h1:a<b
  · simp[h1]
  · by_cases h2:b<a
    · have:a≠b:=fun e=>by subst e;exact h1 h2
      simp[h1,h2,this]
    · have:a=b:=UInt8.le_antisymm (UInt8.not_lt.1 h2) (UInt8.not_lt.1 h1);subst this;simp[h1,ih]
def DQ: ∀a b:Str,(Lib.compareBytes a b==0)=(a==b)
 | [],[] =>by simp[Lib.compareBytes]
 | [],_::_=>by simp[Lib.compareBytes]
 |_::_,[] =>by simp[Lib.compareBytes]
 |a::l,b::m=>by
  have ih:=DQ l m;unfold Lib.compareBytes;rw[Bool.eq_iff_iff] at ih⊢;simp only[beq_iff_eq,List.cons.injEq] at ih⊢;by_cases h1:a<b
  · have:a≠b:=fun e=>by subst e;exact absurd h1 (UInt8.lt_irrefl _)
    simp[h1,this]
  · by_cases h2:b<a
    · have:a≠b:=fun e=>by subst e;exact h1 h2
      simp[h1,h2,this]
    · have:a=b:=UInt8.le_antisymm (UInt8.not_lt.1 h2) (UInt8.not_lt.1 h1);subst this;simp[h1,ih]
def Mz:tB prog 208 Extern.BytealgCompare.compare:=⟨f208,func208,by kernel_rfl,by kernel_rfl,by kernel_rfl,by kernel_rfl⟩
def xd(a b:Str):CallA prog 178 [aS a,aS b] [] [] [] (aI (Lib.compareBytes a b)):=by
 refine iA func178 ntmps178 (fun w0 E0=> ?_);(repeat' first|intro hb hp|refine ag rfl (LK Mz U U) ?_|refine am ?_|refine ak ?_ ?_|fail)
 all_goals refine bn ?_
 all_goals rfl
def tI(a b:Str):CallA prog 136 [aS a,aS b] [] [] [] (aI (Lib.compareBytes a b)):=by
 refine iA func136 ntmps136 (fun w0 E0=> ?_);(repeat' first|intro hb hp|refine LW.is (s_C (xd a b) ?_)|refine am ?_|refine ak ?_ ?_|fail)
 all_goals refine bn ?_
 all_goals rfl
def xj(a b:Str)(cols:IV):CallA prog 135 [.agg [.iv (S a),.iv cols],aS b] [] [] [] (aI (Lib.compareBytes a b)):=by
 refine iA func135 ntmps135 (fun w0 E0=> ?_);(repeat' first|intro hb hp|refine LW.is (s_C (tI a b) ?_)|refine am ?_|refine ak ?_ ?_|fail)
 all_goals refine bn ?_
 all_goals rfl
def xi(a b:Str)(x y:IV):CallA prog 139 [.agg [.iv (S a),.iv x,.iv y],aS b] [] [] [] (aI (Lib.compareBytes a b)):=by
 refine iA func139 ntmps139 (fun w0 E0=> ?_);(repeat' first|intro hb hp|refine LW.is (s_C (tI a b) ?_)|refine am ?_|refine ak ?_ ?_|fail)
 all_goals refine bn ?_
 all_goals rfl
def xF{k i:Nat}{es:List (List IV)}{e:List IV}(hk: ∀e∈es,e.length=k)(h:es[i]?=some e){t:TypeId}:((Box.mk t (.r es.flatten 0)).cs.drop (i*k)).take k=e.map .iv:=by
 rw[Box.cs_r,List.replicate_zero,List.append_nil,←List.map_drop,←List.map_take,sD es i e hk h]
def Fj{gs:au}(ts:List Tab)(key:Str)(hne:ts≠ [])(hl:ts.length≤140737488355328)(hf:Falls (fun s=>decide (s<key)) (ts.map Tab.n)):
 CallG gs prog 134 [.bsh 1000 0 ts.length 2,aS key,.fn 135 []] [(1000,⟨57,.r (ts.map Tab.c).flatten 0⟩)] [(1000,⟨57,.r (ts.map Tab.c).flatten 0⟩)] [] (.tup [aI (aW (ts.map Tab.n) key:Int),aB (bN (ts.map Tab.n) key)]):=by
 refine iG func134 ntmps134 (fun w0 E0 hG=> ?_);have hle:aW (ts.map Tab.n) key≤ts.length:=by have:=jd (fun s=>decide (s<key)) (ts.map Tab.n);rwa [lM] at this
 have hk: ∀e∈ts.map Tab.c,e.length=2:=by intro e he;obtain⟨t,_,rfl⟩:=mM he;rfl
 refine wz ?_;refine ae (ι:=Nat×Nat) (fun i=>⟨[(9,aI (i.1:Int)),(10,aI (i.2:Int)),(8,aI (ts.length:Int)),(0,.bsh 1000 0 ts.length 2),(1,aS key),(2,.fn 135 [])],[(1000,⟨57,.r (ts.map Tab.c).flatten 0⟩)],[]⟩) (fun i=>i.2 - i.1) (fun i=>i.1≤aW (ts.map Tab.n) key∧aW (ts.map Tab.n) key≤i.2∧i.2≤ts.length) (i0:=(0,ts.length)) ?_ ⟨Nat.zero_le _,hle,Nat.le_refl _⟩ ?_
 · exact(Wk.mk' ay F6 B1 .nil)
 rintro ⟨i,j⟩ ⟨h1,h2,h3⟩ K hK;dsimp only at h1 h2 h3⊢;cases hlt:decide ((i:Int)<(j:Int)) with
 |true=>
  have hij:i<j:=by simpa using hlt
  have hh:=Iv i j C;have hm:(i+j) / 2<ts.length:=C;obtain⟨t,ht⟩: ∃t,ts[(i+j) / 2]?=some t:=⟨_,gG hm⟩
  have hs:(ts.map Tab.n)[(i+j) / 2]?=some t.n:=by rw[gP,ht];rfl
  have g0:0≤IntKind.i64.wrap ((IntKind.u64.wrap ((i:Int)+(j:Int))).fdiv (2 ^ min (Int.toNat 1) IntKind.u64.bits)):=by rw[hh];omega
  have g1:IntKind.i64.wrap ((IntKind.u64.wrap ((i:Int)+(j:Int))).fdiv (2 ^ min (Int.toNat 1) IntKind.u64.bits))<(ts.length:Int):=by rw[hh];omega
  have g4:(0+(IntKind.i64.wrap ((IntKind.u64.wrap ((i:Int)+(j:Int))).fdiv (2 ^ min (Int.toNat 1) IntKind.u64.bits))).toNat)*2=(i+j) / 2*2:=by rw[hh,iN,Nat.zero_add]
  have g5:((Box.mk 57 (.r (ts.map Tab.c).flatten 0)).cs.drop ((i+j) / 2*2)).take 2= [.iv (S t.n),.iv (.sl (t.cols.map Col.c))]:=xF hk (by rw[gP,ht];rfl);have g2: -9223372036854775808≤IntKind.i64.wrap ((IntKind.u64.wrap ((i:Int)+(j:Int))).fdiv (2 ^ min (Int.toNat 1) IntKind.u64.bits))+1:=C;have g3:IntKind.i64.wrap ((IntKind.u64.wrap ((i:Int)+(j:Int))).fdiv (2 ^ min (Int.toNat 1) IntKind.u64.bits))+1≤9223372036854775807:=by rw[hh];omega
  have kw:CallG gs prog 135 ([.agg [.iv (S t.n),.iv (.sl (t.cols.map Col.c))],aS key] ++ []) [] [] [] (aI (Lib.compareBytes t.n key)):=(xj t.n key (.sl (t.cols.map Col.c))).toG (gs:=gs);cases hp:decide (t.n<key) with
  |true=>
   have:=hf.le hs (by simpa using hp);have hc:decide (Lib.compareBytes t.n key<0)=true:=by rw[wn];exact hp
   (repeat' first|intro hb hp|refine aY (f:=135) (caps:= []) U hG U kw U .nil U U ?_|(refine LW.is ?_;first|refine ag U (iV U U g2 g3) ?_|refine ag U (az U U g0 g1 g4) ?_|refine ag U (cO U U g5 U) ?_)|refine am ?_|refine ak ?_ ?_|fail)
   refine hK _ ((i+j) / 2+1,j) ⟨by unfold aW;omega,h2,h3⟩ oD ?_;refine(Wk.mk' ay (.cons U (Sub.of_eq (congrArg (fun z=>aI z) ?_)) F5) B1 .nil);rw[hh];rfl
  |false=>
   have:=rF (p:=fun s=>decide (s<key)) hs (by simpa using hp);have hc:decide (Lib.compareBytes t.n key<0)=false:=by rw[wn];exact hp
   (repeat' first|intro hb hp|refine aY (f:=135) (caps:= []) U hG U kw U .nil U U ?_|(refine LW.is ?_;first|refine ag U (az U U g0 g1 g4) ?_|refine ag U (cO U U g5 U) ?_)|refine am ?_|refine ak ?_ ?_|fail)
   refine hK _ (i,(i+j) / 2) ⟨h1,by unfold aW;omega,by dsimp only;omega⟩ oD ?_;refine(Wk.mk' ay (wF (.cons U (Sub.of_eq (congrArg (fun z=>aI z) ?_)) F4)) B1 .nil);rw[hh]
 |false=>
  have hij: ¬i<j:=by simpa using hlt
  obtain rfl:i=aW (ts.map Tab.n) key:=C;cases ht:ts[aW (ts.map Tab.n) key]? with
  |none=>
   have hlt2:decide (((aW (ts.map Tab.n) key:Nat):Int)<(ts.length:Int))=false:=by have:=gO ht;exact decide_eq_false C
   have hr:bN (ts.map Tab.n) key=false:=by simp[bN,ht]
   rw[hr];refine wz ?_;all_goals exact L.ends U U fR (Wk.mk' ay .nil B1 .nil)
  |some t=>
   have hlt3:=(gS ht).1;have hlt2:decide (((aW (ts.map Tab.n) key:Nat):Int)<(ts.length:Int))=true:=decide_eq_true C;have hs:(ts.map Tab.n)[aW (ts.map Tab.n) key]?=some t.n:=by rw[gP,ht];rfl
   have g0:0≤((aW (ts.map Tab.n) key:Nat):Int):=C;have g1:((aW (ts.map Tab.n) key:Nat):Int)<(ts.length:Int):=C;have g4:(0+(((aW (ts.map Tab.n) key:Nat):Int)).toNat)*2=aW (ts.map Tab.n) key*2:=by rw[iN,Nat.zero_add]
   have g5:((Box.mk 57 (.r (ts.map Tab.c).flatten 0)).cs.drop (aW (ts.map Tab.n) key*2)).take 2= [.iv (S t.n),.iv (.sl (t.cols.map Col.c))]:=xF hk (by rw[gP,ht];rfl);have kw:CallG gs prog 135 ([.agg [.iv (S t.n),.iv (.sl (t.cols.map Col.c))],aS key] ++ []) [] [] [] (aI (Lib.compareBytes t.n key)):=(xj t.n key (.sl (t.cols.map Col.c))).toG (gs:=gs);have hr:bN (ts.map Tab.n) key=(Lib.compareBytes t.n key==0):=by rw[bN,hs,DQ];rfl
   rw[hr];(repeat' first|intro hb hp|refine aY (f:=135) (caps:= []) U hG U kw U .nil U U ?_|(refine LW.is ?_;first|refine ag U (az U U g0 g1 g4) ?_|refine ag U (cO U U g5 U) ?_)|refine am ?_|refine ak ?_ ?_|fail)
   all_goals exact L.ends U U fR (Wk.mk' ay .nil B1 .nil)
def Lf{gs:au}(key:Str):
 CallG gs prog 134 [.iv (.sl []),aS key,.fn 135 []] [] [] [] (.tup [aI 0,aB false]):=by
 refine iG func134 ntmps134 (fun w0 E0 hG=> ?_);refine wz ?_;refine ae (ι:=Nat) (fun i=>⟨[(9,aI 0),(10,aI 0),(8,aI 0),(0,.iv (.sl [])),(1,aS key),(2,.fn 135 [])],[],[]⟩) (fun i=>i) (fun i=>True) (i0:=0) ?_ trivial ?_
 · exact df
 intro i _ K hK;refine wz ?_;all_goals refine bn ?_
 all_goals rfl
def Le{gs:au}(ts:List Idx)(key:Str)(hne:ts≠ [])(hl:ts.length≤140737488355328)(hf:Falls (fun s=>decide (s<key)) (ts.map Idx.n)):
 CallG gs prog 138 [.bsh 1000 0 ts.length 3,aS key,.fn 139 []] [(1000,⟨67,.r (ts.map Idx.c).flatten 0⟩)] [(1000,⟨67,.r (ts.map Idx.c).flatten 0⟩)] [] (.tup [aI (aW (ts.map Idx.n) key:Int),aB (bN (ts.map Idx.n) key)]):=by
 refine iG func138 ntmps138 (fun w0 E0 hG=> ?_);have hle:aW (ts.map Idx.n) key≤ts.length:=by have:=jd (fun s=>decide (s<key)) (ts.map Idx.n);rwa [lM] at this
 have hk: ∀e∈ts.map Idx.c,e.length=3:=by intro e he;obtain⟨t,_,rfl⟩:=mM he;rfl
 refine wz ?_;refine ae (ι:=Nat×Nat) (fun i=>⟨[(9,aI (i.1:Int)),(10,aI (i.2:Int)),(8,aI (ts.length:Int)),(0,.bsh 1000 0 ts.length 3),(1,aS key),(2,.fn 139 [])],[(1000,⟨67,.r (ts.map Idx.c).flatten 0⟩)],[]⟩) (fun i=>i.2 - i.1) (fun i=>i.1≤aW (ts.map Idx.n) key∧aW (ts.map Idx.n) key≤i.2∧i.2≤ts.length) (i0:=(0,ts.length)) ?_ ⟨Nat.zero_le _,hle,Nat.le_refl _⟩ ?_
 · exact(Wk.mk' ay F6 B1 .nil)
 rintro ⟨i,j⟩ ⟨h1,h2,h3⟩ K hK;dsimp only at h1 h2 h3⊢;cases hlt:decide ((i:Int)<(j:Int)) with
 |true=>
  have hij:i<j:=by simpa using hlt
  have hh:=Iv i j C;have hm:(i+j) / 2<ts.length:=C;obtain⟨t,ht⟩: ∃t,ts[(i+j) / 2]?=some t:=⟨_,gG hm⟩
  have hs:(ts.map Idx.n)[(i+j) / 2]?=some t.n:=by rw[gP,ht];rfl
  have g0:0≤IntKind.i64.wrap ((IntKind.u64.wrap ((i:Int)+(j:Int))).fdiv (2 ^ min (Int.toNat 1) IntKind.u64.bits)):=by rw[hh];omega
  have g1:IntKind.i64.wrap ((IntKind.u64.wrap ((i:Int)+(j:Int))).fdiv (2 ^ min (Int.toNat 1) IntKind.u64.bits))<(ts.length:Int):=by rw[hh];omega
  have g4:(0+(IntKind.i64.wrap ((IntKind.u64.wrap ((i:Int)+(j:Int))).fdiv (2 ^ min (Int.toNat 1) IntKind.u64.bits))).toNat)*3=(i+j) / 2*3:=by rw[hh,iN,Nat.zero_add]
  have g5:((Box.mk 67 (.r (ts.map Idx.c).flatten 0)).cs.drop ((i+j) / 2*3)).take 3= [.iv (S t.n),.iv (S t.tb),.iv (S t.co)]:=xF hk (by rw[gP,ht];rfl);have g2: -9223372036854775808≤IntKind.i64.wrap ((IntKind.u64.wrap ((i:Int)+(j:Int))).fdiv (2 ^ min (Int.toNat 1) IntKind.u64.bits))+1:=C;have g3:IntKind.i64.wrap ((IntKind.u64.wrap ((i:Int)+(j:Int))).fdiv (2 ^ min (Int.toNat 1) IntKind.u64.bits))+1≤9223372036854775807:=by rw[hh];omega
  have kw:CallG gs prog 139 ([.agg [.iv (S t.n),.iv (S t.tb),.iv (S t.co)],aS key] ++ []) [] [] [] (aI (Lib.compareBytes t.n key)):=(xi t.n key (S t.tb) (S t.co)).toG (gs:=gs);cases hp:decide (t.n<key) with
  |true=>
   have:=hf.le hs (by simpa using hp);have hc:decide (Lib.compareBytes t.n key<0)=true:=by rw[wn];exact hp
   (repeat' first|intro hb hp|refine aY (f:=139) (caps:= []) U hG U kw U .nil U U ?_|(refine LW.is ?_;first|refine ag U (iV U U g2 g3) ?_|refine ag U (az U U g0 g1 g4) ?_|refine ag U (cO U U g5 U) ?_)|refine am ?_|refine ak ?_ ?_|fail)
   refine hK _ ((i+j) / 2+1,j) ⟨by unfold aW;omega,h2,h3⟩ oD ?_;refine(Wk.mk' ay (.cons U (Sub.of_eq (congrArg (fun z=>aI z) ?_)) F5) B1 .nil);rw[hh];rfl
  |false=>
   have:=rF (p:=fun s=>decide (s<key)) hs (by simpa using hp);have hc:decide (Lib.compareBytes t.n key<0)=false:=by rw[wn];exact hp
   (repeat' first|intro hb hp|refine aY (f:=139) (caps:= []) U hG U kw U .nil U U ?_|(refine LW.is ?_;first|refine ag U (az U U g0 g1 g4) ?_|refine ag U (cO U U g5 U) ?_)|refine am ?_|refine ak ?_ ?_|fail)
   refine hK _ (i,(i+j) / 2) ⟨h1,by unfold aW;omega,by dsimp only;omega⟩ oD ?_;refine(Wk.mk' ay (wF (.cons U (Sub.of_eq (congrArg (fun z=>aI z) ?_)) F4)) B1 .nil);rw[hh]
 |false=>
  have hij: ¬i<j:=by simpa using hlt
  obtain rfl:i=aW (ts.map Idx.n) key:=C;cases ht:ts[aW (ts.map Idx.n) key]? with
  |none=>
   have hlt2:decide (((aW (ts.map Idx.n) key:Nat):Int)<(ts.length:Int))=false:=by have:=gO ht;exact decide_eq_false C
   have hr:bN (ts.map Idx.n) key=false:=by simp[bN,ht]
   rw[hr];refine wz ?_;all_goals exact L.ends U U fR (Wk.mk' ay .nil B1 .nil)
  |some t=>
   have hlt3:=(gS ht).1;have hlt2:decide (((aW (ts.map Idx.n) key:Nat):Int)<(ts.length:Int))=true:=decide_eq_true C;have hs:(ts.map Idx.n)[aW (ts.map Idx.n) key]?=some t.n:=by rw[gP,ht];rfl
   have g0:0≤((aW (ts.map Idx.n) key:Nat):Int):=C;have g1:((aW (ts.map Idx.n) key:Nat):Int)<(ts.length:Int):=C;have g4:(0+(((aW (ts.map Idx.n) key:Nat):Int)).toNat)*3=aW (ts.map Idx.n) key*3:=by rw[iN,Nat.zero_add]
   have g5:((Box.mk 67 (.r (ts.map Idx.c).flatten 0)).cs.drop (aW (ts.map Idx.n) key*3)).take 3= [.iv (S t.n),.iv (S t.tb),.iv (S t.co)]:=xF hk (by rw[gP,ht];rfl);have kw:CallG gs prog 139 ([.agg [.iv (S t.n),.iv (S t.tb),.iv (S t.co)],aS key] ++ []) [] [] [] (aI (Lib.compareBytes t.n key)):=(xi t.n key (S t.tb) (S t.co)).toG (gs:=gs);have hr:bN (ts.map Idx.n) key=(Lib.compareBytes t.n key==0):=by rw[bN,hs,DQ];rfl
   rw[hr];(repeat' first|intro hb hp|refine aY (f:=139) (caps:= []) U hG U kw U .nil U U ?_|(refine LW.is ?_;first|refine ag U (az U U g0 g1 g4) ?_|refine ag U (cO U U g5 U) ?_)|refine am ?_|refine ak ?_ ?_|fail)
   all_goals exact L.ends U U fR (Wk.mk' ay .nil B1 .nil)
def Ld{gs:au}(key:Str):
 CallG gs prog 138 [.iv (.sl []),aS key,.fn 139 []] [] [] [] (.tup [aI 0,aB false]):=by
 refine iG func138 ntmps138 (fun w0 E0 hG=> ?_);refine wz ?_;refine ae (ι:=Nat) (fun i=>⟨[(9,aI 0),(10,aI 0),(8,aI 0),(0,.iv (.sl [])),(1,aS key),(2,.fn 139 [])],[],[]⟩) (fun i=>i) (fun i=>True) (i0:=0) ?_ trivial ?_
 · exact df
 intro i _ K hK;refine wz ?_;all_goals refine bn ?_
 all_goals rfl
end Go.Proofs.Y
namespace Go.Proofs.Y
open Go.Abs
def zip_all{α:Type}{p:α×Nat→Bool}{l:List α}:l.zipIdx.all p=true↔ ∀i x,l[i]?=some x→p (x,i)=true:=by
 rw[List.all_eq_true];constructor
 · intro h i x hx;exact h (x,i) (gE (nT hx))
 · rintro h ⟨x,i⟩ hm;exact h i x (List.mem_zipIdx_iff_getElem?.1 hm)
def pq{α:Type}(f:α→Str)(d:α)(l:List α):(∀i x,l[i]?=some x→0<i→f (l.getD (i - 1) d)<f x)↔(l.map f).Pairwise (· < ·):=by
 constructor
 · intro h;have key: ∀j,j<l.length→ ∀i,i<j→f (l.getD i d)<f (l.getD j d):=by
    intro j;induction j with
    |zero=>intro _ i hi;omega
    |succ j ih=>
     intro hj i hi;have h1:=h (j+1) (l.getD (j+1) d) (cV d hj) C;rw[Nat.add_sub_cancel] at h1;rcases Nat.lt_or_eq_of_le (Nat.lt_succ_iff.1 hi) with h2|rfl
     · exact dp (ih C i h2) h1
     · exact h1
   rw[List.pairwise_iff_getElem];intro i j hi hj hij;rw[lM] at hi hj;have:=key j hj i hij;simpa[List.getD_eq_getElem?_getD,hi,hj] using this
 · intro h i x hx hi;obtain⟨hlt,rfl⟩:=gS hx;have h1:i - 1<l.length:=C;have:=List.pairwise_iff_getElem.1 h (i - 1) i (by simpa using h1) (by simpa using hlt) C;simpa[List.getD_eq_getElem?_getD,h1] using this
def Fw(c:Cat)(i:Nat)(t:Tab):qJ c i t=true↔cw t=true∧(0<i→(c.ts.getD (i - 1) ⟨[],[]⟩).n<t.n):=by
 unfold qJ;rw[iy];rcases Nat.eq_zero_or_pos i with rfl|hi
 · cases cw t<;>simp
 · have:(0:Int)<(i:Int):=C;cases cw t<;>simp[hi,this]
def FY(c:Cat)(i:Nat)(x:Idx):tv c i x=true↔(bG x.n=true∧(ab c x.tb).2=true∧0≤aU (ab c x.tb).1 x.co)∧(0<i→(c.is.getD (i - 1) ⟨[],[],[]⟩).n<x.n):=by
 unfold tv;rw[iy];rcases Nat.eq_zero_or_pos i with rfl|hi
 · cases bG x.n<;>cases(ab c x.tb).2<;>simp
 · have:(0:Int)<(i:Int):=C;cases bG x.n<;>cases(ab c x.tb).2<;>simp[hi,this]
structure GoodC (c:Cat):Prop where
 tabs: ∀t∈c.ts,cw t=true
 tn:(c.ts.map Tab.n).Pairwise (· < ·)
 idx: ∀x∈c.is,bG x.n=true∧(ab c x.tb).2=true∧0≤aU (ab c x.tb).1 x.co
 xn:(c.is.map Idx.n).Pairwise (· < ·)
 tl:c.ts.length≤3
 il:c.is.length≤4
def sv(c:Cat):dJ c=true↔GoodC c:=by
 unfold dJ yY zF;simp only[aE,zip_all,Fw,FY,decide_eq_true_eq];constructor
 · rintro ⟨h1,h2,h3,h4⟩;refine⟨fun t ht=> ?_,(pq Tab.n ⟨[],[]⟩ c.ts).1 (fun i x hx=>(h1 i x hx).2),fun x hx=> ?_,(pq Idx.n ⟨[],[],[]⟩ c.is).1 (fun i x hx=>(h2 i x hx).2),by omega,by omega⟩
   · obtain⟨i,hi⟩:=List.getElem?_of_mem ht;exact(h1 i t hi).1
   · obtain⟨i,hi⟩:=List.getElem?_of_mem hx;exact(h2 i x hi).1
 · intro h;exact⟨fun i x hx=>⟨h.tabs x (gE hx),(pq Tab.n ⟨[],[]⟩ c.ts).2 h.tn i x hx⟩,fun i x hx=>⟨h.idx x (gE hx),(pq Idx.n ⟨[],[],[]⟩ c.is).2 h.xn i x hx⟩,by have:=h.tl;omega,by have:=h.il;omega⟩
def bX{c:Cat}{n:Str}(h:(ab c n).2=true):(ab c n).1∈c.ts∧(ab c n).1.n=n:=by
 unfold ab at h⊢;cases hf:c.ts.find? (fun t=>t.n==n) with
 |none=>rw[hf] at h;cases h
 |some t=>exact⟨List.mem_of_find?_eq_some hf,by have:=List.find?_some hf;simpa using this⟩
def findT_none{c:Cat}{n:Str}:(ab c n).2=false↔ ∀t∈c.ts,t.n≠n:=by
 unfold ab;cases hf:c.ts.find? (fun t=>t.n==n) with
 |none=>simp only[true_iff];intro t ht;have:=List.find?_eq_none.1 hf t ht;simpa using this
 |some t=>simp only[Bool.true_eq_false,false_iff];intro h;exact h t (List.mem_of_find?_eq_some hf) (by have:=List.find?_some hf;simpa using this)
def findT_some{c:Cat}{n:Str}:(ab c n).2=true↔ ∃t∈c.ts,t.n=n:=by
 constructor
 · intro h;exact⟨_,(bX h).1,(bX h).2⟩
 · rintro ⟨t,ht,rfl⟩;rw[←Bool.not_eq_false];intro h;exact findT_none.1 h t ht U
def px{α:Type}{f:α→Str}: ∀{l:List α},(l.map f).Pairwise (· < ·)→ ∀a∈l,∀b∈l,f a=f b→a=b
 | [],_,a,ha,_,_,_=>by cases ha
 |x::l,h,a,ha,b,hb,e=>by
  rw[List.map_cons,List.pairwise_cons] at h;rcases List.mem_cons.1 ha with h1|h1<;>rcases List.mem_cons.1 hb with h2|h2
  · rw[h1,h2]
  · have:=h.1 (f b) (List.mem_map_of_mem h2);rw[←e,h1] at this;exact absurd this (List.lt_irrefl _)
  · have:=h.1 (f a) (List.mem_map_of_mem h1);rw[e,h2] at this;exact absurd this (List.lt_irrefl _)
  · exact px h.2 a h1 b h2 e
def II{c:Cat}(hn:(c.ts.map Tab.n).Pairwise (· < ·)){t:Tab}(ht:t∈c.ts):ab c t.n=(t,true):=by
 have h:(ab c t.n).2=true:=findT_some.2 ⟨t,ht,rfl⟩;obtain⟨h1,h2⟩:=bX h;exact Prod.ext (px hn _ h1 _ ht h2) h
def tri{x y:Str}(h: ¬x<y)(hne:x≠y):y<x:=by
 cases h1:Op.bytesLess y x with
 |true=>rw[iy] at h1;exact of_decide_eq_true h1
 |false=>exact absurd (vF (by rw[iy];exact decide_eq_false h) h1) hne
def yh{ks:List Str}{k:Str}(h:ks.Pairwise (· < ·))(hk:k∉ks):(ks.take (aW ks k)++k::ks.drop (aW ks k)).Pairwise (· < ·):=by
 have hf:=nC k h;have ha: ∀a∈ks.take (aW ks k),a<k:=by
  intro a ha;obtain⟨i,hi⟩:=List.getElem?_of_mem ha;rw[List.getElem?_take] at hi;split at hi
  · rename_i hlt;have:=ve hi hlt;simpa using this
  · cases hi
 have hb: ∀b∈ks.drop (aW ks k),k<b:=by
  intro b hb;obtain⟨i,hi⟩:=List.getElem?_of_mem hb;rw[List.getElem?_drop] at hi;refine tri (fun hlt=> ?_) (fun e=>hk (e▸mD hb));have:=hf.le hi (by simpa using hlt);unfold aW at this;omega
 refine List.pairwise_append.2 ⟨h.sublist (List.take_sublist _ _),List.pairwise_cons.2 ⟨hb,h.sublist (List.drop_sublist _ _)⟩,fun a h1 b h2=> ?_⟩;rcases List.mem_cons.1 h2 with rfl|h2
 · exact ha a h1
 · exact dp (ha a h1) (hb b h2)
def ins_mem{α:Type}{l:List α}{k:Nat}{x y:α}:y∈l.take k++x::l.drop k↔y=x∨y∈l:=by
 have:y∈l↔y∈l.take k∨y∈l.drop k:=by rw[←List.mem_append,List.take_append_drop]
 rw[this];simp only[List.mem_append,List.mem_cons];constructor
 · rintro (h|h|h)
   · exact .inr (.inl h)
   · exact .inl h
   · exact .inr (.inr h)
 · rintro (h|h|h)
   · exact .inr (.inl h)
   · exact .inl h
   · exact .inr (.inr h)
def bE(c:Cat)(s:Stm):Cat:=
 if s.kind=1 then⟨c.ts.take (aW (c.ts.map Tab.n) s.name)++⟨s.name,s.cols⟩::c.ts.drop (aW (c.ts.map Tab.n) s.name),c.is⟩
 else if s.kind=2 then⟨c.ts,c.is.take (aW (c.is.map Idx.n) s.name)++⟨s.name,s.table,s.col⟩::c.is.drop (aW (c.is.map Idx.n) s.name)⟩
 else if s.kind=3 then⟨c.ts.filter (fun x=> !(x.n==s.name)),c.is.filter (fun x=> !(x.tb==s.name))⟩
 else c
def yj{c d:Cat}(hc:(c.ts.map Tab.n).Pairwise (· < ·))(hd:(d.ts.map Tab.n).Pairwise (· < ·)){x:Idx}(h:bG x.n=true∧(ab c x.tb).2=true∧0≤aU (ab c x.tb).1 x.co)(hm:(ab c x.tb).1∈d.ts):
 bG x.n=true∧(ab d x.tb).2=true∧0≤aU (ab d x.tb).1 x.co:=by
 obtain⟨h1,h2,h3⟩:=h;have e:=II hd hm;rw[(bX h2).2] at e;rw[e];exact⟨h1,rfl,h3⟩
def yN{c:Cat}{s:Stm}(h:GoodC c)(hk:s.kind=1)(hg:cw ⟨s.name,s.cols⟩=true)(hn:(ab c s.name).2=false)(hl:c.ts.length<3):GoodC (bE c s)∧(ab (bE c s) s.name).2=true:=by
 have e:bE c s=⟨c.ts.take (aW (c.ts.map Tab.n) s.name)++⟨s.name,s.cols⟩::c.ts.drop (aW (c.ts.map Tab.n) s.name),c.is⟩:=by simp[bE,hk]
 rw[e];have hr:((c.ts.take (aW (c.ts.map Tab.n) s.name)++⟨s.name,s.cols⟩::c.ts.drop (aW (c.ts.map Tab.n) s.name):List Tab).map Tab.n).Pairwise (· < ·):=by
  rw[pA,List.map_cons,List.map_take,List.map_drop];exact yh h.tn (fun hm=>by obtain⟨t,ht,he⟩:=mM hm;exact findT_none.1 hn t ht he)
 refine⟨⟨fun t ht=> ?_,hr,fun x hx=>yj h.tn hr (h.idx x hx) ?_,h.xn,?_,h.il⟩,findT_some.2 ⟨⟨s.name,s.cols⟩,ins_mem.2 (.inl U),rfl⟩⟩
 · rcases ins_mem.1 ht with rfl|ht
   · exact hg
   · exact h.tabs t ht
 · exact ins_mem.2 (.inr (bX (h.idx x hx).2.1).1)
 · simp only[gV,lT,lC,lD];omega
def CE{c:Cat}{s:Stm}(h:GoodC c)(hk:s.kind=2)(hg:bG s.name=true)(ht:(ab c s.table).2=true)(hcol:0≤aU (ab c s.table).1 s.col)(hn: ∀x∈c.is,x.n≠s.name)(hl:c.is.length<4):GoodC (bE c s):=by
 have e:bE c s=⟨c.ts,c.is.take (aW (c.is.map Idx.n) s.name)++⟨s.name,s.table,s.col⟩::c.is.drop (aW (c.is.map Idx.n) s.name)⟩:=by simp[bE,hk]
 rw[e];refine⟨h.tabs,h.tn,fun x hx=> ?_,?_,h.tl,?_⟩
 · rcases ins_mem.1 hx with rfl|hx
   · exact⟨hg,ht,hcol⟩
   · exact h.idx x hx
 · rw[pA,List.map_cons,List.map_take,List.map_drop];exact yh h.xn (fun hm=>by obtain⟨t,ht,he⟩:=mM hm;exact hn t ht he)
 · simp only[gV,lT,lC,lD];omega
def CF{c:Cat}{s:Stm}(h:GoodC c)(hk:s.kind=3):GoodC (bE c s)∧(ab (bE c s) s.name).2=false:=by
 have e:bE c s=⟨c.ts.filter (fun x=> !(x.n==s.name)),c.is.filter (fun x=> !(x.tb==s.name))⟩:=by simp[bE,hk]
 rw[e];have hr:((c.ts.filter (fun x=> !(x.n==s.name))).map Tab.n).Pairwise (· < ·):=h.tn.sublist (List.Sublist.map _ (List.filter_sublist));refine⟨⟨fun t ht=>h.tabs t (List.mem_filter.1 ht).1,hr,fun x hx=> ?_,h.xn.sublist (List.Sublist.map _ (List.filter_sublist)),Nat.le_trans (List.length_filter_le _ _) h.tl,Nat.le_trans (List.length_filter_le _ _) h.il⟩,?_⟩
 · obtain⟨hx1,hx2⟩:=List.mem_filter.1 hx;refine yj h.tn hr (h.idx x hx1) (List.mem_filter.2 ⟨(bX (h.idx x hx1).2.1).1,?_⟩);rw[(bX (h.idx x hx1).2.1).2];exact hx2
 · refine findT_none.2 (fun t ht=> ?_);have:=(List.mem_filter.1 ht).2;simpa using this
def pJ{c:Cat}{s b:Stm}(h:aJ c s=(b,0)):gh c s=true∧eM c s=(b,0):=by
 unfold aJ at h;split at h
 · cases h
 · rename_i hf;split at h
   · rename_i h1;exact absurd (Prod.mk.inj h).2 h1
   · rename_i h1;simp only[ne_eq,Decidable.not_not] at h1;exact⟨by simpa using hf,by rw[←h];exact Prod.ext U h1⟩
def sA{c:Cat}{s:Stm}(h:gh c s=true):1≤s.kind∧s.kind≤7:=by
 simp only[gh,Bool.not_eq_true',Bool.or_eq_false_iff,decide_eq_false_iff_not] at h;obtain⟨⟨⟨_,h1⟩,h2⟩,_⟩:=h;omega
def Cj(c:Cat)(s:Stm):(iI c s).1.kind=s.kind∧(iI c s).1.name=s.name:=by
 unfold iI;refine⟨?_,?_⟩<;>dsimp only<;>repeat' split
 all_goals rfl
def Cn(s:Stm)(t:Tab):(eO s t).1.kind=s.kind∧(eO s t).1.name=s.name:=by
 unfold eO;repeat' split
 all_goals exact⟨rfl,rfl⟩
def eD{c:Cat}{s b:Stm}(h:eM c s=(b,0)):b.kind=s.kind∧b.name=s.name:=by
 have e:b=(eM c s).1:=by rw[h]
 rw[e];unfold eM;split
 · exact⟨rfl,rfl⟩
 split
 · exact⟨rfl,rfl⟩
 split
 · exact⟨rfl,rfl⟩
 split
 · exact Cj c s
 split
 · exact Cn s _
 · exact⟨rfl,rfl⟩
structure WithLaw (c:Cat) (s b:Stm):Prop where
 good:GoodC (bE c b)
 crt:s.kind=1→(ab (bE c b) s.name).2=true
 drp:s.kind=3→(ab (bE c b) s.name).2=false
 len:s.kind≤3→ ¬(c.ts.length=(bE c b).ts.length∧c.is.length=(bE c b).is.length)
 tne:b.kind=2∨b.kind=3→c.ts≠ []
 base:GoodC c
def qD{c:Cat}{s b:Stm}(h:aJ c s=(b,0)):WithLaw c s b:=by
 obtain⟨hf,hp⟩:=pJ h;have hg:=(sv c).1 (sC hf).1;obtain⟨hk1,hk7⟩:=sA hf;obtain⟨hbk,hbn⟩:=eD hp;by_cases h1:s.kind=1
 · have he:pI c s=0∧b=s:=by
    unfold eM at hp;rw[if_pos h1] at hp;exact⟨(Prod.mk.inj hp).2,(Prod.mk.inj hp).1.symm⟩
   obtain⟨he,rfl⟩:=he;unfold pI at he;split at he
   · cases he
   · rename_i a1;split at he
     · cases he
     · rename_i a2;split at he
       · cases he
       · rename_i a3;obtain⟨w1,w2⟩:=yN hg h1 (by simpa using a1) (by simpa using a2) C;refine⟨w1,fun _=>w2,fun h3=>by omega,fun _ hl=> ?_,fun hh=>by omega,hg⟩;have:=hl.1;simp only[bE,h1,if_pos,gV,lT,lC,lD] at this;omega
 by_cases h2:s.kind=2
 · have he:vB c s=0∧b=s:=by
    unfold eM at hp;rw[if_neg h1,if_pos h2] at hp;exact⟨(Prod.mk.inj hp).2,(Prod.mk.inj hp).1.symm⟩
   obtain⟨he,rfl⟩:=he;unfold vB at he;split at he
   · cases he
   · rename_i a1;split at he
     · cases he
     · rename_i a2;split at he
       · cases he
       · rename_i a3;split at he
         · cases he
         · rename_i a4;simp only[not_or,Bool.not_eq_false,Int.not_lt] at a2;have w:=CE hg h2 (by simpa using a1) a2.1 a2.2 (fun x hx e=>a3 (List.any_eq_true.2 ⟨x,hx,by simpa using e⟩)) C;refine⟨w,fun h=>by omega,fun h=>by omega,fun _ hl=> ?_,fun _ e=> ?_,hg⟩
           · have:=hl.2;simp only[bE,h1,h2,if_pos,if_neg,gV,lT,lC,lD] at this;simp at this;omega
           · have:=(bX a2.1).1;rw[e] at this;cases this
 by_cases h3:s.kind=3
 · have he:(ab c s.name).2=true∧b=s:=by
    unfold eM at hp;rw[if_neg h1,if_neg h2,if_pos h3] at hp;refine⟨?_,(Prod.mk.inj hp).1.symm⟩;have:=(Prod.mk.inj hp).2;split at this
    · assumption
    · cases this
   obtain⟨he,rfl⟩:=he;obtain⟨w1,w2⟩:=CF hg h3;refine⟨w1,fun h=>by omega,fun _=>w2,fun _ hl=> ?_,fun _ e=> ?_,hg⟩
   · have:=hl.1;have e:(bE c b).ts=c.ts.filter (fun x=> !(x.n==b.name)):=by simp[bE,h3]
     rw[e] at this;have h4:=List.length_filter_eq_length_iff.1 this.symm;have:=h4 _ (bX he).1;rw[(bX he).2] at this;simp at this
   · have:=(bX he).1;rw[e] at this;cases this
 · have e:bE c b=c:=by simp only[bE,hbk,h1,h2,h3,if_false]
   exact⟨by rw[e];exact hg,fun h=>absurd h h1,fun h=>absurd h h3,fun h=>by omega,fun hh=>by omega,hg⟩
end Go.Proofs.Y
