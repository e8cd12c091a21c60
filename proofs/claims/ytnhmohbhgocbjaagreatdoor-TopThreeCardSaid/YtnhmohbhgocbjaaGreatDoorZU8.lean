/- Lemmas towards the law. Conditions: each one says its own. -/
import Derived.Test.YtnhmohbhgocbjaaGreatDoorZU7
set_option linter.all false
set_option maxHeartbeats 64000000
set_option maxRecDepth 100000
namespace Go.Proofs.Y
open Go.Abs Go.Proofs.Tryz
attribute [local irreducible] L Code.wp bodyPost Exit.then Exit.inBlock
def lL{α:Type}{l:List α}{g:α->Int}{i:Nat}{x:α}(h: ∀y∈l.take i,g y=0)(T:l[i]?=some x)(hp:g x≠0):eG (l.map g)=g x:=by
 have hi:=(gS T).1;have e:l.map g=(l.take i).map g++g x::(l.drop (i+1)).map g:=by
  rw[<-List.map_cons,<-pA,<-(gS T).2,<-List.drop_eq_getElem_cons hi,List.take_append_drop]
 have hn:((l.take i).map g).find? (fun f=>f !=0)=none:=List.find?_eq_none.2 (fun y hy=>by obtain⟨z,hz,rfl⟩:=mM hy;simp[h z hz]);have hq:(g x !=0)=true:=by simpa using hp
 rw[eG,e,List.find?_append,hn,List.find?_cons,hq];rfl
def nw{α:Type}{l:List α}{g:α->Int}(h: ∀y∈l,g y=0):eG (l.map g)=0:=by
 have hn:(l.map g).find? (fun f=>f !=0)=none:=List.find?_eq_none.2 (fun y T=>by obtain⟨z,hz,rfl⟩:=mM T;simp[h z hz]);rw[eG,hn];rfl
def gA{α:Type}{g:α->Int}{l:List α}{i:Nat}{x:α}(h: ∀y∈l.take i,g y=0)(hx:l[i]?=some x)(hp:g x=0): ∀y∈l.take (i+1),g y=0:=fun y T=>by
 rw[List.take_add_one,hx] at T;rcases mA T with T|T
 · exact h y T
 · simp at T;subst T;exact hp
def nL{α:Type}{l:List α}{i:Nat}{x:α}(h:l[i]?=some x):l.zipIdx[i]?=some (x,i):=by simp[List.getElem?_zipIdx,h]
def qr{α:Type}{l:List α}{i:Nat}(h:l[i]?=none):l.zipIdx[i]?=none:=by simpa[List.getElem?_zipIdx] using h
def ni:List AV:= [.iv (I 0),.iv (S []),.iv (S []),.iv (S []),.nils,.nils,.nils,.nils,.nils,.iv (I 0),.iv (I 0),.iv (I 0),.iv (S []),.iv (S []),.iv (S []),.iv (I 0),.nils,.nils,.iv (.im (.bool false)),.iv (I 0)]
def jL(t:A4)(p:Ex×Nat):Ex×Int:=dw [] p.1 (eQ t (p.2:Int))
def eH(t:A4)(r:List Ex):List Ex×Int:=
 if r.length≠t.cols.length then([],5) else(r.zipIdx.map fun p=>(jL t p).1,eG (r.zipIdx.map fun p=>(jL t p).2))
def lm(t:A4)(l:List D4)(p:D4×Nat):D4×Int:=
 if aV t p.1.co<0 then(p.1,3)
 else if(l.take p.2).any (fun y=>y.co==p.1.co) then(p.1,4)
 else(⟨p.1.co,(dw [t] p.1.e (eQ t (aV t p.1.co))).1⟩,(dw [t] p.1.e (eQ t (aV t p.1.co))).2)
def rowsE(s:A9)(t:A4):Int:=eG (s.rows.map fun r=>(eH t r).2)
def setsE(s:A9)(t:A4):Int:=eG (s.sets.zipIdx.map fun p=>(lm t s.sets p).2)
def eN(s:A9)(t:A4):A9×Int:=
 if rowsE s t≠0 then(s,rowsE s t)
 else if setsE s t≠0 then(s,setsE s t)
 else({s with rows:=s.rows.map fun r=>(eH t r).1,sets:=s.sets.zipIdx.map fun p=>(lm t s.sets p).1,wh:=(dN [t] s.wh).1},(dN [t] s.wh).2)
def Ex.OkS.ok: ∀{e:Ex},e.OkS->e.Ok
 | .mk op v s name n l,.mk hl _ _ h=> .mk hl (fun x T=>Ex.OkS.ok (h x T))
 termination_by e=>SizeOf.sizeOf e
 decreasing_by
  have:=List.sizeOf_lt_of_mem T;simp;omega
def BP{gs:aw}(y x:D4):
 CallG gs prog 114 [.agg (y.c.map .iv),.ptr 1000 0] [(1000,⟨144,.l (x.c.map .iv)⟩)] [(1000,⟨144,.l (x.c.map .iv)⟩)] [] (aB (y.co==x.co)):=by
 refine iG func114 ntmps114 (fun w0 E0 T=> ?_);refine wz ?_;all_goals exact L.ends U U fR wK
def Dv(s:A9)(aR:s.Ok)(t:A4)(ht:t.cols.length<=1000)(hw:s.wh.Ok):
 CallA prog 91 [.agg (s.cs.map .iv),.agg (t.c.map .iv)] [] [] [] (.tup [.agg ((eN s t).1.cs.map .iv),.iv (I (eN s t).2)]):=by
 have kw:=rp [t] ⟨by simp,by simpa using ht⟩ s.wh hw;have a0:=aR.tot;have a8:=aR.rows;have a1:=aR.all;have a9:=aR.sets;clear aR hw;obtain⟨kind,name,table,col,cols,rows,sets,frm,out,wh,ord,down,n⟩:=s;dsimp only at a0 a8 kw a9;have ba:rows.length<=5864062014806:=by clear a0;omega
 clear a0;have bh: ∀r∈rows,∀x∈r,x.Ok:=fun r hr x hx=>(a1 x (by unfold dq;simp only[List.mem_append,List.mem_flatten];exact .inl (.inl (.inr ⟨r,hr,hx⟩)))).ok
 have bW: ∀x∈sets,x.e.Ok:=fun x hx=>(a1 x.e (by unfold dq;simp only[List.mem_append,List.mem_map];exact .inl (.inr ⟨x,hx,rfl⟩))).ok
 clear a1;have cb:(t.cols.map B8.c).length=t.cols.length:=lM _;unfold eN;dsimp only;generalize dN [t] wh=W at*
 obtain⟨W1,W2⟩:=W;refine CallG.toA (iG func91 ntmps91 (fun w0 E0 hG=> ?_));refine wz ?_;refine L.adopt 6 (s:=6) (t:=76) (k:=1) U U U ?_;refine ae (ι:=Nat) (fun i=>⟨[(25,aI (i:Int)),(24,aI ((rows.map bf).length:Int)),(23,.iv (.sl (rows.map bf))),(6,.row 6 (((rows.take i).map fun r=>(eH t r).1).map bf)),(2,.ptr 2 0),(3,.ptr 3 0),(4,.ptr 4 0),(5,aI 0)],
  [(2,⟨80,.l ((A9.cs ⟨kind,name,table,col,cols,rows,sets,frm,out,wh,ord,down,n⟩).map .iv)⟩),(3,⟨57,.l (t.c.map .iv)⟩),(4,⟨80,.l ni⟩)],[(6,⟨76,1⟩)]⟩) (fun i=>rows.length - i) (fun i=> ∀r∈rows.take i,(eH t r).2=0) (i0:=0) ?_ sP ?_
 · exact df
 intro i hI K hK;cases hx:rows[i]? with
 |some r=>
  have b1:=fZ (l:=rows.map bf) (cM (f:=bf) hx);have b9:=fM hx;have g1:(rows.map bf)[((i:Nat):Int).toNat]?=some [.sl (r.map Ex.c)]:=by rw[iN,gP,hx];rfl
  by_cases bi:r.length=t.cols.length
  case neg=>
   have hr:eH t r=([],5):=by rw[eH,if_pos bi]
   have he:rowsE ⟨kind,name,table,col,cols,rows,sets,frm,out,wh,ord,down,n⟩ t=5:=by
    have:=lL (g:=fun r=>(eH t r).2) hI hx (by rw[hr];decide);rw[rowsE,this,hr]
   rw[he,if_pos dD];have q:(((r.map Ex.c).length:Int) !=((t.cols.map B8.c).length:Int))=true:=by simp;omega
   refine wz ?_;all_goals refine aU ?_
   all_goals rfl
  have b2:(((r.map Ex.c).length:Int) !=((t.cols.map B8.c).length:Int))=false:=by simp;omega
  have a5:eH t r=(r.zipIdx.map fun p=>(jL t p).1,eG (r.zipIdx.map fun p=>(jL t p).2)):=by rw[eH,if_neg C]
  have b3:=bh r (gE hx);have ch:r.length<=1000:=C;refine wz ?_;refine L.adopt 9 (s:=9) (t:=78) (k:=8) U U U ?_;refine ae (ι:=Nat) (fun j=>⟨[(38,aI (j:Int)),(37,aI ((r.map Ex.c).length:Int)),(36,.iv (.sl (r.map Ex.c))),(9,.row 9 (((r.zipIdx.take j).map fun p=>(jL t p).1).map Ex.c)),(25,aI (i:Int)),(24,aI ((rows.map bf).length:Int)),(23,.iv (.sl (rows.map bf))),(6,.row 6 (((rows.take i).map fun r=>(eH t r).1).map bf)),(2,.ptr 2 0),(3,.ptr 3 0),(4,.ptr 4 0),(5,aI 0)],
   [(2,⟨80,.l ((A9.cs ⟨kind,name,table,col,cols,rows,sets,frm,out,wh,ord,down,n⟩).map .iv)⟩),(3,⟨57,.l (t.c.map .iv)⟩),(4,⟨80,.l ni⟩)],[(9,⟨78,8⟩),(6,⟨76,1⟩)]⟩) (fun j=>r.length - j) (fun j=> ∀p∈r.zipIdx.take j,(jL t p).2=0) (i0:=0) ?_ sP ?_
  · exact df
  intro j hJ K2 b4;cases hy:r[j]? with
  |some x=>
   have a6:=fZ (l:=r.map Ex.c) (cM (f:=Ex.c) hy);have bl:=fM hy;have hz:=nL hy;have kx:=uY [] Sc.nil x (b3 x (gE hy)) (eQ t (j:Int));have a2:eQ t (j:Int)=(t.cols.getD j ⟨[],0,false⟩).t:=by rw[eQ,iN]
   have g2:(r.map Ex.c)[((j:Nat):Int).toNat]?=some [I x.op,I x.v.k,I x.v.n,S x.v.s,S x.s,S x.name,I x.n,.sl (x.l.map Ex.c)]:=by rw[iN,gP,hy];exact congrArg some (aN x)
   have g3:(t.cols.map B8.c)[((j:Nat):Int).toNat]?=some [S (t.cols.getD j ⟨[],0,false⟩).n,I (t.cols.getD j ⟨[],0,false⟩).t,.im (.bool (t.cols.getD j ⟨[],0,false⟩).m)]:=by rw[iN,gP,cV ⟨[],0,false⟩ (show j<t.cols.length by omega)];rfl
   have hv:jL t (x,j)=dw [] x (eQ t (j:Int)):=rfl;have n1:(((r.zipIdx.take (j+1)).map fun p=>(jL t p).1).map Ex.c)=((r.zipIdx.take j).map fun p=>(jL t p).1).map Ex.c++ [(jL t (x,j)).1.cs]:=by rw[dv hz,pA,pA];exact congrArg _ (by simp[aN])
   have l1:(((r.zipIdx.take j).map fun p=>(jL t p).1).map Ex.c).length<=1000:=by simp;omega
   have bm:(((r.zipIdx.take j).map fun p=>(jL t p).1).map Ex.c).length+1<=maxLen:=Nat.le_trans (Nat.succ_le_succ l1) (by rw[fJ];decide);have bb:((((r.zipIdx.take j).map fun p=>(jL t p).1).map Ex.c).length+1)*104<=225000000000000:=Nat.le_trans (mR 104 (Nat.succ_le_succ l1)) dD;by_cases hf:(jL t (x,j)).2=0
   · have ad:=gA (g:=fun p=>(jL t p).2) hJ hz hf;rw[hv] at hf n1;rw[a2] at kx hf n1;generalize dw [] x (t.cols.getD j ⟨[],0,false⟩).t=m at*
     obtain⟨e,f⟩:=m;dsimp only at hf kx n1;subst hf;generalize t.cols.getD j ⟨[],0,false⟩=cc at*
     have k1:=qj ((r.zipIdx.take j).map fun p=>(jL t p).1);generalize ((r.zipIdx.take j).map fun p=>(jL t p).1).map Ex.c=es at*
     (repeat' first|intro hb hp|refine LW.is (bJ U U U U k1 (bB U bV) bm bb U U ?_)|refine am ?_|refine al ?_ ?_|fail)
     refine L.onlyS [38,37,36,9,25,24,23,6,2,3,4,5] [2,3,4] U ?_;refine L.retok 9 62 9 U U U U ?_;refine b4 _ (j+1) ad C (Wk.mk' kK (wF (wF (wF (.cons U (Sub.of_eq (congrArg (AV.row 9) n1.symm)) (wF F7))))) B3 (.cons U (.cons U .nil)))
   · have he:rowsE ⟨kind,name,table,col,cols,rows,sets,frm,out,wh,ord,down,n⟩ t=(jL t (x,j)).2:=by
      have h1:=lL (g:=fun p=>(jL t p).2) hJ hz hf;have h2:(eH t r).2=(jL t (x,j)).2:=by rw[a5];exact h1
      have:=lL (g:=fun r=>(eH t r).2) hI hx (by rw[h2];exact hf);rw[rowsE,this,h2]
     rw[he,if_pos hf];rw[hv] at hf|-;rw[a2] at kx hf|-;generalize dw [] x (t.cols.getD j ⟨[],0,false⟩).t=m at*
     obtain⟨e,f⟩:=m;dsimp only at hf kx|-;generalize t.cols.getD j ⟨[],0,false⟩=cc at*
     have q:(f !=0)=true:=by simpa using hf
     refine wz ?_;all_goals refine aU ?_
     all_goals rfl
  |none=>
   have a6:=gc (l:=r.map Ex.c) (bz hy);have a4:=qr hy;rw[br a4] at hJ|-;have h0:(eH t r).2=0:=by rw[a5];exact nw hJ
   have b5:=gA (g:=fun r=>(eH t r).2) hI hx h0;have n1:(((rows.take (i+1)).map fun r=>(eH t r).1).map bf)=((rows.take i).map fun r=>(eH t r).1).map bf++ [bf (r.zipIdx.map fun p=>(jL t p).1)]:=by rw[dv hx,pA,pA];exact congrArg _ (by simp[a5])
   have l1:(((rows.take i).map fun r=>(eH t r).1).map bf).length+1<=rows.length:=by simp;omega
   have bm:(((rows.take i).map fun r=>(eH t r).1).map bf).length+1<=maxLen:=Nat.le_trans l1 (Nat.le_trans ba (by rw[fJ];decide));have bb:((((rows.take i).map fun r=>(eH t r).1).map bf).length+1)*24<=225000000000000:=Nat.le_trans (mR 24 l1) (Nat.le_trans a8 dD);have k1: ∀e∈((rows.take i).map fun r=>(eH t r).1).map bf,e.length=1:=fun e he=>by obtain⟨y,_,rfl⟩:=mM he;rfl
   generalize ((rows.take i).map fun r=>(eH t r).1).map bf=es at*
   (repeat' first|intro hb hp|refine LW.is (bJ U U U U k1 (bB U bV) bm bb U U ?_)|refine am ?_|refine al ?_ ?_|fail)
   refine L.onlyS [25,24,23,6,2,3,4,5] [2,3,4] U ?_;refine L.retok 6 67 6 U U U U ?_;refine hK _ (i+1) b5 C (Wk.mk' kK (wF (wF (wF (.cons U (Sub.of_eq (congrArg (AV.row 6) n1.symm)) F4)))) B3 (.cons U .nil))
 |none=>
 have b1:=gc (l:=rows.map bf) (bz hx);rw[br hx] at hI|-;have bp:rowsE ⟨kind,name,table,col,cols,rows,sets,frm,out,wh,ord,down,n⟩ t=0:=nw hI;rw[bp,if_neg dD];clear hK hx hI bh bp;generalize b6:rows.map (fun r=>(eH t r).1)=RW at*
 clear b6;refine wz ?_;refine L.adopt 14 (s:=14) (t:=144) (k:=9) U U U ?_;refine ae (ι:=Nat) (fun j=>⟨[(72,aI (j:Int)),(71,aI ((sets.map D4.c).length:Int)),(70,.iv (.sl (sets.map D4.c))),(14,.row 14 (((sets.zipIdx.take j).map fun p=>(lm t sets p).1).map D4.c)),(6,.row 6 (RW.map bf)),(2,.ptr 2 0),(3,.ptr 3 0),(4,.ptr 4 0),(5,aI 0)],
  [(2,⟨80,.l ((A9.cs ⟨kind,name,table,col,cols,rows,sets,frm,out,wh,ord,down,n⟩).map .iv)⟩),(3,⟨57,.l (t.c.map .iv)⟩),(4,⟨80,.l ni⟩)],[(14,⟨144,9⟩),(6,⟨76,1⟩)]⟩) (fun j=>sets.length - j) (fun j=> ∀p∈sets.zipIdx.take j,(lm t sets p).2=0) (i0:=0) ?_ sP ?_
 · exact df
 intro j hJ K hK;cases hy:sets[j]? with
 |some x=>
  have a6:=fZ (l:=sets.map D4.c) (cM (f:=D4.c) hy);have bl:=fM hy;have hz:=nL hy;have b7:=bW x (gE hy);have g2:(sets.map D4.c)[((j:Nat):Int).toNat]?=some [S x.co,I x.e.op,I x.e.v.k,I x.e.v.n,S x.e.v.s,S x.e.s,S x.e.name,I x.e.n,.sl (x.e.l.map Ex.c)]:=by rw[iN,gP,hy];rfl
  have kf:=eI t x.co C;have T:lm t sets (x,j)=if aV t x.co<0 then(x,3) else if(sets.take j).any (fun y=>y.co==x.co) then(x,4) else(⟨x.co,(dw [t] x.e (eQ t (aV t x.co))).1⟩,(dw [t] x.e (eQ t (aV t x.co))).2):=rfl
  have hE:(lm t sets (x,j)).2≠0->setsE ⟨kind,name,table,col,cols,rows,sets,frm,out,wh,ord,down,n⟩ t=(lm t sets (x,j)).2:=fun h=>lL (g:=fun p=>(lm t sets p).2) hJ hz h
  by_cases ar:aV t x.co<0
  · have q:decide (aV t x.co<0)=true:=decide_eq_true ar;have h1:lm t sets (x,j)=(x,3):=by rw[T,if_pos ar]
    rw[hE (by rw[h1];exact(by decide:(3:Int)≠0)),h1,if_pos (show(3:Int)≠0 by decide)];refine wz ?_;all_goals refine aU ?_
    all_goals rfl
  have q:decide (aV t x.co<0)=false:=decide_eq_false ar;rw[if_neg ar] at T;have kc:=wv (gs:= []) (f:=114) (b:=⟨144,.l (x.c.map .iv)⟩) (fun y=>y.co==x.co) (sets.take j) (by rw[lT];omega) U U (fun y _=>BP y x);have k9: ∀e∈sets.map D4.c,e.length=9:=fun e he=>by obtain⟨y,_,rfl⟩:=mM he;rfl
  have a3:(sets.map D4.c).take ((j:Nat):Int).toNat=(sets.take j).map D4.c:=by rw[iN,List.map_take]
  have a7:((j:Nat):Int)<=(sets.map D4.c).length:=by rw[lM];omega
  cases hm:(sets.take j).any (fun y=>y.co==x.co) with
  |true=>
   rw[hm] at kc;rw[hm,if_pos U] at T;rw[hE (by rw[T];exact(by decide:(4:Int)≠0)),T,if_pos (show(4:Int)≠0 by decide)];(repeat' first|intro hb hp|(refine LW.is ?_;first|refine ag U (ez U U k9 C a7 a3) ?_|refine ag U (aA U) ?_|refine fv (q:=16) U hG kc U U U U U U U ?_)|refine am ?_|refine al ?_ ?_|fail)
   all_goals refine aU ?_
   all_goals rfl
  |false=>
  rw[hm] at kc;rw[hm,if_neg dD] at T;have bP:=ze (fun c:B8=>c.n==x.co) t.cols;have bR:aV t x.co=iB (fun c:B8=>c.n==x.co) t.cols:=rfl;have b8:(aV t x.co).toNat<t.cols.length:=by
   rw[bR] at ar|-;unfold iB at ar|-;cases hf:t.cols.findIdx? (fun c:B8=>c.n==x.co) with
   |none=>rw[hf] at ar;simp only at ar;omega
   |some j=>have:=(List.findIdx?_eq_some_iff_getElem.1 hf).1;simpa using this
  have g3:(t.cols.map B8.c)[(aV t x.co).toNat]?=some [S (t.cols.getD (aV t x.co).toNat ⟨[],0,false⟩).n,I (t.cols.getD (aV t x.co).toNat ⟨[],0,false⟩).t,.im (.bool (t.cols.getD (aV t x.co).toNat ⟨[],0,false⟩).m)]:=by rw[gP,cV ⟨[],0,false⟩ b8];rfl
  have kx:=uY [t] ⟨by simp,by simpa using ht⟩ x.e b7 (eQ t (aV t x.co));have n1:(((sets.zipIdx.take (j+1)).map fun p=>(lm t sets p).1).map D4.c)=((sets.zipIdx.take j).map fun p=>(lm t sets p).1).map D4.c++ [(lm t sets (x,j)).1.c]:=by rw[dv hz,pA,pA];rfl
  have a2:eQ t (aV t x.co)=(t.cols.getD (aV t x.co).toNat ⟨[],0,false⟩).t:=rfl;have ad:=gA (g:=fun p=>(lm t sets p).2) hJ hz;rw[T] at hE ad n1;rw[a2] at kx hE ad n1;generalize t.cols.getD (aV t x.co).toNat ⟨[],0,false⟩=cc at*
  clear T bR a2 bP;generalize aV t x.co=kk at*
  generalize dw [t] x.e cc.t=m at*
  obtain⟨e,f⟩:=m;dsimp only at hE ad n1 kx;by_cases hf:f=0
  · subst hf;have l1:(((sets.zipIdx.take j).map fun p=>(lm t sets p).1).map D4.c).length+1<=sets.length:=by rw[lM,lM,lT,List.length_zipIdx];omega
    have bS:sets.length<=1172812402962:=C;have bm:(((sets.zipIdx.take j).map fun p=>(lm t sets p).1).map D4.c).length+1<=maxLen:=Nat.le_trans l1 (Nat.le_trans bS (by rw[fJ];decide));have bb:((((sets.zipIdx.take j).map fun p=>(lm t sets p).1).map D4.c).length+1)*120<=225000000000000:=Nat.le_trans (mR 120 l1) (Nat.le_trans a9 dD);have k1: ∀e∈((sets.zipIdx.take j).map fun p=>(lm t sets p).1).map D4.c,e.length=9:=fun e he=>by obtain⟨y,_,rfl⟩:=mM he;rfl
    have ad:=ad U;generalize ((sets.zipIdx.take j).map fun p=>(lm t sets p).1).map D4.c=es at*
    (repeat' first|intro hb hp|(refine LW.is ?_;first|refine ag U (ez U U k9 C a7 a3) ?_|refine ag U (aA U) ?_|refine fv (q:=16) U hG kc U U U U U U U ?_|refine bJ U U U U k1 (bB U bV) bm bb U U ?_)|refine am ?_|refine al ?_ ?_|fail)
    refine L.onlyS [72,71,70,14,6,2,3,4,5] [2,3,4] U ?_;refine L.retok 14 115 14 U U U U ?_;refine hK _ (j+1) ad C (Wk.mk' kK (wF (wF (wF (.cons U (Sub.of_eq (congrArg (AV.row 14) n1.symm)) F5)))) B3 (.cons U (.cons U .nil)))
  · rw[hE hf,if_pos hf];have q2:(f !=0)=true:=by simpa using hf
    (repeat' first|intro hb hp|(refine LW.is ?_;first|refine ag U (ez U U k9 C a7 a3) ?_|refine ag U (aA U) ?_|refine fv (q:=16) U hG kc U U U U U U U ?_)|refine am ?_|refine al ?_ ?_|fail)
    all_goals refine aU ?_
    all_goals rfl
 |none=>
  have a6:=gc (l:=sets.map D4.c) (bz hy);have a4:=qr hy;rw[br a4] at hJ|-;have he:setsE ⟨kind,name,table,col,cols,rows,sets,frm,out,wh,ord,down,n⟩ t=0:=nw hJ;rw[he,if_neg dD];clear hK hJ hy a4 he;generalize (sets.zipIdx.map fun p=>(lm t sets p).1)=SS at*
  refine wz ?_;all_goals refine aU ?_
  all_goals rfl
def ce(c:B0)(frm:List Str)(p:Str×Nat):A4×Int:=
 if(ab c p.1).2=false then((ab c p.1).1,3)
 else if(frm.take p.2).any (fun y=>p.1==y) then((ab c p.1).1,4) else((ab c p.1).1,0)
def sW(c:B0)(frm:List Str)(p:Str×Nat):(ce c frm p).1=(ab c p.1).1:=by
 unfold ce;split
 · rfl
 · split<;>rfl
def tB(t:A4)(a:Nat)(p:B8×Nat):Ex:= .mk 2 af t.n p.1.n ((a:Int)+(p.2:Int)) []
def fh:List A4->Nat->List Ex
 | [],_=> []
 |t::ts,a=>t.cols.zipIdx.map (tB t a)++fh ts (a+t.cols.length)
def lU(ts:List A4):Nat:=(ts.map fun t=>t.cols.length).sum
def wg: ∀(x y:List A4) (a:Nat),fh (x++y) a=fh x a++fh y (a+lU x)
 | [],y,a=>by simp[fh,lU]
 |t::x,y,a=>by
  have e:a+t.cols.length+lU x=a+lU (t::x):=by simp only[lU,List.map_cons,List.sum_cons];omega
  rw[List.cons_append,fh,wg x y,fh,List.append_assoc,e]
def qq: ∀(x:List A4) (a:Nat),(fh x a).length=lU x
 | [],a=>rfl
 |t::x,a=>by rw[fh,gV,qq x];simp[lU]
def KI(x y:List A4):lU (x++y)=lU x+lU y:=by simp[lU]
def IT: ∀{x:List A4},(∀t∈x,t.cols.length<=1000)->lU x<=x.length*1000
 | [],_=>by simp[lU]
 |t::x,h=>by
  have h1:=h t (List.mem_cons_self ..);have h2:=IT (x:=x) (fun t ht=>h t (List.mem_cons_of_mem _ ht));simp only[lU,List.map_cons,List.sum_cons,lC] at*
  omega
def iH(c:B0)(s:A9):A9×Int:=
 if s.frm.length<1\/2<s.frm.length then(s,1)
 else if eG (s.frm.zipIdx.map fun p=>(ce c s.frm p).2)≠0 then(s,eG (s.frm.zipIdx.map fun p=>(ce c s.frm p).2))
 else
  let all:=s.frm.zipIdx.map fun p=>(ce c s.frm p).1
  if eG (s.out.map fun x=>(an all x).2.2)≠0 then(s,eG (s.out.map fun x=>(an all x).2.2))
  else if eG (s.ord.map fun x=>(an all x).2.2)≠0 then(s,eG (s.ord.map fun x=>(an all x).2.2))
  else({s with out:=if s.out= [] then fh all 0 else s.out.map fun x=>(an all x).1,ord:=s.ord.map fun x=>(an all x).1,wh:=(dN all s.wh).1},(dN all s.wh).2)
def Du(c:B0)(s:A9)(a7:s.Ok)(c4:c.ts.length<=1000)(bh: ∀name,(ab c name).1.cols.length<=1000)(a8:s.wh.Ok):
 CallA prog 92 [.agg (c.c.map .iv),.agg (s.cs.map .iv)] [] [] [] (.tup [.agg ((iH c s).1.cs.map .iv),.iv (I (iH c s).2)]):=by
 have ar:=a7.tot;have a1:=a7.all;clear a7;obtain⟨kind,name,table,col,cols,rows,sets,frm,out,wh,ord,down,n⟩:=s;dsimp only at ar a8;have bi: ∀x∈out,x.Ok:=fun x T=>(a1 x (by unfold dq;simp only[List.mem_append];exact .inl (.inl (.inl (.inl T))))).ok
 have a4: ∀x∈ord,x.Ok:=fun x T=>(a1 x (by unfold dq;simp only[List.mem_append];exact .inl (.inl (.inl (.inr T))))).ok
 have b3:out.length*104<=140737488355328:=by generalize rows.flatten.length=z at ar;omega
 have bl:ord.length*104<=140737488355328:=by generalize rows.flatten.length=z at ar;omega
 have b4:out.length<=1353245080340:=by clear ar;omega
 have bp:ord.length<=1353245080340:=by clear ar;omega
 clear a1 ar;unfold iH;dsimp only;have lf:((frm.map Str.c).length:Int)=(frm.length:Int):=by simp
 refine CallG.toA (iG func92 ntmps92 (fun w0 E0 hG=> ?_));by_cases bP:frm.length<1\/2<frm.length
 · rw[if_pos bP];cases bR:decide (((frm.map Str.c).length:Int)<1) with
   |true=>
    refine wz ?_;all_goals refine aU ?_
    all_goals rfl
   |false=>
    have b5:decide ((2:Int)<((frm.map Str.c).length:Int))=true:=by
     have:=of_decide_eq_false bR;rw[lf] at this|-;exact decide_eq_true C
    refine wz ?_;all_goals refine aU ?_
    all_goals rfl
 rw[if_neg bP];have bR:decide (((frm.map Str.c).length:Int)<1)=false:=by rw[lf];exact decide_eq_false C
 have b5:decide ((2:Int)<((frm.map Str.c).length:Int))=false:=by rw[lf];exact decide_eq_false C
 have c5:frm.length<=2:=C;refine wz ?_;refine L.adopt 6 (s:=6) (t:=57) (k:=2) rfl rfl rfl ?_;refine ae (ι:=Nat) (fun i=>⟨[(44,aI (i:Int)),(43,aI ((frm.map Str.c).length:Int)),(42,.iv (.sl (frm.map Str.c))),(6,.row 6 (((frm.zipIdx.take i).map fun p=>(ce c frm p).1).map A4.c)),(2,.ptr 2 0),(3,.ptr 3 0),(4,.ptr 4 0),(5,aI 0)],
  [(2,⟨47,.l (c.c.map .iv)⟩),(3,⟨80,.l ((A9.cs ⟨kind,name,table,col,cols,rows,sets,frm,out,wh,ord,down,n⟩).map .iv)⟩),(4,⟨80,.l ni⟩)],[(6,⟨57,2⟩)]⟩) (fun i=>frm.length - i) (fun i=> ∀p∈frm.zipIdx.take i,(ce c frm p).2=0) (i0:=0) ?_ sP ?_
 · exact df
 intro i hI K hK;cases T:frm[i]? with
 |some x=>
  have b6:=fZ (l:=frm.map Str.c) (cM (f:=Str.c) T);have cS:=fM T;have hz:=nL T;have g1:(frm.map Str.c)[((i:Nat):Int).toNat]?=some [S x]:=by rw[iN,gP,T];rfl
  have kf:=gj c x C;have c6:=bh x;have ad:ce c frm (x,i)=if(ab c x).2=false then((ab c x).1,3) else if(frm.take i).any (fun y=>x==y) then((ab c x).1,4) else((ab c x).1,0):=rfl
  have hE:(ce c frm (x,i)).2≠0->eG (frm.zipIdx.map fun p=>(ce c frm p).2)=(ce c frm (x,i)).2:=fun h=>lL (g:=fun p=>(ce c frm p).2) hI hz h
  have bS: ∀e∈frm.map Str.c,e.length=1:=fun e he=>by obtain⟨y,_,rfl⟩:=mM he;rfl
  have a5:(frm.map Str.c).take ((i:Nat):Int).toNat=(frm.take i).map Str.c:=by rw[iN,List.map_take]
  have bW:((i:Nat):Int)<=(frm.map Str.c).length:=by rw[lf];omega
  have kc:=pL (frm.take i) x (by rw[lT];omega);have n1:(((frm.zipIdx.take (i+1)).map fun p=>(ce c frm p).1).map A4.c)=((frm.zipIdx.take i).map fun p=>(ce c frm p).1).map A4.c++ [(ce c frm (x,i)).1.c]:=by rw[dv hz,pA,pA];rfl
  have a9:=gA (g:=fun p=>(ce c frm p).2) hI hz;have l1:(((frm.zipIdx.take i).map fun p=>(ce c frm p).1).map A4.c).length+1<=2:=by rw[lM,lM,lT,List.length_zipIdx];omega
  have bm:(((frm.zipIdx.take i).map fun p=>(ce c frm p).1).map A4.c).length+1<=maxLen:=Nat.le_trans l1 (by rw[fJ];decide);have bb:((((frm.zipIdx.take i).map fun p=>(ce c frm p).1).map A4.c).length+1)*40<=225000000000000:=Nat.le_trans (mR 40 l1) dD;have k1: ∀e∈((frm.zipIdx.take i).map fun p=>(ce c frm p).1).map A4.c,e.length=2:=fun e he=>by obtain⟨y,_,rfl⟩:=mM he;rfl
  cases hb:(ab c x).2 with
  |false=>
   rw[hb,if_pos rfl] at ad;rw[hb] at kf;rw[hE (by rw[ad];exact(by decide:(3:Int)≠0)),ad,if_pos (show(3:Int)≠0 by decide)];generalize (ab c x).1=tt at*
   refine wz ?_;all_goals refine aU ?_
   all_goals rfl
  |true=>
  rw[hb,if_neg dD] at ad;rw[hb] at kf;cases hm:(frm.take i).any (fun y=>x==y) with
  |true=>
   rw[hm,if_pos rfl] at ad;rw[hm] at kc;rw[hE (by rw[ad];exact(by decide:(4:Int)≠0)),ad,if_pos (show(4:Int)≠0 by decide)];generalize (ab c x).1=tt at*
   (repeat' first|intro hb hp|(refine LW.is ?_;first|apply ag;rfl;apply ez;rfl;rfl;exact bS;omega;exact bW;exact a5)|refine am ?_|refine al ?_ ?_|fail)
   all_goals refine aU ?_
   all_goals rfl
  |false=>
  rw[hm,if_neg dD] at ad;rw[hm] at kc;rw[ad] at a9 n1;have b7:=a9 rfl;clear a9;generalize (ab c x).1=tt at*
  clear ad hE;generalize ((frm.zipIdx.take i).map fun p=>(ce c frm p).1).map A4.c=es at*
  (repeat' first|intro hb hp|(refine LW.is ?_;first|apply ag;rfl;apply ez;rfl;rfl;exact bS;omega;exact bW;exact a5|apply bJ;rfl;rfl;rfl;rfl;exact k1;exact bB rfl bV;exact bm;exact bb;rfl;rfl)|refine am ?_|refine al ?_ ?_|fail)
  refine L.onlyS [44,43,42,6,2,3,4,5] [2,3,4] rfl ?_;refine L.retok 6 68 6 rfl rfl rfl rfl ?_;refine hK _ (i+1) b7 C (Wk.mk' kK (wF (wF (wF (.cons rfl (Sub.of_eq (congrArg (AV.row 6) n1.symm)) F4)))) B3 (.cons rfl .nil))
 |none=>
 have b6:=gc (l:=frm.map Str.c) (bz T);have b1:=qr T;rw[br b1] at hI|-;have b2:eG (frm.zipIdx.map fun p=>(ce c frm p).2)=0:=nw hI;rw[b2,if_neg dD];have aR:Sc (frm.zipIdx.map fun p=>(ce c frm p).1):=⟨by rw[lM,List.length_zipIdx];omega,fun t ht=>by
  obtain⟨p,_,rfl⟩:=mM ht;rw[sW];exact bh p.1⟩
 have c7:(frm.zipIdx.map fun p=>(ce c frm p).1).length<=2:=by rw[lM,List.length_zipIdx];omega
 clear hK hI T b1 b2;generalize (frm.zipIdx.map fun p=>(ce c frm p).1)=all at*
 refine wz ?_;refine L.adopt 11 (s:=11) (t:=78) (k:=8) rfl rfl rfl ?_;refine ae (ι:=Nat) (fun j=>⟨[(73,aI (j:Int)),(72,aI ((out.map Ex.c).length:Int)),(71,.iv (.sl (out.map Ex.c))),(11,.row 11 (((out.take j).map fun x=>(an all x).1).map Ex.c)),(6,.iv (.sl (all.map A4.c))),(2,.ptr 2 0),(3,.ptr 3 0),(4,.ptr 4 0),(5,aI 0)],
  [(2,⟨47,.l (c.c.map .iv)⟩),(3,⟨80,.l ((A9.cs ⟨kind,name,table,col,cols,rows,sets,frm,out,wh,ord,down,n⟩).map .iv)⟩),(4,⟨80,.l ni⟩)],[(11,⟨78,8⟩)]⟩) (fun j=>out.length - j) (fun j=> ∀x∈out.take j,(an all x).2.2=0) (i0:=0) ?_ sP ?_
 · exact Wk.mk' kK (wF (wF (wF (wF (.cons rfl (Sub.row _ _) F4))))) B3 (.cons rfl .nil)
 intro j hJ K hK;cases T:out[j]? with
 |some x=>
  have a2:=fZ (l:=out.map Ex.c) (cM (f:=Ex.c) T);have a6:=fM T;have kx:=oP all aR x (bi x (gE T));have g2:(out.map Ex.c)[((j:Nat):Int).toNat]?=some [I x.op,I x.v.k,I x.v.n,S x.v.s,S x.s,S x.name,I x.n,.sl (x.l.map Ex.c)]:=by rw[iN,gP,T];exact congrArg some (aN x)
  have n1:((out.take (j+1)).map fun x=>(an all x).1).map Ex.c=((out.take j).map fun x=>(an all x).1).map Ex.c++ [(an all x).1.cs]:=by rw[dv T,pA,pA];exact congrArg _ (by simp[aN])
  have l1:(((out.take j).map fun x=>(an all x).1).map Ex.c).length+1<=out.length:=by rw[lM,lM,lT];omega
  have bm:(((out.take j).map fun x=>(an all x).1).map Ex.c).length+1<=maxLen:=Nat.le_trans l1 (Nat.le_trans b4 (by rw[fJ];decide));have bb:((((out.take j).map fun x=>(an all x).1).map Ex.c).length+1)*104<=225000000000000:=Nat.le_trans (mR 104 l1) (Nat.le_trans b3 dD);by_cases hf:(an all x).2.2=0
  · have a3:=gA (g:=fun x=>(an all x).2.2) hJ T hf;have k1:=qj ((out.take j).map fun x=>(an all x).1);generalize an all x=m at*
    obtain⟨e,ty,f⟩:=m;dsimp only at hf kx n1;subst hf;generalize ((out.take j).map fun x=>(an all x).1).map Ex.c=es at*
    (repeat' first|intro hb hp|(refine LW.is ?_;first|apply bJ;rfl;rfl;rfl;rfl;exact k1;exact bB rfl bV;exact bm;exact bb;rfl;rfl)|refine am ?_|refine al ?_ ?_|fail)
    refine L.onlyS [73,72,71,11,6,2,3,4,5] [2,3,4] rfl ?_;refine L.retok 11 91 11 rfl rfl rfl rfl ?_;refine hK _ (j+1) a3 C (Wk.mk' kK (wF (wF (wF (.cons rfl (Sub.of_eq (congrArg (AV.row 11) n1.symm)) F5)))) B3 (.cons rfl .nil))
  · have he:eG (out.map fun x=>(an all x).2.2)=(an all x).2.2:=lL (g:=fun x=>(an all x).2.2) hJ T hf;rw[he,if_pos hf];generalize an all x=m at*
    obtain⟨e,ty,f⟩:=m;dsimp only at hf kx|-;have q:(f !=0)=true:=by simpa using hf
    refine wz ?_;all_goals refine aU ?_
    all_goals rfl
 |none=>
 have a2:=gc (l:=out.map Ex.c) (bz T);rw[br T] at hJ|-;have he:eG (out.map fun x=>(an all x).2.2)=0:=nw hJ;rw[he,if_neg dD];clear hK hJ T he;by_cases a0:out= []
 · subst a0;rw[if_pos rfl];refine wz ?_;refine ae (ι:=Nat) (fun i=>⟨[(99,aI (i:Int)),(98,aI ((all.map A4.c).length:Int)),(97,.iv (.sl (all.map A4.c))),(17,aI (lU (all.take i):Int)),(11,.row 11 ((fh (all.take i) 0).map Ex.c)),(6,.iv (.sl (all.map A4.c))),(2,.ptr 2 0),(3,.ptr 3 0),(4,.ptr 4 0),(5,aI 0)],
    [(2,⟨47,.l (c.c.map .iv)⟩),(3,⟨80,.l ((A9.cs ⟨kind,name,table,col,cols,rows,sets,frm,[],wh,ord,down,n⟩).map .iv)⟩),(4,⟨80,.l ni⟩)],[(11,⟨78,8⟩)]⟩) (fun i=>all.length - i) (fun i=>True) (i0:=0) ?_ trivial ?_
   · exact df
   intro i _ K hK;cases T:all[i]? with
   |some t=>
    have b8:=fZ (l:=all.map A4.c) (cM (f:=A4.c) T);have cX:=fM T;have g2:(all.map A4.c)[((i:Nat):Int).toNat]?=some [S t.n,.sl (t.cols.map B8.c)]:=by rw[iN,gP,T];rfl
    have c8:=aR.c t (gE T);have c9:lU (all.take i)<=2000:=by
     have h1:=IT (x:=all.take i) (fun t ht=>aR.c t (mT ht));rw[lT] at h1;omega
    have b9:lU (all.take (i+1))=lU (all.take i)+t.cols.length:=by rw[dv T,KI];simp[lU]
    have cb:fh (all.take (i+1)) 0=fh (all.take i) 0++t.cols.zipIdx.map (tB t (lU (all.take i))):=by rw[dv T,wg,Nat.zero_add];simp[fh]
    have dd:(fh (all.take i) 0).length=lU (all.take i):=qq _ _;generalize fh (all.take i) 0=OO at*
    generalize lU (all.take i)=a at*
    refine wz ?_;refine ae (ι:=Nat) (fun k=>⟨[(106,aI (k:Int)),(105,aI ((t.cols.map B8.c).length:Int)),(104,.iv (.sl (t.cols.map B8.c))),(19,.ptr 19 0),(99,aI (i:Int)),(98,aI ((all.map A4.c).length:Int)),(97,.iv (.sl (all.map A4.c))),(17,aI (a:Int)),(11,.row 11 ((OO++(t.cols.zipIdx.take k).map (tB t a)).map Ex.c)),(6,.iv (.sl (all.map A4.c))),(2,.ptr 2 0),(3,.ptr 3 0),(4,.ptr 4 0),(5,aI 0)],
     [(19,⟨57,.l (t.c.map .iv)⟩),(2,⟨47,.l (c.c.map .iv)⟩),(3,⟨80,.l ((A9.cs ⟨kind,name,table,col,cols,rows,sets,frm,[],wh,ord,down,n⟩).map .iv)⟩),(4,⟨80,.l ni⟩)],[(11,⟨78,8⟩)]⟩) (fun k=>t.cols.length - k) (fun k=>True) (i0:=0) ?_ trivial ?_
    · exact Wk.mk' kK (wF (wF (wF (wF (wF (wF (wF (wF (.cons rfl (Sub.of_eq (congrArg (AV.row 11) sP)) F5))))))))) B4 (.cons rfl .nil)
    intro k _ K2 cc;cases hy:t.cols[k]? with
    |some x=>
     have ch:=fZ (l:=t.cols.map B8.c) (cM (f:=B8.c) hy);have c3:=fM hy;have g3:(t.cols.map B8.c)[((k:Nat):Int).toNat]?=some [S x.n,I x.t,.im (.bool x.m)]:=by rw[iN,gP,hy];rfl
     have n1:((OO++(t.cols.zipIdx.take (k+1)).map (tB t a)).map Ex.c)=(OO++(t.cols.zipIdx.take k).map (tB t a)).map Ex.c++ [(tB t a (x,k)).cs]:=by rw[dv (nL hy)];simp only[pA,List.map_cons,List.map_nil,List.append_assoc];rw[aN (tB t a (x,k))]
     have l1:((OO++(t.cols.zipIdx.take k).map (tB t a)).map Ex.c).length+1<=4000:=by rw[lM,gV,lM,lT,List.length_zipIdx];omega
     have bm:((OO++(t.cols.zipIdx.take k).map (tB t a)).map Ex.c).length+1<=maxLen:=Nat.le_trans l1 (by rw[fJ];decide);have bb:(((OO++(t.cols.zipIdx.take k).map (tB t a)).map Ex.c).length+1)*104<=225000000000000:=Nat.le_trans (mR 104 l1) dD;have k1:=qj (OO++(t.cols.zipIdx.take k).map (tB t a));generalize (OO++(t.cols.zipIdx.take k).map (tB t a)).map Ex.c=es at*
     (repeat' first|intro hb hp|(refine LW.is ?_;first|apply bJ;rfl;rfl;rfl;rfl;exact k1;exact bB rfl bV;exact bm;exact bb;rfl;rfl)|refine am ?_|refine al ?_ ?_|fail)
     refine L.onlyS [106,105,104,19,99,98,97,17,11,6,2,3,4,5] [19,2,3,4] rfl ?_;refine L.retok 11 121 11 rfl rfl rfl rfl ?_;refine cc _ (k+1) trivial C (Wk.mk' kK (wF (wF (wF (wF (wF (wF (wF (wF (.cons rfl (Sub.of_eq (congrArg (AV.row 11) n1.symm)) F5))))))))) B4 (.cons rfl .nil))
    |none=>
     have ch:=gc (l:=t.cols.map B8.c) (bz hy);rw[br (qr hy)];have lc:((t.cols.map B8.c).length:Int)=(t.cols.length:Int):=by simp
     (repeat' first|intro hb hp|(refine LW.is ?_;first|apply ag;rfl;apply iU;rfl;rfl;(rw[lc];omega);(rw[lc];omega))|refine am ?_|refine al ?_ ?_|fail)
     refine hK _ (i+1) trivial C (Wk.mk' kK (wF (wF (wF (.cons rfl (Sub.of_eq (by rw[b9,Int.natCast_add,<-lc])) (.cons rfl (Sub.of_eq (by rw[cb])) F5))))) B3 (.cons rfl .nil))
   |none=>
    have b8:=gc (l:=all.map A4.c) (bz T);rw[br T];clear hK T;generalize fh all 0=ba at*
    refine wz ?_;refine L.adopt 22 (s:=22) (t:=78) (k:=8) rfl rfl rfl ?_;refine ae (ι:=Nat) (fun j=>⟨[(132,aI (j:Int)),(131,aI ((ord.map Ex.c).length:Int)),(130,.iv (.sl (ord.map Ex.c))),(22,.row 22 (((ord.take j).map fun x=>(an all x).1).map Ex.c)),(11,.iv (.sl (ba.map Ex.c))),(6,.iv (.sl (all.map A4.c))),(2,.ptr 2 0),(3,.ptr 3 0),(4,.ptr 4 0),(5,aI 0)],
     [(2,⟨47,.l (c.c.map .iv)⟩),(3,⟨80,.l ((A9.cs ⟨kind,name,table,col,cols,rows,sets,frm,[],wh,ord,down,n⟩).map .iv)⟩),(4,⟨80,.l ni⟩)],[(22,⟨78,8⟩)]⟩) (fun j=>ord.length - j) (fun j=> ∀x∈ord.take j,(an all x).2.2=0) (i0:=0) ?_ sP ?_
    · exact Wk.mk' kK (wF (wF (wF (wF (.cons rfl (Sub.row _ _) F5))))) B3 (.cons rfl .nil)
    intro j hJ K hK;cases T:ord[j]? with
    |some x=>
     have a2:=fZ (l:=ord.map Ex.c) (cM (f:=Ex.c) T);have a6:=fM T;have kx:=oP all aR x (a4 x (gE T));have g2:(ord.map Ex.c)[((j:Nat):Int).toNat]?=some [I x.op,I x.v.k,I x.v.n,S x.v.s,S x.s,S x.name,I x.n,.sl (x.l.map Ex.c)]:=by rw[iN,gP,T];exact congrArg some (aN x)
     have n1:((ord.take (j+1)).map fun x=>(an all x).1).map Ex.c=((ord.take j).map fun x=>(an all x).1).map Ex.c++ [(an all x).1.cs]:=by rw[dv T,pA,pA];exact congrArg _ (by simp[aN])
     have l1:(((ord.take j).map fun x=>(an all x).1).map Ex.c).length+1<=ord.length:=by rw[lM,lM,lT];omega
     have bm:(((ord.take j).map fun x=>(an all x).1).map Ex.c).length+1<=maxLen:=Nat.le_trans l1 (Nat.le_trans bp (by rw[fJ];decide));have bb:((((ord.take j).map fun x=>(an all x).1).map Ex.c).length+1)*104<=225000000000000:=Nat.le_trans (mR 104 l1) (Nat.le_trans bl dD);by_cases hf:(an all x).2.2=0
     · have a3:=gA (g:=fun x=>(an all x).2.2) hJ T hf;have k1:=qj ((ord.take j).map fun x=>(an all x).1);generalize an all x=m at*
       obtain⟨e,ty,f⟩:=m;dsimp only at hf kx n1;subst hf;generalize ((ord.take j).map fun x=>(an all x).1).map Ex.c=es at*
       (repeat' first|intro hb hp|(refine LW.is ?_;first|apply bJ;rfl;rfl;rfl;rfl;exact k1;exact bB rfl bV;exact bm;exact bb;rfl;rfl)|refine am ?_|refine al ?_ ?_|fail)
       refine L.onlyS [132,131,130,22,11,6,2,3,4,5] [2,3,4] rfl ?_;refine L.retok 22 150 22 rfl rfl rfl rfl ?_;refine hK _ (j+1) a3 C (Wk.mk' kK (wF (wF (wF (.cons rfl (Sub.of_eq (congrArg (AV.row 22) n1.symm)) F6)))) B3 (.cons rfl .nil))
     · have he:eG (ord.map fun x=>(an all x).2.2)=(an all x).2.2:=lL (g:=fun x=>(an all x).2.2) hJ T hf;rw[he,if_pos hf];generalize an all x=m at*
       obtain⟨e,ty,f⟩:=m;dsimp only at hf kx|-;have q:(f !=0)=true:=by simpa using hf
       refine wz ?_;all_goals refine aU ?_
       all_goals rfl
    |none=>
     have a2:=gc (l:=ord.map Ex.c) (bz T);rw[br T] at hJ|-;have he:eG (ord.map fun x=>(an all x).2.2)=0:=nw hJ;rw[he,if_neg dD];clear hK hJ T he;generalize (ord.map fun x=>(an all x).1)=cR at*
     have kw:=rp all aR wh a8;generalize dN all wh=W at*
     obtain⟨W1,W2⟩:=W;refine wz ?_;all_goals refine aU ?_
     all_goals rfl
 · rw[if_neg a0];have dk:((((out.map Ex.c).length:Nat):Int)==0)=false:=by
    have:out.length≠0:=fun h=>a0 (List.length_eq_zero_iff.1 h)
    simp;exact a0
   generalize (out.map fun x=>(an all x).1)=ba at*
   refine wz ?_;refine L.adopt 22 (s:=22) (t:=78) (k:=8) rfl rfl rfl ?_;refine ae (ι:=Nat) (fun j=>⟨[(132,aI (j:Int)),(131,aI ((ord.map Ex.c).length:Int)),(130,.iv (.sl (ord.map Ex.c))),(22,.row 22 (((ord.take j).map fun x=>(an all x).1).map Ex.c)),(11,.iv (.sl (ba.map Ex.c))),(6,.iv (.sl (all.map A4.c))),(2,.ptr 2 0),(3,.ptr 3 0),(4,.ptr 4 0),(5,aI 0)],
    [(2,⟨47,.l (c.c.map .iv)⟩),(3,⟨80,.l ((A9.cs ⟨kind,name,table,col,cols,rows,sets,frm,out,wh,ord,down,n⟩).map .iv)⟩),(4,⟨80,.l ni⟩)],[(22,⟨78,8⟩)]⟩) (fun j=>ord.length - j) (fun j=> ∀x∈ord.take j,(an all x).2.2=0) (i0:=0) ?_ sP ?_
   · exact Wk.mk' kK (wF (wF (wF (wF (.cons rfl (Sub.row _ _) F5))))) B3 (.cons rfl .nil)
   intro j hJ K hK;cases T:ord[j]? with
   |some x=>
    have a2:=fZ (l:=ord.map Ex.c) (cM (f:=Ex.c) T);have a6:=fM T;have kx:=oP all aR x (a4 x (gE T));have g2:(ord.map Ex.c)[((j:Nat):Int).toNat]?=some [I x.op,I x.v.k,I x.v.n,S x.v.s,S x.s,S x.name,I x.n,.sl (x.l.map Ex.c)]:=by rw[iN,gP,T];exact congrArg some (aN x)
    have n1:((ord.take (j+1)).map fun x=>(an all x).1).map Ex.c=((ord.take j).map fun x=>(an all x).1).map Ex.c++ [(an all x).1.cs]:=by rw[dv T,pA,pA];exact congrArg _ (by simp[aN])
    have l1:(((ord.take j).map fun x=>(an all x).1).map Ex.c).length+1<=ord.length:=by rw[lM,lM,lT];omega
    have bm:(((ord.take j).map fun x=>(an all x).1).map Ex.c).length+1<=maxLen:=Nat.le_trans l1 (Nat.le_trans bp (by rw[fJ];decide));have bb:((((ord.take j).map fun x=>(an all x).1).map Ex.c).length+1)*104<=225000000000000:=Nat.le_trans (mR 104 l1) (Nat.le_trans bl dD);by_cases hf:(an all x).2.2=0
    · have a3:=gA (g:=fun x=>(an all x).2.2) hJ T hf;have k1:=qj ((ord.take j).map fun x=>(an all x).1);generalize an all x=m at*
      obtain⟨e,ty,f⟩:=m;dsimp only at hf kx n1;subst hf;generalize ((ord.take j).map fun x=>(an all x).1).map Ex.c=es at*
      (repeat' first|intro hb hp|(refine LW.is ?_;first|apply bJ;rfl;rfl;rfl;rfl;exact k1;exact bB rfl bV;exact bm;exact bb;rfl;rfl)|refine am ?_|refine al ?_ ?_|fail)
      refine L.onlyS [132,131,130,22,11,6,2,3,4,5] [2,3,4] rfl ?_;refine L.retok 22 150 22 rfl rfl rfl rfl ?_;refine hK _ (j+1) a3 C (Wk.mk' kK (wF (wF (wF (.cons rfl (Sub.of_eq (congrArg (AV.row 22) n1.symm)) F6)))) B3 (.cons rfl .nil))
    · have he:eG (ord.map fun x=>(an all x).2.2)=(an all x).2.2:=lL (g:=fun x=>(an all x).2.2) hJ T hf;rw[he,if_pos hf];generalize an all x=m at*
      obtain⟨e,ty,f⟩:=m;dsimp only at hf kx|-;have q:(f !=0)=true:=by simpa using hf
      refine wz ?_;all_goals refine aU ?_
      all_goals rfl
   |none=>
    have a2:=gc (l:=ord.map Ex.c) (bz T);rw[br T] at hJ|-;have he:eG (ord.map fun x=>(an all x).2.2)=0:=nw hJ;rw[he,if_neg dD];clear hK hJ T he;generalize (ord.map fun x=>(an all x).1)=cR at*
    have kw:=rp all aR wh a8;generalize dN all wh=W at*
    obtain⟨W1,W2⟩:=W;refine wz ?_;all_goals refine aU ?_
    all_goals rfl
def px(c:B0)(s:A9):Int:=if cv ⟨s.name,s.cols⟩=false then 1 else if(ab c s.name).2 then 4 else if 3<=c.ts.length then 8 else 0
def va(c:B0)(s:A9):Int:=
 if bF s.name=false then 1
 else if(ab c s.table).2=false\/aV (ab c s.table).1 s.col<0 then 3
 else if c.is.any (fun x=>x.n==s.name) then 4 else if 4<=c.is.length then 8 else 0
def eL(c:B0)(s:A9):A9×Int:=
 if s.kind=1 then(s,px c s)
 else if s.kind=2 then(s,va c s)
 else if s.kind=3 then(s,if(ab c s.name).2 then 0 else 3)
 else if s.kind=7 then iH c s
 else if(ab c s.table).2 then eN s (ab c s.table).1 else(s,3)
def gh(c:B0)(s:A9):Bool:= !(((!dI c||decide (s.kind<1))||decide (7<s.kind))||(dq s).any (fun e=> !bX 1 e))
def aJ(c:B0)(s:A9):A9×Int:=
 if gh c s=false then(La,1) else if(eL c s).2≠0 then(La,(eL c s).2) else((eL c s).1,0)
def zh{c:B0}(h:dI c=true):c.ts.length<=3/\c.is.length<=4/\ ∀name,(ab c name).1.cols.length<=4:=by
 simp only[dI,aE,decide_eq_true_eq] at h;obtain⟨h1,h2,h3,h4⟩:=h;refine⟨by omega,by omega,fun name=> ?_⟩;unfold ab;cases hf:c.ts.find? (fun t=>t.n==name) with
 |none=>simp
 |some t=>
  obtain⟨i,hi⟩:=List.getElem?_of_mem (List.mem_of_find?_eq_some hf);have:=aT h1 (t,i) (List.mem_iff_getElem?.2 ⟨i,by simp[List.getElem?_zipIdx,hi]⟩);simp only[qw,Bool.not_eq_true',Bool.or_eq_false_iff,Bool.not_eq_false'] at this;have T:=this.1;simp only[cv,aE,decide_eq_true_eq] at T;exact T.2.2.2.1
def DA(e:Ex)(T:e.OkS):CallG tD prog 87 [.agg (e.cs.map .iv)] [] [] [] (aB (!bX 1 e)):=by
 have k:=vv e T 1 dD dD;refine iG func87 ntmps87 (fun w0 E0 hG=> ?_);refine wz ?_;all_goals refine aU ?_
 all_goals rfl
def Dz{gs:aw}(x:A7)(s:A9):
 CallG gs prog 90 [.agg (x.c.map .iv),.ptr 1000 0] [(1000,⟨80,.l (s.cs.map .iv)⟩)] [(1000,⟨80,.l (s.cs.map .iv)⟩)] [] (aB (x.n==s.name)):=by
 refine iG func90 ntmps90 (fun w0 E0 T=> ?_);refine wz ?_;all_goals(apply L.ends;rfl;rfl;exact fR;exact Wk.mk' kK .nil B1 .nil)
def Dy(c:B0)(hc:c.Ok)(s:A9)(T:s.Ok):
 CallG tD prog 59 [.agg (c.c.map .iv),.agg (s.cs.map .iv)] [] [] [] (.tup [.agg ((aJ c s).1.cs.map .iv),.iv (I (aJ c s).2)]):=by
 have kg:=sV c hc;have ke:=FF s T;have kc:=vN (gs:=tD) (f:=87) (fun e=> !bX 1 e) (dq s) ?hel (fun e he=>DA e (T.all e he))
 case hel=>
  have h:=T.tot;unfold dq;simp only[gV,lM];have:(if s.wh.op=0 then([]:List Ex) else [s.wh]).length<=1:=by split<;>simp
  generalize s.rows.flatten.length=z at*
  omega
 have a3:=gj c s.table hc.t;have a1:=gj c s.name hc.t;have aR:=jd s.name T.name;have a2:(⟨s.name,s.cols⟩:A4).Ok:=⟨T.name,T.cols,T.cn⟩
 have ad:=pH ⟨s.name,s.cols⟩ a2;have kx:=wu (gs:=tD) (f:=90) (b:=⟨80,.l (s.cs.map .iv)⟩) (fun x=>x.n==s.name) c.is hc.i rfl rfl (fun x _=>Dz x s);unfold aJ;refine iG func59 ntmps59 (fun w0 E0 hG=> ?_);cases hg:dI c with
 |false=>
  rw[hg] at kg;rw[show gh c s=false by simp[gh,hg],if_pos rfl];refine wz ?_;all_goals refine aU ?_
  all_goals rfl
 |true=>
 rw[hg] at kg;obtain⟨bi,bl,ar⟩:=zh hg;have a4:=Du c s T C (fun name=>Nat.le_trans (ar name) dD) T.wh.ok;have a5:=Dv s T (ab c s.table).1 (Nat.le_trans (ar s.table) dD) T.wh.ok;cases h1:decide (s.kind<1) with
 |true=>
  rw[show gh c s=false by simp[gh,hg,h1],if_pos rfl];refine wz ?_;all_goals refine aU ?_
  all_goals rfl
 |false=>
 cases h2:decide (7<s.kind) with
 |true=>
  rw[show gh c s=false by simp[gh,hg,h1,h2],if_pos rfl];refine wz ?_;all_goals refine aU ?_
  all_goals rfl
 |false=>
 cases h3:(dq s).any (fun e=> !bX 1 e) with
 |true=>
  rw[h3] at kc;rw[show gh c s=false by simp[gh,hg,h1,h2,h3],if_pos rfl];refine wz ?_;all_goals refine aU ?_
  all_goals rfl
 |false=>
 rw[h3] at kc;rw[show gh c s=true by simp[gh,hg,h1,h2,h3],if_neg dD];have hk:s.kind=1\/s.kind=2\/s.kind=3\/s.kind=4\/s.kind=5\/s.kind=6\/s.kind=7:=by
  have:=of_decide_eq_false h1;have:=of_decide_eq_false h2;omega
 have a9:((c.ts.map A4.c).length:Int)=(c.ts.length:Int):=by simp
 have ba:((c.is.map A7.c).length:Int)=(c.is.length:Int):=by simp
 have q0:((0:Int) !=0)=false:=rfl;rcases hk with hk|hk|hk|hk|hk|hk|hk
 ·
  rw[show eL c s=(s,px c s) by rw[eL,if_pos hk]];obtain⟨kind,name,table,col,cols,rows,sets,frm,out,wh,ord,down,n⟩:=s;dsimp only at hk kg ke kc a3 a1 aR ad kx|-;subst hk;clear a4 a5 ar a2 T;unfold px;dsimp only;generalize ab c table=ft at*
  generalize ab c name=fn at*
  obtain⟨tt,is⟩:=ft;obtain⟨tn,a7⟩:=fn;dsimp only at*
  cases hq:cv ⟨name,cols⟩ with
  |false=>
   rw[hq] at ad;rw[if_pos rfl,if_pos (show(1:Int)≠0 by decide)];refine wz ?_;all_goals refine aU ?_
   all_goals rfl
  |true=>
  rw[hq] at ad;rw[if_neg (show¬(true=false) by decide)];cases a7 with
  |true=>
   rw[if_pos rfl,if_pos (show(4:Int)≠0 by decide)];refine wz ?_;all_goals refine aU ?_
   all_goals rfl
  |false=>
  rw[if_neg (show¬(false=true) by decide)];by_cases h3:3<=c.ts.length
  · have q3:decide ((3:Int)<=((c.ts.map A4.c).length:Int))=true:=decide_eq_true (by rw[a9];omega);rw[if_pos h3,if_pos (show(8:Int)≠0 by decide)];refine wz ?_;all_goals refine aU ?_
    all_goals rfl
  · have q3:decide ((3:Int)<=((c.ts.map A4.c).length:Int))=false:=decide_eq_false (by rw[a9];omega);rw[if_neg h3,if_neg (show¬((0:Int)≠0) by decide)];refine wz ?_;all_goals refine aU ?_
    all_goals rfl
 ·
  rw[show eL c s=(s,va c s) by rw[eL,if_neg (by rw[hk];decide),if_pos hk]];have bh:=eI (ab c s.table).1 s.col (Nat.le_trans (ar s.table) dD);obtain⟨kind,name,table,col,cols,rows,sets,frm,out,wh,ord,down,n⟩:=s;dsimp only at hk kg ke kc a3 a1 aR ad kx bh|-;subst hk;clear a4 a5 ar a2 T ad a1;unfold va;dsimp only;generalize ab c table=ft at*
  obtain⟨tt,is⟩:=ft;dsimp only at*
  cases hq:bF name with
  |false=>
   rw[hq] at aR;rw[if_pos rfl,if_pos (show(1:Int)≠0 by decide)];refine wz ?_;all_goals refine aU ?_
   all_goals rfl
  |true=>
  rw[hq] at aR;rw[if_neg (show¬(true=false) by decide)];cases is with
  |false=>
   rw[if_pos (show(false=false\/aV tt col<0) from .inl rfl),if_pos (show(3:Int)≠0 by decide)];refine wz ?_;all_goals refine aU ?_
   all_goals rfl
  |true=>
  by_cases a6:aV tt col<0
  · have qc:decide (aV tt col<0)=true:=decide_eq_true a6;rw[if_pos (show(true=false\/aV tt col<0) from .inr a6),if_pos (show(3:Int)≠0 by decide)];refine wz ?_;all_goals refine aU ?_
    all_goals rfl
  have qc:decide (aV tt col<0)=false:=decide_eq_false a6;rw[if_neg (show¬(true=false\/aV tt col<0) by simp[a6])];cases ha:c.is.any (fun x=>x.n==name) with
  |true=>
   rw[ha] at kx;rw[if_pos rfl,if_pos (show(4:Int)≠0 by decide)];(repeat' first|intro hb hp|(refine LW.is ?_;first|apply ag;rfl;apply aA;rfl|apply fv (q:=3);rfl;exact hG;exact kx;rfl;rfl;rfl;rfl;rfl;rfl;rfl)|refine am ?_|refine al ?_ ?_|fail)
   all_goals refine aU ?_
   all_goals rfl
  |false=>
  rw[ha] at kx;rw[if_neg (show¬(false=true) by decide)];by_cases h4:4<=c.is.length
  · have q3:decide ((4:Int)<=((c.is.map A7.c).length:Int))=true:=decide_eq_true (by rw[ba];omega);rw[if_pos h4,if_pos (show(8:Int)≠0 by decide)];(repeat' first|intro hb hp|(refine LW.is ?_;first|apply ag;rfl;apply aA;rfl|apply fv (q:=3);rfl;exact hG;exact kx;rfl;rfl;rfl;rfl;rfl;rfl;rfl)|refine am ?_|refine al ?_ ?_|fail)
    all_goals refine aU ?_
    all_goals rfl
  · have q3:decide ((4:Int)<=((c.is.map A7.c).length:Int))=false:=decide_eq_false (by rw[ba];omega);rw[if_neg h4,if_neg (show¬((0:Int)≠0) by decide)];(repeat' first|intro hb hp|(refine LW.is ?_;first|apply ag;rfl;apply aA;rfl|apply fv (q:=3);rfl;exact hG;exact kx;rfl;rfl;rfl;rfl;rfl;rfl;rfl)|refine am ?_|refine al ?_ ?_|fail)
    all_goals refine aU ?_
    all_goals rfl
 ·
  rw[show eL c s=(s,if(ab c s.name).2 then 0 else 3) by rw[eL,if_neg (by rw[hk];decide),if_neg (by rw[hk];decide),if_pos hk]];obtain⟨kind,name,table,col,cols,rows,sets,frm,out,wh,ord,down,n⟩:=s;dsimp only at hk kg ke kc a3 a1|-;subst hk;clear a4 a5 ar a2 T ad aR kx;generalize ab c table=ft at*
  generalize ab c name=fn at*
  obtain⟨tt,is⟩:=ft;obtain⟨tn,a8⟩:=fn;dsimp only at*
  cases a8 with
  |false=>
   rw[if_pos (show((if false=true then(0:Int) else 3)≠0) by decide)];refine wz ?_;all_goals refine aU ?_
   all_goals rfl
  |true=>
   rw[if_neg (show¬((if true=true then(0:Int) else 3)≠0) by decide)];refine wz ?_;all_goals refine aU ?_
   all_goals rfl
 iterate 3
  ·
   rw[show eL c s=if(ab c s.table).2 then eN s (ab c s.table).1 else(s,3) by rw[eL,if_neg (by rw[hk];decide),if_neg (by rw[hk];decide),if_neg (by rw[hk];decide),if_neg (by rw[hk];decide)]];generalize hm:eN s (ab c s.table).1=m at*
   obtain⟨kind,name,table,col,cols,rows,sets,frm,out,wh,ord,down,n⟩:=s;dsimp only at hk kg ke kc a3 a5|-;subst hk;clear hm a4 ar a2 T ad aR kx a1;generalize ab c table=ft at*
   obtain⟨tt,is⟩:=ft;obtain⟨m1,m2⟩:=m;dsimp only at*
   cases is with
   |false=>
    rw[if_neg (show¬(false=true) by decide),if_pos (show(3:Int)≠0 by decide)];exact ws
   |true=>
   rw[if_pos rfl];by_cases a0:m2=0
   · subst a0;rw[if_neg (show¬((0:Int)≠0) by decide)];exact ws
   · have qm:(m2 !=0)=true:=by simpa using a0
     rw[if_pos a0];exact ws
 ·
  rw[show eL c s=iH c s by rw[eL,if_neg (by rw[hk];decide),if_neg (by rw[hk];decide),if_neg (by rw[hk];decide),if_pos hk]];generalize iH c s=m at*
  obtain⟨kind,name,table,col,cols,rows,sets,frm,out,wh,ord,down,n⟩:=s;dsimp only at hk kg ke kc a3 a4|-;subst hk;clear a5 ar a2 T ad aR kx a1;generalize ab c table=ft at*
  obtain⟨tt,is⟩:=ft;obtain⟨m1,m2⟩:=m;dsimp only at*
  by_cases a0:m2=0
  · subst a0;rw[if_neg (show¬((0:Int)≠0) by decide)];refine wz ?_;all_goals refine aU ?_
    all_goals rfl
  · have qm:(m2 !=0)=true:=by simpa using a0
    rw[if_pos a0];refine wz ?_;all_goals refine aU ?_
    all_goals rfl
end Go.Proofs.Y
namespace Go.Abs
def Yields.cmpB{P:Program}{c:C7}{st:St}{o:Oper}{f:FuncId}{x y:Operand}{ad:Array TypeId}{m n:List UInt8}(ho:o.op= .call {callee:= .value (.func f),args:= #[x,y],argTypes:=ad})
 (ar:sY P f Extern.BytealgCompare.compare) (hx:st.ev x=aS m) (hy:st.ev y=aS n):Yields P c st o (aI (Lib.compareBytes m n)):=
 .im U fun E a w hi=>by
   obtain⟨fn,hf,h1,h2,h3,h4⟩:=ar;have e1:=hi.im hx;have e2:=hi.im hy;have T:=run_callFunc_extern hf h1 h2 h3 h4 #[.string ⟨m.toArray⟩,.string ⟨n.toArray⟩] w;rw[Lib.run_compareString] at T;have:(execOp a.eval o).run P w=(callFunc f #[a.eval x,a.eval y]).run P w:=by
    simp[execOp,ho,resolve,Deferred.ofValue,Act.eval,invoke]
   rw[this,e1,e2,T];simp[Result.andThen]
def Lh{P:Program}{c:C7}{fr:List (Nat×AV)}{bx:List (Nat×A5)}{tk:List (Nat×C9)}{d:Nat}{ty:TypeId}{pos:String}{T:Array Edge}{f:FuncId}{x y:Operand}{ad:Array TypeId}{m n:List UInt8}
 (ar:sY P f Extern.BytealgCompare.compare) (hx:St.ev ⟨fr,bx,tk⟩ x=aS m) (hy:St.ev ⟨fr,bx,tk⟩ y=aS n):VV P c ⟨fr,bx,tk⟩ ⟨some d,.call {callee:= .value (.func f),args:= #[x,y],argTypes:=ad},ty,pos,T,none⟩ (aI (Lib.compareBytes m n)) []:=
 .mk fun st' kE kL=> .cmpB U ar ((kE x oO).trans hx) ((kE y oO).trans hy)
end Go.Abs
namespace Go.Proofs.Y
open Go.Abs Go.Proofs.Tryz
attribute [local irreducible] L Code.wp bodyPost Exit.then Exit.inBlock
def vP: ∀a b:Str,decide (Lib.compareBytes a b<0)=decide (a<b)
 | [],[] =>by simp[Lib.compareBytes]
 | [],_::_=>by simp[Lib.compareBytes]
 |_::_,[] =>by simp[Lib.compareBytes]
 |a::l,b::m=>by
  have T:=vP l m;unfold Lib.compareBytes;rw[Bool.eq_iff_iff] at T|-;simp only[decide_eq_true_eq,List.cons_lt_cons_iff] at T|-;by_cases h1:a<b
  · simp[h1]
  · by_cases h2:b<a
    · have:a≠b:=fun e=>by subst e;exact h1 h2
      simp[h1,h2,this]
    · have:a=b:=UInt8.le_antisymm (UInt8.not_lt.1 h2) (UInt8.not_lt.1 h1);subst this;simp[h1,T]
def Dn: ∀a b:Str,(Lib.compareBytes a b==0)=(a==b)
 | [],[] =>by simp[Lib.compareBytes]
 | [],_::_=>by simp[Lib.compareBytes]
 |_::_,[] =>by simp[Lib.compareBytes]
 |a::l,b::m=>by
  have T:=Dn l m;unfold Lib.compareBytes;rw[Bool.eq_iff_iff] at T|-;simp only[beq_iff_eq,List.cons.injEq] at T|-;by_cases h1:a<b
  · have:a≠b:=fun e=>by subst e;exact absurd h1 (UInt8.lt_irrefl _)
    simp[h1,this]
  · by_cases h2:b<a
    · have:a≠b:=fun e=>by subst e;exact h1 h2
      simp[h1,h2,this]
    · have:a=b:=UInt8.le_antisymm (UInt8.not_lt.1 h2) (UInt8.not_lt.1 h1);subst this;simp[h1,T]
def LX:sY prog 208 Extern.BytealgCompare.compare:=⟨f208,func208,by kernel_rfl,by kernel_rfl,by kernel_rfl,by kernel_rfl⟩
def wA(a b:Str):CallA prog 178 [aS a,aS b] [] [] [] (aI (Lib.compareBytes a b)):=by
 refine iA func178 ntmps178 (fun w0 E0=> ?_);(repeat' first|intro T hp|refine ag rfl (Lh LX U U) ?_|refine am ?_|refine al ?_ ?_|fail)
 all_goals refine aU ?_
 all_goals rfl
def th(a b:Str):CallA prog 136 [aS a,aS b] [] [] [] (aI (Lib.compareBytes a b)):=by
 refine iA func136 ntmps136 (fun w0 E0=> ?_);(repeat' first|intro T hp|refine LW.is (s_C (wA a b) ?_)|refine am ?_|refine al ?_ ?_|fail)
 all_goals refine aU ?_
 all_goals rfl
def wM(a b:Str)(cols:IV):CallA prog 135 [.agg [.iv (S a),.iv cols],aS b] [] [] [] (aI (Lib.compareBytes a b)):=by
 refine iA func135 ntmps135 (fun w0 E0=> ?_);(repeat' first|intro T hp|refine LW.is (s_C (th a b) ?_)|refine am ?_|refine al ?_ ?_|fail)
 all_goals refine aU ?_
 all_goals rfl
def wJ(a b:Str)(x y:IV):CallA prog 139 [.agg [.iv (S a),.iv x,.iv y],aS b] [] [] [] (aI (Lib.compareBytes a b)):=by
 refine iA func139 ntmps139 (fun w0 E0=> ?_);(repeat' first|intro T hp|refine LW.is (s_C (th a b) ?_)|refine am ?_|refine al ?_ ?_|fail)
 all_goals refine aU ?_
 all_goals rfl
def xh{k i:Nat}{es:List (List IV)}{e:List IV}(hk: ∀e∈es,e.length=k)(h:es[i]?=some e){t:TypeId}:((A5.mk t (.r es.flatten 0)).cs.drop (i*k)).take k=e.map .iv:=by
 rw[A5.cs_r,List.replicate_zero,List.append_nil,<-List.map_drop,<-List.map_take,sg es i e hk h]
def EK{gs:aw}(ts:List A4)(key:Str)(a2:ts≠ [])(hl:ts.length<=140737488355328)(hf:Falls (fun s=>decide (s<key)) (ts.map A4.n)):
 CallG gs prog 134 [.bsh 1000 0 ts.length 2,aS key,.fn 135 []] [(1000,⟨57,.r (ts.map A4.c).flatten 0⟩)] [(1000,⟨57,.r (ts.map A4.c).flatten 0⟩)] [] (.tup [aI (aX (ts.map A4.n) key:Int),aB (bM (ts.map A4.n) key)]):=by
 refine iG func134 ntmps134 (fun w0 E0 hG=> ?_);have aR:aX (ts.map A4.n) key<=ts.length:=by have:=jc (fun s=>decide (s<key)) (ts.map A4.n);rwa [lM] at this
 have hk: ∀e∈ts.map A4.c,e.length=2:=by intro e he;obtain⟨t,_,rfl⟩:=mM he;rfl
 refine wz ?_;refine ae (ι:=Nat×Nat) (fun i=>⟨[(9,aI (i.1:Int)),(10,aI (i.2:Int)),(8,aI (ts.length:Int)),(0,.bsh 1000 0 ts.length 2),(1,aS key),(2,.fn 135 [])],[(1000,⟨57,.r (ts.map A4.c).flatten 0⟩)],[]⟩) (fun i=>i.2 - i.1) (fun i=>i.1<=aX (ts.map A4.n) key/\aX (ts.map A4.n) key<=i.2/\i.2<=ts.length) (i0:=(0,ts.length)) ?_ ⟨Nat.zero_le _,aR,Nat.le_refl _⟩ ?_
 · exact(Wk.mk' ax F6 B1 .nil)
 rintro ⟨i,j⟩ ⟨h1,h2,h3⟩ K hK;dsimp only at h1 h2 h3|-;cases ad:decide ((i:Int)<(j:Int)) with
 |true=>
  have a0:i<j:=by simpa using ad
  have hh:=HX i j C;have hm:(i+j) / 2<ts.length:=C;obtain⟨t,ht⟩: ∃t,ts[(i+j) / 2]?=some t:=⟨_,gG hm⟩
  have hs:(ts.map A4.n)[(i+j) / 2]?=some t.n:=by rw[gP,ht];rfl
  have g0:0<=IntKind.i64.wrap ((IntKind.u64.wrap ((i:Int)+(j:Int))).fdiv (2 ^ min (Int.toNat 1) IntKind.u64.bits)):=by rw[hh];omega
  have g1:IntKind.i64.wrap ((IntKind.u64.wrap ((i:Int)+(j:Int))).fdiv (2 ^ min (Int.toNat 1) IntKind.u64.bits))<(ts.length:Int):=by rw[hh];omega
  have g4:(0+(IntKind.i64.wrap ((IntKind.u64.wrap ((i:Int)+(j:Int))).fdiv (2 ^ min (Int.toNat 1) IntKind.u64.bits))).toNat)*2=(i+j) / 2*2:=by rw[hh,iN,Nat.zero_add]
  have g5:((A5.mk 57 (.r (ts.map A4.c).flatten 0)).cs.drop ((i+j) / 2*2)).take 2= [.iv (S t.n),.iv (.sl (t.cols.map B8.c))]:=xh hk (by rw[gP,ht];rfl);have g2: -9223372036854775808<=IntKind.i64.wrap ((IntKind.u64.wrap ((i:Int)+(j:Int))).fdiv (2 ^ min (Int.toNat 1) IntKind.u64.bits))+1:=C;have g3:IntKind.i64.wrap ((IntKind.u64.wrap ((i:Int)+(j:Int))).fdiv (2 ^ min (Int.toNat 1) IntKind.u64.bits))+1<=9223372036854775807:=by rw[hh];omega
  have kw:CallG gs prog 135 ([.agg [.iv (S t.n),.iv (.sl (t.cols.map B8.c))],aS key] ++ []) [] [] [] (aI (Lib.compareBytes t.n key)):=(wM t.n key (.sl (t.cols.map B8.c))).toG (gs:=gs);cases T:decide (t.n<key) with
  |true=>
   have:=hf.le hs (by simpa using T);have hc:decide (Lib.compareBytes t.n key<0)=true:=by rw[vP];exact T
   (repeat' first|intro hb T|refine aZ (f:=135) (caps:= []) U hG U kw U .nil U U ?_|(refine LW.is ?_;first|refine ag U (iU U U g2 g3) ?_|refine ag U (ay U U g0 g1 g4) ?_|refine ag U (cO U U g5 U) ?_)|refine am ?_|refine al ?_ ?_|fail)
   refine hK _ ((i+j) / 2+1,j) ⟨by unfold aX;omega,h2,h3⟩ oD ?_;refine(Wk.mk' ax (.cons U (Sub.of_eq (congrArg (fun z=>aI z) ?_)) F5) B1 .nil);rw[hh];rfl
  |false=>
   have:=rj (p:=fun s=>decide (s<key)) hs (by simpa using T);have hc:decide (Lib.compareBytes t.n key<0)=false:=by rw[vP];exact T
   (repeat' first|intro hb T|refine aZ (f:=135) (caps:= []) U hG U kw U .nil U U ?_|(refine LW.is ?_;first|refine ag U (ay U U g0 g1 g4) ?_|refine ag U (cO U U g5 U) ?_)|refine am ?_|refine al ?_ ?_|fail)
   refine hK _ (i,(i+j) / 2) ⟨h1,by unfold aX;omega,by dsimp only;omega⟩ oD ?_;refine(Wk.mk' ax (wF (.cons U (Sub.of_eq (congrArg (fun z=>aI z) ?_)) F4)) B1 .nil);rw[hh]
 |false=>
  have a0: ¬i<j:=by simpa using ad
  obtain rfl:i=aX (ts.map A4.n) key:=C;cases ht:ts[aX (ts.map A4.n) key]? with
  |none=>
   have ar:decide (((aX (ts.map A4.n) key:Nat):Int)<(ts.length:Int))=false:=by have:=gO ht;exact decide_eq_false C
   have hr:bM (ts.map A4.n) key=false:=by simp[bM,ht]
   rw[hr];refine wz ?_;all_goals exact L.ends U U fR (Wk.mk' ax .nil B1 .nil)
  |some t=>
   have a1:=(gS ht).1;have ar:decide (((aX (ts.map A4.n) key:Nat):Int)<(ts.length:Int))=true:=decide_eq_true C;have hs:(ts.map A4.n)[aX (ts.map A4.n) key]?=some t.n:=by rw[gP,ht];rfl
   have g0:0<=((aX (ts.map A4.n) key:Nat):Int):=C;have g1:((aX (ts.map A4.n) key:Nat):Int)<(ts.length:Int):=C;have g4:(0+(((aX (ts.map A4.n) key:Nat):Int)).toNat)*2=aX (ts.map A4.n) key*2:=by rw[iN,Nat.zero_add]
   have g5:((A5.mk 57 (.r (ts.map A4.c).flatten 0)).cs.drop (aX (ts.map A4.n) key*2)).take 2= [.iv (S t.n),.iv (.sl (t.cols.map B8.c))]:=xh hk (by rw[gP,ht];rfl);have kw:CallG gs prog 135 ([.agg [.iv (S t.n),.iv (.sl (t.cols.map B8.c))],aS key] ++ []) [] [] [] (aI (Lib.compareBytes t.n key)):=(wM t.n key (.sl (t.cols.map B8.c))).toG (gs:=gs);have hr:bM (ts.map A4.n) key=(Lib.compareBytes t.n key==0):=by rw[bM,hs,Dn];rfl
   rw[hr];(repeat' first|intro hb T|refine aZ (f:=135) (caps:= []) U hG U kw U .nil U U ?_|(refine LW.is ?_;first|refine ag U (ay U U g0 g1 g4) ?_|refine ag U (cO U U g5 U) ?_)|refine am ?_|refine al ?_ ?_|fail)
   all_goals exact L.ends U U fR (Wk.mk' ax .nil B1 .nil)
def KC{gs:aw}(key:Str):
 CallG gs prog 134 [.iv (.sl []),aS key,.fn 135 []] [] [] [] (.tup [aI 0,aB false]):=by
 refine iG func134 ntmps134 (fun w0 E0 T=> ?_);refine wz ?_;refine ae (ι:=Nat) (fun i=>⟨[(9,aI 0),(10,aI 0),(8,aI 0),(0,.iv (.sl [])),(1,aS key),(2,.fn 135 [])],[],[]⟩) (fun i=>i) (fun i=>True) (i0:=0) ?_ trivial ?_
 · exact df
 intro i _ K hK;refine wz ?_;all_goals refine aU ?_
 all_goals rfl
def KB{gs:aw}(ts:List A7)(key:Str)(a2:ts≠ [])(hl:ts.length<=140737488355328)(hf:Falls (fun s=>decide (s<key)) (ts.map A7.n)):
 CallG gs prog 138 [.bsh 1000 0 ts.length 3,aS key,.fn 139 []] [(1000,⟨67,.r (ts.map A7.c).flatten 0⟩)] [(1000,⟨67,.r (ts.map A7.c).flatten 0⟩)] [] (.tup [aI (aX (ts.map A7.n) key:Int),aB (bM (ts.map A7.n) key)]):=by
 refine iG func138 ntmps138 (fun w0 E0 hG=> ?_);have aR:aX (ts.map A7.n) key<=ts.length:=by have:=jc (fun s=>decide (s<key)) (ts.map A7.n);rwa [lM] at this
 have hk: ∀e∈ts.map A7.c,e.length=3:=by intro e he;obtain⟨t,_,rfl⟩:=mM he;rfl
 refine wz ?_;refine ae (ι:=Nat×Nat) (fun i=>⟨[(9,aI (i.1:Int)),(10,aI (i.2:Int)),(8,aI (ts.length:Int)),(0,.bsh 1000 0 ts.length 3),(1,aS key),(2,.fn 139 [])],[(1000,⟨67,.r (ts.map A7.c).flatten 0⟩)],[]⟩) (fun i=>i.2 - i.1) (fun i=>i.1<=aX (ts.map A7.n) key/\aX (ts.map A7.n) key<=i.2/\i.2<=ts.length) (i0:=(0,ts.length)) ?_ ⟨Nat.zero_le _,aR,Nat.le_refl _⟩ ?_
 · exact(Wk.mk' ax F6 B1 .nil)
 rintro ⟨i,j⟩ ⟨h1,h2,h3⟩ K hK;dsimp only at h1 h2 h3|-;cases ad:decide ((i:Int)<(j:Int)) with
 |true=>
  have a0:i<j:=by simpa using ad
  have hh:=HX i j C;have hm:(i+j) / 2<ts.length:=C;obtain⟨t,ht⟩: ∃t,ts[(i+j) / 2]?=some t:=⟨_,gG hm⟩
  have hs:(ts.map A7.n)[(i+j) / 2]?=some t.n:=by rw[gP,ht];rfl
  have g0:0<=IntKind.i64.wrap ((IntKind.u64.wrap ((i:Int)+(j:Int))).fdiv (2 ^ min (Int.toNat 1) IntKind.u64.bits)):=by rw[hh];omega
  have g1:IntKind.i64.wrap ((IntKind.u64.wrap ((i:Int)+(j:Int))).fdiv (2 ^ min (Int.toNat 1) IntKind.u64.bits))<(ts.length:Int):=by rw[hh];omega
  have g4:(0+(IntKind.i64.wrap ((IntKind.u64.wrap ((i:Int)+(j:Int))).fdiv (2 ^ min (Int.toNat 1) IntKind.u64.bits))).toNat)*3=(i+j) / 2*3:=by rw[hh,iN,Nat.zero_add]
  have g5:((A5.mk 67 (.r (ts.map A7.c).flatten 0)).cs.drop ((i+j) / 2*3)).take 3= [.iv (S t.n),.iv (S t.tb),.iv (S t.co)]:=xh hk (by rw[gP,ht];rfl);have g2: -9223372036854775808<=IntKind.i64.wrap ((IntKind.u64.wrap ((i:Int)+(j:Int))).fdiv (2 ^ min (Int.toNat 1) IntKind.u64.bits))+1:=C;have g3:IntKind.i64.wrap ((IntKind.u64.wrap ((i:Int)+(j:Int))).fdiv (2 ^ min (Int.toNat 1) IntKind.u64.bits))+1<=9223372036854775807:=by rw[hh];omega
  have kw:CallG gs prog 139 ([.agg [.iv (S t.n),.iv (S t.tb),.iv (S t.co)],aS key] ++ []) [] [] [] (aI (Lib.compareBytes t.n key)):=(wJ t.n key (S t.tb) (S t.co)).toG (gs:=gs);cases T:decide (t.n<key) with
  |true=>
   have:=hf.le hs (by simpa using T);have hc:decide (Lib.compareBytes t.n key<0)=true:=by rw[vP];exact T
   (repeat' first|intro hb T|refine aZ (f:=139) (caps:= []) U hG U kw U .nil U U ?_|(refine LW.is ?_;first|refine ag U (iU U U g2 g3) ?_|refine ag U (ay U U g0 g1 g4) ?_|refine ag U (cO U U g5 U) ?_)|refine am ?_|refine al ?_ ?_|fail)
   refine hK _ ((i+j) / 2+1,j) ⟨by unfold aX;omega,h2,h3⟩ oD ?_;refine(Wk.mk' ax (.cons U (Sub.of_eq (congrArg (fun z=>aI z) ?_)) F5) B1 .nil);rw[hh];rfl
  |false=>
   have:=rj (p:=fun s=>decide (s<key)) hs (by simpa using T);have hc:decide (Lib.compareBytes t.n key<0)=false:=by rw[vP];exact T
   (repeat' first|intro hb T|refine aZ (f:=139) (caps:= []) U hG U kw U .nil U U ?_|(refine LW.is ?_;first|refine ag U (ay U U g0 g1 g4) ?_|refine ag U (cO U U g5 U) ?_)|refine am ?_|refine al ?_ ?_|fail)
   refine hK _ (i,(i+j) / 2) ⟨h1,by unfold aX;omega,by dsimp only;omega⟩ oD ?_;refine(Wk.mk' ax (wF (.cons U (Sub.of_eq (congrArg (fun z=>aI z) ?_)) F4)) B1 .nil);rw[hh]
 |false=>
  have a0: ¬i<j:=by simpa using ad
  obtain rfl:i=aX (ts.map A7.n) key:=C;cases ht:ts[aX (ts.map A7.n) key]? with
  |none=>
   have ar:decide (((aX (ts.map A7.n) key:Nat):Int)<(ts.length:Int))=false:=by have:=gO ht;exact decide_eq_false C
   have hr:bM (ts.map A7.n) key=false:=by simp[bM,ht]
   rw[hr];refine wz ?_;all_goals exact L.ends U U fR (Wk.mk' ax .nil B1 .nil)
  |some t=>
   have a1:=(gS ht).1;have ar:decide (((aX (ts.map A7.n) key:Nat):Int)<(ts.length:Int))=true:=decide_eq_true C;have hs:(ts.map A7.n)[aX (ts.map A7.n) key]?=some t.n:=by rw[gP,ht];rfl
   have g0:0<=((aX (ts.map A7.n) key:Nat):Int):=C;have g1:((aX (ts.map A7.n) key:Nat):Int)<(ts.length:Int):=C;have g4:(0+(((aX (ts.map A7.n) key:Nat):Int)).toNat)*3=aX (ts.map A7.n) key*3:=by rw[iN,Nat.zero_add]
   have g5:((A5.mk 67 (.r (ts.map A7.c).flatten 0)).cs.drop (aX (ts.map A7.n) key*3)).take 3= [.iv (S t.n),.iv (S t.tb),.iv (S t.co)]:=xh hk (by rw[gP,ht];rfl);have kw:CallG gs prog 139 ([.agg [.iv (S t.n),.iv (S t.tb),.iv (S t.co)],aS key] ++ []) [] [] [] (aI (Lib.compareBytes t.n key)):=(wJ t.n key (S t.tb) (S t.co)).toG (gs:=gs);have hr:bM (ts.map A7.n) key=(Lib.compareBytes t.n key==0):=by rw[bM,hs,Dn];rfl
   rw[hr];(repeat' first|intro hb T|refine aZ (f:=139) (caps:= []) U hG U kw U .nil U U ?_|(refine LW.is ?_;first|refine ag U (ay U U g0 g1 g4) ?_|refine ag U (cO U U g5 U) ?_)|refine am ?_|refine al ?_ ?_|fail)
   all_goals exact L.ends U U fR (Wk.mk' ax .nil B1 .nil)
def KA{gs:aw}(key:Str):
 CallG gs prog 138 [.iv (.sl []),aS key,.fn 139 []] [] [] [] (.tup [aI 0,aB false]):=by
 refine iG func138 ntmps138 (fun w0 E0 T=> ?_);refine wz ?_;refine ae (ι:=Nat) (fun i=>⟨[(9,aI 0),(10,aI 0),(8,aI 0),(0,.iv (.sl [])),(1,aS key),(2,.fn 139 [])],[],[]⟩) (fun i=>i) (fun i=>True) (i0:=0) ?_ trivial ?_
 · exact df
 intro i _ K hK;refine wz ?_;all_goals refine aU ?_
 all_goals rfl
end Go.Proofs.Y
