/- Lemmas towards the law. Conditions: each one says its own. -/
import Derived.Test.YtnhmohbhgocbjaaGreatDoorZT19
set_option linter.all false
set_option maxHeartbeats 64000000
set_option maxRecDepth 100000
namespace Go.Proofs.Y
open Go.Abs Go.Proofs.Tryz
attribute [local irreducible] L Code.wp bodyPost Exit.then Exit.inBlock
def sameRows_any(R:List (List Val))(hl:R.length≤100000000)(hr: ∀r∈R,r.length≤100000000):CallA prog 22 [.iv (.sl (R.map ai)),.iv (.sl (R.map ai))] [] [] [] (aB true):=by
 have q0:((((R.map ai).length:Nat):Int) !=(((R.map ai).length:Nat):Int))=false:=by simp
 refine iA func22 ntmps22 (fun w0 E0=> ?_);refine wz ?_;refine ae (ι:=Nat) (fun i=>⟨[(14,aI (i:Int)),(13,aI ((R.map ai).length:Int)),(0,.iv (.sl (R.map ai))),(1,.iv (.sl (R.map ai)))],[],[]⟩) (fun i=>R.length - i) (fun i=>True) (i0:=0) ?_ trivial ?_
 · exact wL
 intro i _ K hK;cases hx:R[i]? with
 |none=>
  have hlt:=fa (l:=R.map ai) (bf hx);clear hK;refine wz ?_;all_goals refine bn ?_
  all_goals rfl
 |some x=>
  have hlt:=eZ (l:=R.map ai) (cq (f:=ai) hx);have hlt':=eP hx;have hxl:=hr x (gE hx);have g1:(R.map ai)[((i:Nat):Int).toNat]?=some [.sl (x.map Val.c)]:=by rw[iN,gP,hx];rfl
  have q1:((((x.map Val.c).length:Nat):Int) !=(((x.map Val.c).length:Nat):Int))=false:=by simp
  clear hr q0;refine wz ?_;refine ae (ι:=Nat) (fun j=>⟨[(33,aI (j:Int)),(32,aI ((x.map Val.c).length:Int)),(5,aI (i:Int)),(14,aI (i:Int)),(13,aI ((R.map ai).length:Int)),(0,.iv (.sl (R.map ai))),(1,.iv (.sl (R.map ai)))],[],[]⟩) (fun j=>x.length - j) (fun j=>True) (i0:=0) ?_ trivial ?_
  · exact wL
  intro j _ K2 hK2;cases hy:x[j]? with
  |none=>
   have hlt2:=fa (l:=x.map Val.c) (bf hy);clear hK2;refine wz ?_;refine hK _ (i+1) trivial C ?_;exact wL
  |some v=>
   have hlt2:=eZ (l:=x.map Val.c) (cq (f:=Val.c) hy);have hlt2':=eP hy;have g2:(x.map Val.c)[((j:Nat):Int).toNat]?=some [I v.k,I v.n,S v.s]:=by rw[iN,gP,hy];rfl
   have q2:(!((v.k==v.k) && ((v.n==v.n) && ((v.s==v.s) && true))))=false:=by simp
   clear hK;refine wz ?_;refine hK2 _ (j+1) trivial C ?_;exact wL
def sameReply_any(r:Rep)(hl:r.rows.length≤100000000)(hr: ∀x∈r.rows,x.length≤100000000):CallA prog 31 [r.av,r.av] [] [] [] (aB true):=by
 have k:=sameRows_any r.rows hl hr;have q1:(r.code==r.code)=true:=by simp
 have q2:(r.n==r.n)=true:=by simp
 refine iA func31 ntmps31 (fun w0 E0=> ?_);refine wz ?_;all_goals refine bn ?_
 all_goals rfl
end Go.Proofs.Y
namespace Go.Proofs.Y
open Go.Abs
attribute [local irreducible] L Code.wp bodyPost Exit.then Exit.inBlock
def FG(s:Stm)(w:Nat)(J:List (List Val)):(AI s w J).length≤J.length∧ ∀r∈AI s w J,r.length=s.out.length:=by
 refine⟨?_,fun r hr=> ?_⟩
 · rw[AI,lM];refine Nat.le_trans (m:=((J.filter (bM s.wh)).mergeSort (cM (dc s w))).length) ?_ (by rw[List.length_mergeSort];exact List.length_filter_le ..);unfold re;split
   · rw[lT];omega
   · exact Nat.le_refl _
 · obtain⟨x,_,rfl⟩:=mM hr;rw[zq,lM]
def yK(r:Rep):Prop:=r.rows.length≤1000000∧ ∀x∈r.rows,x.length≤1000000
def mE(a b:Int):yK ⟨a,b,[]⟩:=⟨by simp,by simp⟩
def FL{c:Cat}{ps:List Pg}{D:Str→List (List Val)}(h:EI c ps D){s b:Stm}(hs:StmK s)(hb:aJ c s=(b,0)):yK (cL c ps b).rep:=by
 obtain⟨hg,hfo,hp⟩:=eh hb;have hks:=(eD hp).1;by_cases h7:b.kind=7
 · have hS:=HD C hp;rw[cL,if_neg C,if_neg C,if_neg C,if_neg C,if_neg C,if_pos h7];have hlen:=hS.len;have hft: ∀m∈s.frm,(ab c m).2=true:=fun m hm=>by
    obtain⟨i,hi⟩:=List.getElem?_of_mem hm;exact hS.tab i m hi
   have hat:lY (s.frm.map fun n=>(ab c n).1)≤8:=Nat.le_trans (wH h.db.cat hft) C;have hol:=hS.outL;have hso:=hs.out;obtain⟨n0,hn0⟩: ∃n0,s.frm[0]?=some n0:=⟨_,gG C⟩
   have hm:=(bX (hS.tab 0 n0 hn0)).1;have hd0:b.frm.getD 0 [] =n0:=by rw[hS.frm,List.getD_eq_getElem?_getD,hn0];rfl
   obtain⟨f1,f2,f3,_⟩:=kj h.db hm b.wh;have h30:=h.few _ hm;have hfb:b.frm.length=s.frm.length:=by rw[hS.frm]
   obtain⟨s1,s2⟩:=FG b (ab c n0).1.cols.length (ow c ps b (ci ps (ab c n0).1 (bU c (ab c n0).1 0 b.wh)));refine⟨?_,fun x hx=> ?_⟩
   · show(jO c ps b).length≤1000000;rw[jO,hd0];refine Nat.le_trans s1 ?_;unfold ow;split
     · rename_i h2;obtain⟨n1,hn1⟩: ∃n1,s.frm[1]?=some n1:=⟨_,gG C⟩
       have hm1:=(bX (hS.tab 1 n1 hn1)).1;have hd1:b.frm.getD 1 [] =n1:=by rw[hS.frm,List.getD_eq_getElem?_getD,hn1];rfl
       have h31:=h.few _ hm1;rw[hd1];refine Nat.le_trans (ld (k:=30) (fun x hx=> ?_)) C;rw[lM];have:=(rJ h.db hm1 x (br x b.wh)).2.2.1;omega
     · omega
   · have hx:x∈jO c ps b:=hx;rw[jO,hd0] at hx;have:=s2 x hx;omega
 · unfold cL;repeat' split
   all_goals first|exact mE _ _|exact absurd (by assumption) h7
def wd: ∀(l:List Stm) {c:Cat} {ps:List Pg} {r:Rep} {i:Int} {x:Cat×List Pg×Rep},(∃D,EI c ps D)→(∀s∈l,StmK s)→yK r→ib c ps r i l= .ok x→yK x.2.2
 | [],c,ps,r,i,x,_,_,h,hx=>by
   rw[ib] at hx;cases hx;exact h
 |s::l,c,ps,r,i,x,⟨D,hd⟩,hs,h,hx=>by
  rw[ib] at hx;split at hx
  · cases hx
  split at hx
  · cases hx
  rename_i h1 _;have hb:aJ c s=((aJ c s).1,0):=Prod.ext U (Decidable.not_not.1 h1);exact wd l (si hd hb) (fun s' hs'=>hs s' (List.mem_cons_of_mem _ hs')) (FL hd (hs s (List.mem_cons_self ..)) hb) hx
def BP{g:Eng}(h:EngOk g)(x:Str):yK (fy g x).2:=by
 unfold fy;split
 · exact mE _ _
 split
 · exact mE _ _
 split
 · exact mE _ _
 · rename_i r hr;exact wd _ h.db (uL x) (mE _ _) hr
variable [Errs]
end Go.Proofs.Y
namespace Go.Proofs.Y
open Go.Abs Go.Proofs.Tryz
attribute [local irreducible] L Code.wp bodyPost Exit.then Exit.inBlock
def Rep.c(r:Rep):List IV:= [I r.code,I r.n,.sl (r.rows.map ai)]
def gQ:Eng→List Str→List Rep
 |_,[] => []
 |g,x::l=>(fy g x).2::gQ (fy g x).1 l
def pj: ∀(l:List Str) (g:Eng),(gQ g l).length=l.length
 | [],_=>rfl
 |x::l,g=>by rw[gQ,lC,lC,pj l]
def uR: ∀(l:List Str) (k:Nat) (g:Eng),gQ g (l.take k)=(gQ g l).take k
 | [],k,g=>by simp[gQ]
 |x::l,0,g=>by simp[gQ]
 |x::l,k+1,g=>by rw[List.take_succ_cons,gQ,gQ,List.take_succ_cons,uR l k]
def AQ: ∀(l:List Str) {g:Eng},EngOk g→ ∀r∈gQ g l,yK r
 | [],_,_,r,h=>by cases h
 |x::l,g,hg,r,h=>by
  rcases List.mem_cons.1 h with rfl|h
  · exact BP hg x
  · exact AQ l (iF hg x) r h
def Nz(l:List Rep): ∀e∈l.map Rep.c,e.length=3:=fun e he=>by obtain⟨y,_,rfl⟩:=mM he;rfl
section
variable [Errs]
def EJ(l:List Str)(hl:l.length≤150):CallG cA prog 36 [.iv (.sl (l.map Str.c))] [] [] [] (.tup [.iv (.sl ((gQ eng0 l).map Rep.c)),aI 0]):=by
 have kn:=zw (gs:=cA);generalize hZ:gQ eng0 l=Z;have q0:decide ((150:Int)<((l.map Str.c).length:Int))=false:=decide_eq_false (by rw[lM];omega);refine iG func36 ntmps36 (fun w0 E0 hG=> ?_);(repeat' first|intro hb hp|refine ac [1010] rfl hG kn .nil .nil rfl rfl rfl rfl ?_|refine am ?_|refine ak ?_ ?_|fail)
 refine L.adopt 5 (s:=5) (t:=69) (k:=3) U U U ?_;refine ae (ι:=Nat×Eng×List Rep) (fun i=>⟨[(14,aI (i.1:Int)),(13,aI ((l.map Str.c).length:Int)),(12,.iv (.sl (l.map Str.c))),(5,.row 5 (i.2.2.map Rep.c)),(4,.ptr 1010 0)],[(1010,i.2.1.b)],[(5,⟨69,3⟩)]⟩) (fun i=>l.length - i.1) (fun i=>EngOk i.2.1∧i.2.2.length=i.1∧i.2.2++gQ i.2.1 (l.drop i.1)=Z) (i0:=(0,eng0,[])) ?_ ⟨pG,rfl,hZ⟩ ?_
 · exact Wk.mk' kK (wG (wG (wG F2))) B1 (.cons U .nil)
 rintro ⟨i,g,out⟩ ⟨hg,hol,hJ⟩ K hK;dsimp only at hg hol hJ hK;cases hx:l[i]? with
 |none=>
  have hlt:=fa (l:=l.map Str.c) (bf hx);rw[dL (gO hx),gQ,List.append_nil] at hJ;subst hJ;clear hK;refine wz ?_;all_goals exact L.ends U U (Sub.tup (.cons (Sub.row _ _) (.cons sE .nil))) wK
 |some x=>
  have hlt:=eZ (l:=l.map Str.c) (cq (f:=Str.c) hx);have hlt':=eP hx;have g1:(l.map Str.c)[((i:Nat):Int).toNat]?=some [S x]:=by rw[iN,gP,hx];rfl
  have hdr:l.drop i=x::l.drop (i+1):=eS hx;rw[hdr,gQ] at hJ;have kd:=nE g hg x;have hg':=iF hg x;have n1:(out++ [(fy g x).2]).map Rep.c=out.map Rep.c++ [[I (fy g x).2.code,I (fy g x).2.n,.sl ((fy g x).2.rows.map ai)]]:=by rw[pA];rfl
  have l1:(out.map Rep.c).length=i:=by rw[lM];exact hol
  have k1:=Nz out;generalize out.map Rep.c=es at*
  (repeat' first|intro hb hp|refine ac [] rfl hG kd fS B1 rfl rfl rfl rfl ?_|(refine LW.is ?_;first|refine bC U U U U k1 (by first|exact len_chunks U|exact bz U bK) (by simp[maxLen,ah,l1];omega) (by simp[ah,l1];omega) U U ?_)|refine am ?_|refine ak ?_ ?_|fail)
  refine L.onlyS [14,13,12,5,4] [1010] U ?_;refine L.retok 5 23 5 U U U U ?_;exact hK _ (i+1,(fy g x).1,out++ [(fy g x).2]) ⟨hg',by dsimp only;rw[gV,hol];rfl,by dsimp only;rw[List.append_assoc];exact hJ⟩ oD (Wk.mk' kK (wG (wF (wF (.cons U (Sub.of_eq (congrArg (AV.row 5) n1.symm)) F1)))) B1 (.cons U .nil))
end
def JV(k:Int)(n:Nat):0≤(k.tmod ((n:Int)+1)+(n:Int)+1).tmod ((n:Int)+1)∧(k.tmod ((n:Int)+1)+(n:Int)+1).tmod ((n:Int)+1)≤(n:Int):=by
 have h0:(0:Int)<(n:Int)+1:=C;have h1:=Int.lt_tmod_of_pos k h0;have h2:=Int.tmod_lt_of_pos (k.tmod ((n:Int)+1)+(n:Int)+1) h0;have h3:=Int.tmod_nonneg ((n:Int)+1) (show 0≤k.tmod ((n:Int)+1)+(n:Int)+1 by omega);exact⟨h3,by omega⟩
variable [Errs]
def Av(l:List Str)(hl:l.length≤140737488355328)(k:Int)(hk0: -9223372036854775808≤k)(hk1:k≤9223372036854775807):CallG cA prog 11 [.iv (.sl (l.map Str.c)),aI k] [] [] [] (aB true):=by
 have ka:=yJ;refine iG func11 ntmps11 (fun w0 E0 hG=> ?_);have hlm:((l.map Str.c).length:Int)=(l.length:Int):=by rw[lM]
 by_cases h40:40<l.length
 · have q:decide ((40:Int)<((l.map Str.c).length:Int))=true:=decide_eq_true C;refine wz ?_;all_goals exact L.ends U U sE wK
 have q:decide ((40:Int)<((l.map Str.c).length:Int))=false:=decide_eq_false C;have hr:=JV k (l.map Str.c).length;have b1:=Int.lt_tmod_of_pos k (show(0:Int)<((l.map Str.c).length:Int)+1 by omega);have b2:=Int.tmod_lt_of_pos k (show(0:Int)<((l.map Str.c).length:Int)+1 by omega);have p0:(0:Int)<((l.map Str.c).length:Int)+1:=C;obtain⟨m,hm⟩: ∃m:Nat,(k.tmod (((l.map Str.c).length:Int)+1)+((l.map Str.c).length:Int)+1).tmod (((l.map Str.c).length:Int)+1)=(m:Int):=⟨_,(Int.toNat_of_nonneg hr.1).symm⟩
 rw[hm] at hr;have k1:=EJ l C;have k2:=EJ (l.take m) (by rw[lT];omega);have hmk:(l.map Str.c).take ((m:Int)).toNat=(l.take m).map Str.c:=by rw[iN,List.map_take]
 have hm1:(m:Int)≤((l.map Str.c).length:Int):=hr.2;have s1: ∀e∈l.map Str.c,e.length=1:=fun e he=>by obtain⟨y,_,rfl⟩:=mM he;rfl
 have s2: ∀e∈(l.take m).map Str.c,e.length=1:=fun e he=>by obtain⟨y,_,rfl⟩:=mM he;rfl
 have q1:((((gQ eng0 l).map Rep.c).length:Int) !=((l.map Str.c).length:Int))=false:=by simp[pj]
 have q2:((((gQ eng0 (l.take m)).map Rep.c).length:Int) !=(m:Int))=false:=by
  rw[lM,pj,lT];simp;omega
 have q2e:((((gQ eng0 (l.take m)).map Rep.c).length:Int) !=(k.tmod (((l.map Str.c).length:Int)+1)+((l.map Str.c).length:Int)+1).tmod (((l.map Str.c).length:Int)+1))=false:=by rw[hm];exact q2
 have hok:=AQ l pG;have ht:=uR l m eng0;have hRl:=pj l eng0;generalize gQ eng0 l=R at*
 generalize gQ eng0 (l.take m)=R2 at*
 have z1:(l.map Str.c).length≤40:=C;have z2:((l.take m).map Str.c).length≤40:=by rw[lM,lT];omega
 (repeat' first|intro hb hp|refine th rfl rfl rfl (by first|exact s1|exact s2) (by rw[fC];omega) C U ?_|refine dM (ha:=rfl) U hG k1 U ?_|refine dM (ha:=rfl) U hG k2 U ?_|(refine LW.is ?_;first|refine ag U (eA U (congrArg (fun k:Int=>AV.iv (I k)) hm) s1 C hm1 hmk) ?_|refine ag U (iV U U C C) ?_)|refine am ?_|refine ak ?_ ?_|fail)
 refine ae (ι:=Nat) (fun i=>⟨[(9,aI (i:Int)),(1,aI (m:Int)),(5,.iv (.sl (R.map Rep.c))),(7,.iv (.sl (R2.map Rep.c)))],[],[]⟩) (fun i=>m - i) (fun i=>True) (i0:=0) ?_ trivial ?_
 · exact Wk.mk' kK (wG (.cons U (Sub.of_eq (congrArg (fun k:Int=>AV.iv (I k)) hm)) F2)) .nil .nil
 intro i _ K hK;by_cases h:i<m
 · have q3:decide ((i:Int)<(m:Int))=true:=decide_eq_true C;obtain⟨r,hx⟩: ∃r,R[i]?=some r:=⟨_,gG C⟩
   have hx2:R2[i]?=some r:=by rw[ht,List.getElem?_take,if_pos h];exact hx
   have g1:(R.map Rep.c)[((i:Nat):Int).toNat]?=some [I r.code,I r.n,.sl (r.rows.map ai)]:=by rw[iN,gP,hx];rfl
   have g2:(R2.map Rep.c)[((i:Nat):Int).toNat]?=some [I r.code,I r.n,.sl (r.rows.map ai)]:=by rw[iN,gP,hx2];rfl
   have hsm:=hok r (gE hx);have kr:=sameReply_any r (by have:=hsm.1;omega) (fun y hy=>by have:=hsm.2 y hy;omega);clear k1 k2 hok ka;refine wz ?_;exact hK _ (i+1) trivial C wL
 · have q3:decide ((i:Int)<(m:Int))=false:=decide_eq_false C;clear hK k1 k2 ka;refine wz ?_;all_goals exact L.ends U U sE wK
end Go.Proofs.Y
