/- Lemmas towards the law. Conditions: each one says its own. -/
import Derived.Test.YtnhmohbhgocbjaaGreatDoorZU16
set_option linter.all false
set_option maxHeartbeats 64000000
set_option maxRecDepth 100000
namespace Go.Proofs.Y
open Go.Abs Go.Proofs.Tryz
attribute [local irreducible] L Code.wp bodyPost Exit.then Exit.inBlock
def sameRows_any(R:List (List A3))(hl:R.length<=100000000)(hr: ∀r∈R,r.length<=100000000):CallA prog 22 [.iv (.sl (R.map ai)),.iv (.sl (R.map ai))] [] [] [] (aB true):=by
 have q0:((((R.map ai).length:Nat):Int) !=(((R.map ai).length:Nat):Int))=false:=by simp
 refine iA func22 ntmps22 (fun w0 E0=> ?_);refine wz ?_;refine ae (ι:=Nat) (fun i=>⟨[(14,aI (i:Int)),(13,aI ((R.map ai).length:Int)),(0,.iv (.sl (R.map ai))),(1,.iv (.sl (R.map ai)))],[],[]⟩) (fun i=>R.length - i) (fun i=>True) (i0:=0) ?_ trivial ?_
 · exact wL
 intro i _ K hK;cases T:R[i]? with
 |none=>
  have aR:=gc (l:=R.map ai) (bz T);clear hK;refine wz ?_;all_goals refine aU ?_
  all_goals rfl
 |some x=>
  have aR:=fZ (l:=R.map ai) (cM (f:=ai) T);have a1:=fM T;have a2:=hr x (gE T);have g1:(R.map ai)[((i:Nat):Int).toNat]?=some [.sl (x.map A3.c)]:=by rw[iN,gP,T];rfl
  have q1:((((x.map A3.c).length:Nat):Int) !=(((x.map A3.c).length:Nat):Int))=false:=by simp
  clear hr q0;refine wz ?_;refine ae (ι:=Nat) (fun j=>⟨[(33,aI (j:Int)),(32,aI ((x.map A3.c).length:Int)),(5,aI (i:Int)),(14,aI (i:Int)),(13,aI ((R.map ai).length:Int)),(0,.iv (.sl (R.map ai))),(1,.iv (.sl (R.map ai)))],[],[]⟩) (fun j=>x.length - j) (fun j=>True) (i0:=0) ?_ trivial ?_
  · exact wL
  intro j _ K2 ad;cases hy:x[j]? with
  |none=>
   have ar:=gc (l:=x.map A3.c) (bz hy);clear ad;refine wz ?_;refine hK _ (i+1) trivial C ?_;exact wL
  |some v=>
   have ar:=fZ (l:=x.map A3.c) (cM (f:=A3.c) hy);have a0:=fM hy;have g2:(x.map A3.c)[((j:Nat):Int).toNat]?=some [I v.k,I v.n,S v.s]:=by rw[iN,gP,hy];rfl
   have q2:(!((v.k==v.k) && ((v.n==v.n) && ((v.s==v.s) && true))))=false:=by simp
   clear hK;refine wz ?_;refine ad _ (j+1) trivial C ?_;exact wL
def sameReply_any(r:D3)(hl:r.rows.length<=100000000)(hr: ∀x∈r.rows,x.length<=100000000):CallA prog 31 [r.av,r.av] [] [] [] (aB true):=by
 have k:=sameRows_any r.rows hl hr;have T:(r.code==r.code)=true:=by simp
 have q2:(r.n==r.n)=true:=by simp
 refine iA func31 ntmps31 (fun w0 E0=> ?_);refine wz ?_;all_goals refine aU ?_
 all_goals rfl
end Go.Proofs.Y
namespace Go.Proofs.Y
open Go.Abs
attribute [local irreducible] L Code.wp bodyPost Exit.then Exit.inBlock
def Fh(s:A9)(w:Nat)(J:List (List A3)):(Al s w J).length<=J.length/\ ∀r∈Al s w J,r.length=s.out.length:=by
 refine⟨?_,fun r hr=> ?_⟩
 · rw[Al,lM];refine Nat.le_trans (m:=((J.filter (bL s.wh)).mergeSort (cL (dc s w))).length) ?_ (by rw[List.length_mergeSort];exact List.length_filter_le ..);unfold qN;split
   · rw[lT];omega
   · exact Nat.le_refl _
 · obtain⟨x,_,rfl⟩:=mM hr;rw[yQ,lM]
def ym(r:D3):Prop:=r.rows.length<=1000000/\ ∀x∈r.rows,x.length<=1000000
def my(a b:Int):ym ⟨a,b,[]⟩:=⟨by simp,by simp⟩
def Fl{c:B0}{ps:List Pg}{D:Str->List (List A3)}(h:EI c ps D){s b:A9}(hs:D8 s)(hb:aJ c s=(b,0)):ym (cK c ps b).rep:=by
 obtain⟨hg,a4,hp⟩:=ee hb;have a5:=(eD hp).1;by_cases h7:b.kind=7
 · have T:=He C hp;rw[cK,if_neg C,if_neg C,if_neg C,if_neg C,if_neg C,if_pos h7];have a3:=T.len;have a1: ∀m∈s.frm,(ab c m).2=true:=fun m hm=>by
    obtain⟨i,hi⟩:=List.getElem?_of_mem hm;exact T.tab i m hi
   have a6:lU (s.frm.map fun n=>(ab c n).1)<=8:=Nat.le_trans (wc h.db.cat a1) C;have a7:=T.outL;have a8:=hs.out;obtain⟨n0,ad⟩: ∃n0,s.frm[0]?=some n0:=⟨_,gG C⟩
   have hm:=(bU (T.tab 0 n0 ad)).1;have ar:b.frm.getD 0 [] =n0:=by rw[T.frm,List.getD_eq_getElem?_getD,ad];rfl
   obtain⟨f1,f2,f3,_⟩:=jX h.db hm b.wh;have a9:=h.few _ hm;have ba:b.frm.length=s.frm.length:=by rw[T.frm]
   obtain⟨s1,s2⟩:=Fh b (ab c n0).1.cols.length (og c ps b (ci ps (ab c n0).1 (bO c (ab c n0).1 0 b.wh)));refine⟨?_,fun x hx=> ?_⟩
   · show(jM c ps b).length<=1000000;rw[jM,ar];refine Nat.le_trans s1 ?_;unfold og;split
     · rename_i h2;obtain⟨n1,aR⟩: ∃n1,s.frm[1]?=some n1:=⟨_,gG C⟩
       have a0:=(bU (T.tab 1 n1 aR)).1;have a2:b.frm.getD 1 [] =n1:=by rw[T.frm,List.getD_eq_getElem?_getD,aR];rfl
       have bh:=h.few _ a0;rw[a2];refine Nat.le_trans (kY (k:=30) (fun x hx=> ?_)) C;rw[lM];have:=(rq h.db a0 x (bo x b.wh)).2.2.1;omega
     · omega
   · have hx:x∈jM c ps b:=hx;rw[jM,ar] at hx;have:=s2 x hx;omega
 · unfold cK;repeat' split
   all_goals first|exact my _ _|exact absurd (by assumption) h7
def vH: ∀(l:List A9) {c:B0} {ps:List Pg} {r:D3} {i:Int} {x:B0×List Pg×D3},(∃D,EI c ps D)->(∀s∈l,D8 s)->ym r->ib c ps r i l= .ok x->ym x.2.2
 | [],c,ps,r,i,x,_,_,h,T=>by
   rw[ib] at T;cases T;exact h
 |s::l,c,ps,r,i,x,⟨D,hd⟩,hs,h,T=>by
  rw[ib] at T;split at T
  · cases T
  split at T
  · cases T
  rename_i h1 _;have hb:aJ c s=((aJ c s).1,0):=Prod.ext U (Decidable.not_not.1 h1);exact vH l (rN hd hb) (fun s' ad=>hs s' (List.mem_cons_of_mem _ ad)) (Fl hd (hs s (List.mem_cons_self ..)) hb) T
def Bs{g:C0}(h:B6 g)(x:Str):ym (fz g x).2:=by
 unfold fz;split
 · exact my _ _
 split
 · exact my _ _
 split
 · exact my _ _
 · rename_i r hr;exact vH _ h.db (ut x) (my _ _) hr
variable [C3]
end Go.Proofs.Y
namespace Go.Proofs.Y
open Go.Abs Go.Proofs.Tryz
attribute [local irreducible] L Code.wp bodyPost Exit.then Exit.inBlock
def D3.c(r:D3):List IV:= [I r.code,I r.n,.sl (r.rows.map ai)]
def gQ:C0->List Str->List D3
 |_,[] => []
 |g,x::l=>(fz g x).2::gQ (fz g x).1 l
def oZ: ∀(l:List Str) (g:C0),(gQ g l).length=l.length
 | [],_=>rfl
 |x::l,g=>by rw[gQ,lC,lC,oZ l]
def uA: ∀(l:List Str) (k:Nat) (g:C0),gQ g (l.take k)=(gQ g l).take k
 | [],k,g=>by simp[gQ]
 |x::l,0,g=>by simp[gQ]
 |x::l,k+1,g=>by rw[List.take_succ_cons,gQ,gQ,List.take_succ_cons,uA l k]
def As: ∀(l:List Str) {g:C0},B6 g-> ∀r∈gQ g l,ym r
 | [],_,_,r,h=>by cases h
 |x::l,g,T,r,h=>by
  rcases List.mem_cons.1 h with rfl|h
  · exact Bs T x
  · exact As l (la T x) r h
def MW(l:List D3): ∀e∈l.map D3.c,e.length=3:=fun e he=>by obtain⟨y,_,rfl⟩:=mM he;rfl
section
variable [C3]
def Ef(l:List Str)(hl:l.length<=150):CallG cH prog 36 [.iv (.sl (l.map Str.c))] [] [] [] (.tup [.iv (.sl ((gQ eng0 l).map D3.c)),aI 0]):=by
 have kn:=Er (gs:=cH);generalize hZ:gQ eng0 l=Z;have q0:decide ((150:Int)<((l.map Str.c).length:Int))=false:=decide_eq_false (by rw[lM];omega);refine iG func36 ntmps36 (fun w0 E0 hG=> ?_);(repeat' first|intro hb hp|refine ac [1010] rfl hG kn .nil .nil rfl rfl rfl rfl ?_|refine am ?_|refine al ?_ ?_|fail)
 refine L.adopt 5 (s:=5) (t:=69) (k:=3) U U U ?_;refine ae (ι:=Nat×C0×List D3) (fun i=>⟨[(14,aI (i.1:Int)),(13,aI ((l.map Str.c).length:Int)),(12,.iv (.sl (l.map Str.c))),(5,.row 5 (i.2.2.map D3.c)),(4,.ptr 1010 0)],[(1010,i.2.1.b)],[(5,⟨69,3⟩)]⟩) (fun i=>l.length - i.1) (fun i=>B6 i.2.1/\i.2.2.length=i.1/\i.2.2++gQ i.2.1 (l.drop i.1)=Z) (i0:=(0,eng0,[])) ?_ ⟨tW,rfl,hZ⟩ ?_
 · exact Wk.mk' kK (wG (wG (wG F2))) B1 (.cons U .nil)
 rintro ⟨i,g,out⟩ ⟨hg,ad,hJ⟩ K hK;dsimp only at hg ad hJ hK;cases hx:l[i]? with
 |none=>
  have ar:=gc (l:=l.map Str.c) (bz hx);rw[dL (gO hx),gQ,List.append_nil] at hJ;subst hJ;clear hK;refine wz ?_;all_goals exact L.ends U U (Sub.tup (.cons (Sub.row _ _) (.cons sE .nil))) wK
 |some x=>
  have ar:=fZ (l:=l.map Str.c) (cM (f:=Str.c) hx);have a1:=fM hx;have g1:(l.map Str.c)[((i:Nat):Int).toNat]?=some [S x]:=by rw[iN,gP,hx];rfl
  have aR:l.drop i=x::l.drop (i+1):=fu hx;rw[aR,gQ] at hJ;have kd:=oI g hg x;have a0:=la hg x;have n1:(out++ [(fz g x).2]).map D3.c=out.map D3.c++ [[I (fz g x).2.code,I (fz g x).2.n,.sl ((fz g x).2.rows.map ai)]]:=by rw[pA];rfl
  have l1:(out.map D3.c).length=i:=by rw[lM];exact ad
  have k1:=MW out;generalize out.map D3.c=es at*
  (repeat' first|intro hb hp|refine ac [] rfl hG kd fS B1 rfl rfl rfl rfl ?_|(refine LW.is ?_;first|refine bJ U U U U k1 (by first|exact T U|exact bB U bV) (by simp[maxLen,ah,l1];omega) (by simp[ah,l1];omega) U U ?_)|refine am ?_|refine al ?_ ?_|fail)
  refine L.onlyS [14,13,12,5,4] [1010] U ?_;refine L.retok 5 23 5 U U U U ?_;exact hK _ (i+1,(fz g x).1,out++ [(fz g x).2]) ⟨a0,by dsimp only;rw[gV,ad];rfl,by dsimp only;rw[List.append_assoc];exact hJ⟩ oD (Wk.mk' kK (wG (wF (wF (.cons U (Sub.of_eq (congrArg (AV.row 5) n1.symm)) F1)))) B1 (.cons U .nil))
end
def Jt(k:Int)(n:Nat):0<=(k.tmod ((n:Int)+1)+(n:Int)+1).tmod ((n:Int)+1)/\(k.tmod ((n:Int)+1)+(n:Int)+1).tmod ((n:Int)+1)<=(n:Int):=by
 have h0:(0:Int)<(n:Int)+1:=C;have h1:=Int.lt_tmod_of_pos k h0;have h2:=Int.tmod_lt_of_pos (k.tmod ((n:Int)+1)+(n:Int)+1) h0;have h3:=Int.tmod_nonneg ((n:Int)+1) (show 0<=k.tmod ((n:Int)+1)+(n:Int)+1 by omega);exact⟨h3,by omega⟩
variable [C3]
def zX(l:List Str)(hl:l.length<=140737488355328)(k:Int)(a1: -9223372036854775808<=k)(a2:k<=9223372036854775807):CallG cH prog 11 [.iv (.sl (l.map Str.c)),aI k] [] [] [] (aB true):=by
 have ka:=FU;refine iG func11 ntmps11 (fun w0 E0 hG=> ?_);have a3:((l.map Str.c).length:Int)=(l.length:Int):=by rw[lM]
 by_cases a4:40<l.length
 · have q:decide ((40:Int)<((l.map Str.c).length:Int))=true:=decide_eq_true C;refine wz ?_;all_goals exact L.ends U U sE wK
 have q:decide ((40:Int)<((l.map Str.c).length:Int))=false:=decide_eq_false C;have hr:=Jt k (l.map Str.c).length;have b1:=Int.lt_tmod_of_pos k (show(0:Int)<((l.map Str.c).length:Int)+1 by omega);have b2:=Int.tmod_lt_of_pos k (show(0:Int)<((l.map Str.c).length:Int)+1 by omega);have p0:(0:Int)<((l.map Str.c).length:Int)+1:=C;obtain⟨m,hm⟩: ∃m:Nat,(k.tmod (((l.map Str.c).length:Int)+1)+((l.map Str.c).length:Int)+1).tmod (((l.map Str.c).length:Int)+1)=(m:Int):=⟨_,(Int.toNat_of_nonneg hr.1).symm⟩
 rw[hm] at hr;have k1:=Ef l C;have k2:=Ef (l.take m) (by rw[lT];omega);have ar:(l.map Str.c).take ((m:Int)).toNat=(l.take m).map Str.c:=by rw[iN,List.map_take]
 have aR:(m:Int)<=((l.map Str.c).length:Int):=hr.2;have s1: ∀e∈l.map Str.c,e.length=1:=fun e he=>by obtain⟨y,_,rfl⟩:=mM he;rfl
 have s2: ∀e∈(l.take m).map Str.c,e.length=1:=fun e he=>by obtain⟨y,_,rfl⟩:=mM he;rfl
 have q1:((((gQ eng0 l).map D3.c).length:Int) !=((l.map Str.c).length:Int))=false:=by simp[oZ]
 have q2:((((gQ eng0 (l.take m)).map D3.c).length:Int) !=(m:Int))=false:=by
  rw[lM,oZ,lT];simp;omega
 have a5:((((gQ eng0 (l.take m)).map D3.c).length:Int) !=(k.tmod (((l.map Str.c).length:Int)+1)+((l.map Str.c).length:Int)+1).tmod (((l.map Str.c).length:Int)+1))=false:=by rw[hm];exact q2
 have T:=As l tW;have ht:=uA l m eng0;have a6:=oZ l eng0;generalize gQ eng0 l=R at*
 generalize gQ eng0 (l.take m)=R2 at*
 have z1:(l.map Str.c).length<=40:=C;have z2:((l.take m).map Str.c).length<=40:=by rw[lM,lT];omega
 (repeat' first|intro hb hp|refine sK rfl rfl rfl (by first|exact s1|exact s2) (by rw[fJ];omega) C U ?_|refine dK (ha:=rfl) U hG k1 U ?_|refine dK (ha:=rfl) U hG k2 U ?_|(refine LW.is ?_;first|refine ag U (ez U (congrArg (fun k:Int=>AV.iv (I k)) hm) s1 C aR ar) ?_|refine ag U (iU U U C C) ?_)|refine am ?_|refine al ?_ ?_|fail)
 refine ae (ι:=Nat) (fun i=>⟨[(9,aI (i:Int)),(1,aI (m:Int)),(5,.iv (.sl (R.map D3.c))),(7,.iv (.sl (R2.map D3.c)))],[],[]⟩) (fun i=>m - i) (fun i=>True) (i0:=0) ?_ trivial ?_
 · exact Wk.mk' kK (wG (.cons U (Sub.of_eq (congrArg (fun k:Int=>AV.iv (I k)) hm)) F2)) .nil .nil
 intro i _ K hK;by_cases h:i<m
 · have q3:decide ((i:Int)<(m:Int))=true:=decide_eq_true C;obtain⟨r,hx⟩: ∃r,R[i]?=some r:=⟨_,gG C⟩
   have a0:R2[i]?=some r:=by rw[ht,List.getElem?_take,if_pos h];exact hx
   have g1:(R.map D3.c)[((i:Nat):Int).toNat]?=some [I r.code,I r.n,.sl (r.rows.map ai)]:=by rw[iN,gP,hx];rfl
   have g2:(R2.map D3.c)[((i:Nat):Int).toNat]?=some [I r.code,I r.n,.sl (r.rows.map ai)]:=by rw[iN,gP,a0];rfl
   have ad:=T r (gE hx);have kr:=sameReply_any r (by have:=ad.1;omega) (fun y hy=>by have:=ad.2 y hy;omega);clear k1 k2 T ka;refine wz ?_;exact hK _ (i+1) trivial C wL
 · have q3:decide ((i:Int)<(m:Int))=false:=decide_eq_false C;clear hK k1 k2 ka;refine wz ?_;all_goals exact L.ends U U sE wK
end Go.Proofs.Y
