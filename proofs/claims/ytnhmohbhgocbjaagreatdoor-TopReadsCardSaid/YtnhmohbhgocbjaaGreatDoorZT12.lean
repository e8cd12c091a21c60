/- Lemmas towards the law. Conditions: each one says its own. -/
import Derived.Test.YtnhmohbhgocbjaaGreatDoorZT11
set_option linter.all false
set_option maxHeartbeats 64000000
set_option maxRecDepth 100000
namespace Go.Proofs.Y
open Go.Abs Go.Proofs.Tryz
attribute [local irreducible] L Code.wp bodyPost Exit.then Exit.inBlock
def CB(K:Nat):List (List Val)→List (Nat×Box)
 | [] => []
 |x::l=> [(K,⟨35,.r ((x::l).map ai).flatten 0⟩)]
def Fc(K:Nat):List (List Val)→AV
 | [] => .nils
 |x::l=> .bsh K 0 (l.length+1) 1
def rZ(ps:List Pg)(t:Tab)(w:Way)(hps:ps.length≤1000000000000)(hsm:ta ps)(htn:t.n.length≤140737488355328)(hwi:w.i.length≤140737488355328):
 CallA prog 27 [.agg [.iv (.sl (ps.map Pg.c))],.agg (t.c.map .iv),.agg (w.c.map .iv)] [] (CB 1000 (ci ps t w)) [] (Fc 1000 (ci ps t w)):=by
 have kr:=xK ps w.lo w.hi C;have hR: ∀x∈dH ps w.lo w.hi,x.1.length≤4398046511104∧x.2.length≤4398046511104:=fun x hx=>hsm x (xG hx)
 have hl:=xH ps w.lo w.hi;unfold ci;generalize dH ps w.lo w.hi=R at*
 refine iA func27 ntmps27 (fun w0 E0=> ?_);refine wz ?_;refine ae (ι:=Nat×List (List Val)) (fun i=>⟨[(28,aI (i.1:Int)),(27,aI ((R.map fun x=>Str.c x.1).length:Int)),(7,.iv (.sl (R.map fun x=>Str.c x.1))),(8,.iv (.sl (R.map fun x=>Str.c x.2))),(9,Fc 1000 i.2),(3,.ptr 3 0),(4,.ptr 4 0),(5,.ptr 5 0)],(3,⟨51,.l [.iv (.sl (ps.map Pg.c))]⟩)::(4,⟨57,.l [aS t.n,.iv (.sl (t.cols.map Col.c))]⟩)::(5,⟨60,.l [aS w.i,aS w.lo,aS w.hi]⟩)::CB 1000 i.2,[]⟩) (fun i=>R.length - i.1) (fun i=>(R.take i.1).filterMap (fv ps t w)=i.2) (i0:=(0,[])) ?_ U ?_
 · exact df
 rintro ⟨i,F⟩ hI K hK;dsimp only at hI hK;cases hx:R[i]? with
 |none=>
  have hlt:=fa (l:=R.map fun x=>Str.c x.1) (bf hx);rw[bc hx] at hI;rw[hI];clear hI;rcases F with _|⟨y,l⟩
  all_goals(repeat' first|intro hb hp|refine am ?_|refine ak ?_ ?_|fail)
  · exact L.ends U U fR wK
  · exact L.ends U U fR wK
 |some x=>
  have hlt:=eZ (l:=R.map fun x=>Str.c x.1) (cq (f:=fun x=>Str.c x.1) hx);have hlt':=eP hx;have g1:(R.map fun x=>Str.c x.1)[((i:Nat):Int).toNat]?=some [S x.1]:=by rw[iN,gP,hx];rfl
  have g2:(R.map fun x=>Str.c x.2)[((i:Nat):Int).toNat]?=some [S x.2]:=by rw[iN,gP,hx];rfl
  have hst:=oJ (fv ps t w) hx;have hfl:=pU (fv ps t w) R i;obtain⟨hx1,hx2⟩:=hR x (gE hx);rw[hI] at hst hfl;clear hI;by_cases hw:w.i= []
  · have q1:(!(w.i== []))=false:=by rw[hw];rfl
    have hp:fv ps t w x=dh t x.2:=by rw[fv,if_pos hw]
    rw[hp] at hst;have kv:=mu x.2 C;cases hu:dz (x.2) with
    |none=>
     rw[show dB (x.2)=([],1) by rw[dB,hu]] at kv;rw[show dh t (x.2)=none by rw[dh,hu]] at hst;rcases F with _|⟨y,l⟩
     all_goals(repeat' first|intro hb hp|refine am ?_|refine ak ?_ ?_|fail)
     all_goals refine hK _ (i+1,_) (hst.trans (List.append_nil _)) oD ?_
     all_goals exact df
    |some r=>
     rw[show dB (x.2)=(r,0) by rw[dB,hu]] at kv;by_cases hrl:r.length=t.cols.length
     · have q3:((((r.map Val.c).length:Nat):Int)==(((t.cols.map Col.c).length:Nat):Int))=true:=by simp[hrl]
       rw[show dh t (x.2)=some r by rw[dh,hu];exact if_pos hrl] at hst;rcases F with _|⟨y,l⟩
       all_goals(repeat' first|intro hb hp|(refine LW.is ?_;first|refine od 1000 (news:= [ai r]) U U U (cK U) (cN _ _) (by simp[maxLen]) sP U ?_|apply eY 1004 (es:=(y::l).map ai) (n:=l.length+1) (news:= [ai r]) (er:=(y::l++ [r]).map ai) (nr:=(y::l++ [r]).length);rfl;rfl;rfl;rfl;exact .inl (row_ne (f:=ai) (k:=1) (fun _=>rfl) dD (cN y l));exact dU (f:=ai) (k:=1) (fun _=>rfl) (y::l);exact cK U;exact(by rw[lM];exact Nat.le_refl _);exact cN _ _;exact(by rw[fC];simp at hfl⊢;omega);exact(by simp at hfl⊢;omega);rfl;exact ij (y::l) r;exact sP)|refine am ?_|refine ak ?_ ?_|fail)
       · refine hK _ (i+1,[r]) hst oD ?_;exact df
       · refine gK [(1000,1004)] U U U U ?_;refine hK _ (i+1,y::l++ [r]) hst oD ?_;exact df
     · have q3:((((r.map Val.c).length:Nat):Int)==(((t.cols.map Col.c).length:Nat):Int))=false:=by simp;omega
       rw[show dh t (x.2)=none by rw[dh,hu];exact if_neg hrl] at hst;rcases F with _|⟨y,l⟩
       all_goals(repeat' first|intro hb hp|refine am ?_|refine ak ?_ ?_|fail)
       all_goals refine hK _ (i+1,_) (hst.trans (List.append_nil _)) oD ?_
       all_goals exact df
  · have q1:(!(w.i== []))=true:=by simp[hw]
    have ke:=lV w.i hwi;have kv:=mu (x.1.drop (if(x.1.length:Int)<((aO w.i).length:Int) then(x.1.length:Int) else((aO w.i).length:Int)).toNat) (by rw[lD];omega);have d0:0≤(if(x.1.length:Int)<((aO w.i).length:Int) then(x.1.length:Int) else((aO w.i).length:Int)):=by split<;>omega
    have d1:(if(x.1.length:Int)<((aO w.i).length:Int) then(x.1.length:Int) else((aO w.i).length:Int))≤(x.1.length:Int):=by split<;>omega
    have hp:fv ps t w x=match qz w x.1 with|some l=>dh t (getM ps (ap t.n (l.getD 1 af))).1|none=>none:=by rw[fv,if_neg hw];rfl
    rw[hp,qz] at hst;generalize hdr:x.1.drop (if(x.1.length:Int)<((aO w.i).length:Int) then(x.1.length:Int) else((aO w.i).length:Int)).toNat=dr at*
    cases hv:dz dr with
    |none=>
     rw[show dB dr=([],1) by rw[dB,hv]] at kv;rw[hv] at hst;rcases F with _|⟨y,l⟩
     all_goals(repeat' first|intro hb hp|refine DR.is (bk U (bq U U d0 d1 hdr) ?_)|refine am ?_|refine ak ?_ ?_|fail)
     all_goals refine hK _ (i+1,_) (hst.trans (List.append_nil _)) oD ?_
     all_goals exact df
    |some l=>
     rw[show dB dr=(l,0) by rw[dB,hv]] at kv;rw[hv] at hst;by_cases hl2:l.length=2
     · have hst:(R.take (i+1)).filterMap (fv ps t w)=F++(dh t (getM ps (ap t.n (l.getD 1 af))).1).toList:=by rw[hst];simp only[if_pos hl2]
       have q2:((((l.map Val.c).length:Nat):Int) !=2)=false:=by simp[hl2]
       have g5:(l.map Val.c)[(1:Int).toNat]?=some [I (l.getD 1 af).k,I (l.getD 1 af).n,S (l.getD 1 af).s]:=by rw[show(1:Int).toNat=1 from rfl,gP,cV af (show 1<l.length by omega)];rfl
       have kk:=jb t.n (l.getD 1 af) htn;have kg:=zL ps (ap t.n (l.getD 1 af)) C;have hsz:(getM ps (ap t.n (l.getD 1 af))).1.length≤4398046511104:=by
        rcases Fb ps (ap t.n (l.getD 1 af)) with h|⟨y,hy,h⟩
        · rw[h];simp
        · rw[←h];exact(hsm y hy).2
       generalize l.getD 1 af=id at*
       generalize getM ps (ap t.n id)=gt at*
       obtain⟨gs,gb⟩:=gt;dsimp only at hst hsz kg;have kw:=mu gs C;cases hu:dz (gs) with
       |none=>
        rw[show dB (gs)=([],1) by rw[dB,hu]] at kw;rw[show dh t (gs)=none by rw[dh,hu]] at hst;rcases F with _|⟨y,l⟩
        all_goals(repeat' first|intro hb hp|refine DR.is (bk U (bq U U d0 d1 hdr) ?_)|refine am ?_|refine ak ?_ ?_|fail)
        all_goals refine hK _ (i+1,_) (hst.trans (List.append_nil _)) oD ?_
        all_goals exact df
       |some r=>
        rw[show dB (gs)=(r,0) by rw[dB,hu]] at kw;by_cases hrl:r.length=t.cols.length
        · have q3:((((r.map Val.c).length:Nat):Int)==(((t.cols.map Col.c).length:Nat):Int))=true:=by simp[hrl]
          rw[show dh t (gs)=some r by rw[dh,hu];exact if_pos hrl] at hst;rcases F with _|⟨y,l⟩
          all_goals(repeat' first|intro hb hp|(refine LW.is ?_;first|refine od 1000 (news:= [ai r]) U U U (cK U) (cN _ _) (by simp[maxLen]) sP U ?_|apply eY 1004 (es:=(y::l).map ai) (n:=l.length+1) (news:= [ai r]) (er:=(y::l++ [r]).map ai) (nr:=(y::l++ [r]).length);rfl;rfl;rfl;rfl;exact .inl (row_ne (f:=ai) (k:=1) (fun _=>rfl) dD (cN y l));exact dU (f:=ai) (k:=1) (fun _=>rfl) (y::l);exact cK U;exact(by rw[lM];exact Nat.le_refl _);exact cN _ _;exact(by rw[fC];simp at hfl⊢;omega);exact(by simp at hfl⊢;omega);rfl;exact ij (y::l) r;exact sP)|refine DR.is (bk U (bq U U d0 d1 hdr) ?_)|refine am ?_|refine ak ?_ ?_|fail)
          · refine hK _ (i+1,[r]) hst oD ?_;exact df
          · refine gK [(1000,1004)] U U U U ?_;refine hK _ (i+1,y::l++ [r]) hst oD ?_;exact df
        · have q3:((((r.map Val.c).length:Nat):Int)==(((t.cols.map Col.c).length:Nat):Int))=false:=by simp;omega
          rw[show dh t (gs)=none by rw[dh,hu];exact if_neg hrl] at hst;rcases F with _|⟨y,l⟩
          all_goals(repeat' first|intro hb hp|refine DR.is (bk U (bq U U d0 d1 hdr) ?_)|refine am ?_|refine ak ?_ ?_|fail)
          all_goals refine hK _ (i+1,_) (hst.trans (List.append_nil _)) oD ?_
          all_goals exact df
     · have hst:(R.take (i+1)).filterMap (fv ps t w)=F++(none:Option (List Val)).toList:=by rw[hst];simp only[if_neg hl2]
       have q2:((((l.map Val.c).length:Nat):Int) !=2)=true:=by simp;omega
       rcases F with _|⟨y,l⟩
       all_goals(repeat' first|intro hb hp|refine DR.is (bk U (bq U U d0 d1 hdr) ?_)|refine am ?_|refine ak ?_ ?_|fail)
       all_goals refine hK _ (i+1,_) (hst.trans (List.append_nil _)) oD ?_
       all_goals exact df
abbrev bv(l:List (List Val)):Box:=⟨35,.r (l.map ai).flatten 0⟩
def jD(l:List (List Val)): ∀e∈l.map ai,e.length=1:=dU (f:=ai) (k:=1) (fun _=>rfl) l
def pr{l:List (List Val)}{i:Nat}{x:List Val}(h:l[i]?=some x):(l.map ai)[i]?=some [.sl (x.map Val.c)]:=by rw[gP,h];rfl
def JA{l:List (List Val)}{i:Nat}{x:List Val}:(l.map ai).set i [.sl (x.map Val.c)] =(l.set i x).map ai:=by rw[List.map_set];rfl
def nN{i:Int}{k:Nat}(h:i=(k:Int)):(0+i.toNat)*1=k:=by subst h;simp
def lG{l:List (List Val)}(h:l≠ []):(l.map ai).flatten≠ []:=row_ne (f:=ai) (k:=1) (fun _=>rfl) dD h
def gq{l:List (List Val)}{b:Box}(h:l≠ []):dW [] [(1000,bv l)] [(1000,b)] =true:=by
 have:=lG h;cases hq:(l.map ai).flatten with
 |nil=>exact absurd hq this
 |cons x xs=>simp only[dW,keys,bv,hq];rfl
def cZ{L:List Nat}{l:List (List Val)}{id:Nat}: [(id,bv l)].all (fun p=>AV.mentsIn L p.2.cs)=true:=by
 simp only[List.all_cons,List.all_nil,Bool.and_true,Box.cs_r,List.replicate_zero,List.append_nil];exact AV.mentsIn_iv _ _
def lZ{gs:au}(l:List (List Val))(a b k:Nat)(h1:a+k≤b)(h2:b+k≤l.length)(hn:l.length≤1000000)(hne:l≠ []):CallG gs prog 243 [.bsh 1000 0 l.length 1,aI a,aI b,aI k,.any] [(1000,bv l)] [(1000,bv (AB l a b k))] [] (.tup []):=by
 refine iG func243 ntmps243 (fun w0 E0 hG=> ?_);refine wz ?_;refine ae (ι:=Nat) (fun i=>⟨[(10,aI (i:Int)),(0,.bsh 1000 0 l.length 1),(1,aI a),(2,aI b),(3,aI k)],[(1000,bv (AB l a b i))],[]⟩) (fun i=>k - i) (fun i=>i≤k) (i0:=0) ?_ (Nat.zero_le _) ?_
 · rw[Hr C C];exact Wk.mkX ay F5 (fun s v h=>h) .nil
 intro i hi K hK;by_cases hk:i<k
 · have q:decide ((i:Int)<(k:Int))=true:=decide_eq_true C;obtain⟨x,hx⟩: ∃x,l[a+i]?=some x:=⟨_,gG C⟩
   obtain⟨y,hy⟩: ∃y,l[b+i]?=some y:=⟨_,gG C⟩
   have hst:=Hs (l:=l) (a:=a) (b:=b) (k:=i) C C hx hy;have hl:=pc (l:=l) (a:=a) (b:=b) (k:=i) C C;have gx:(AB l a b i)[a+i]?=some x:=by rw[lE C C,if_neg C,if_neg C,hx]
   have gy:(AB l a b i)[b+i]?=some y:=by rw[lE C C,if_neg C,if_neg C,hy]
   generalize AB l a b i=c at*
   have g2:(c.set (a+i) y)[b+i]?=some y:=by rw[List.getElem?_set_ne C,gy]
   have o1:(0+((a:Int)+(i:Int)).toNat)*1=a+i:=nN C;have o2:(0+((b:Int)+(i:Int)).toNat)*1=b+i:=nN C;have b1:((a:Int)+(i:Int))<(l.length:Int):=C;have b2:((b:Int)+(i:Int))<(l.length:Int):=C;have p1:(0:Int)≤(a:Int)+(i:Int):=C;have p2:(0:Int)≤(b:Int)+(i:Int):=C;(repeat' first|intro hb hp|(refine DR.is ?_;first|apply bk;rfl;apply az;rfl;rfl;(first|exact p1|exact p2);(first|exact b1|exact b2);(first|exact o1|exact o2)|apply bk;rfl;apply aZ (es:=c.map ai) (k:=1) (i:=b+i) (f:=0);rfl;rfl;exact jD c;exact C;exact pr gy;rfl|apply bk;rfl;apply aZ (es:=c.map ai) (k:=1) (i:=a+i) (f:=0);rfl;rfl;exact jD c;exact C;exact pr gx;rfl|(apply dV (es:=c.map ai) (i:=a+i) (e:= [.sl (y.map Val.c)]) (er:=(c.set (a+i) y).map ai);rfl;rfl;rfl;rfl;rfl;rfl;exact jD c;exact C;exact(by rw[lM];first|omega|(rw[List.length_set];omega));exact JA)|(apply dV (es:=(c.set (a+i) y).map ai) (i:=b+i) (e:= [.sl (x.map Val.c)]) (er:=((c.set (a+i) y).set (b+i) x).map ai);rfl;rfl;rfl;rfl;rfl;rfl;exact jD (c.set (a+i) y);exact C;exact(by rw[lM];first|omega|(rw[List.length_set];omega));exact JA))|refine am ?_|refine ak ?_ ?_|fail)
   rw[hst];refine hK _ (i+1) hk C ?_;exact Wk.mk' kK F5 B1 .nil
 · have q:decide ((i:Int)<(k:Int))=false:=decide_eq_false C;have e:i=k:=C;subst e;refine wz ?_;apply aM;rfl;rfl;exact Wk.mk' kK .nil B1 .nil;rfl
def uW{gs:au}(l:List (List Val))(a m b:Nat)(h1:a<m)(h2:m<b)(h3:b≤l.length)(hn:l.length≤1000000):CallG gs prog 229 [.bsh 1000 0 l.length 1,aI a,aI m,aI b,.any] [(1000,bv l)] [(1000,bv (dY l a m b))] [] (.tup []):=by
 refine iG func229 ntmps229 (fun w0 E0 hG=> ?_);refine wz ?_;refine ae (ι:=Nat×Nat×List (List Val)) (fun i=>⟨[(10,aI (i.1:Int)),(11,aI (i.2.1:Int)),(0,.bsh 1000 0 l.length 1),(2,aI m),(4,.any)],[(1000,bv i.2.2)],[]⟩) (fun i=>i.1+i.2.1) (fun i=>dY i.2.2 (m - i.1) m (m+i.2.1)=dY l a m b∧i.2.2.length=l.length∧0<i.1∧0<i.2.1∧i.1≤m∧m+i.2.1≤l.length) (i0:=(m - a,b - m,l)) ?_ ⟨by dsimp only;rw[show m - (m - a)=a by omega,show m+(b - m)=b by omega],rfl,by dsimp only;omega,by dsimp only;omega,by dsimp only;omega,by dsimp only;omega⟩ ?_
 · refine Wk.mkX ay (.cons rfl (Sub.of_eq ?_) (.cons rfl (Sub.of_eq ?_) F3)) (fun s v h=>h) .nil
   · show aI ((m:Int) - (a:Int))=aI ((m - a:Nat):Int);congr 3;omega
   · show aI ((b:Int) - (m:Int))=aI ((b - m:Nat):Int);congr 3;omega
 rintro ⟨i,j,c⟩ ⟨hR,hcl,hi,hj,him,hjm⟩ K hK;dsimp only at hR hcl hi hj him hjm;have hcn:c≠ []:=fun e=>by rw[e] at hcl;simp at hcl;omega
 rw[←hcl];by_cases hij:i=j
 · have q:((i:Int) !=(j:Int))=false:=by simp[hij]
   subst hij;have k:=lZ (gs:=gs) c (m - i) m i C C C hcn;rw[show((m - i:Nat):Int)=(m:Int) - (i:Int) by omega,LY him C,hR] at k;(repeat' first|intro hb hp|apply ac [];rfl;exact hG;exact k;exact(.cons fR (.cons fR (.cons fR (.cons fR (.cons (Sub.any _) .nil)))));exact B1;rfl;exact gq hcn;exact cZ;rfl|refine am ?_|refine ak ?_ ?_|fail)
   apply aM;rfl;rfl;exact Wk.mk' kK .nil B1 .nil;rfl
 have q:((i:Int) !=(j:Int))=true:=by simp;omega
 by_cases hg:j<i
 · have q2:decide ((j:Int)<(i:Int))=true:=decide_eq_true C;have k:=lZ (gs:=gs) c (m - i) m j C C C hcn;have hl:=pc (l:=c) (a:=m - i) (b:=m) (k:=j) C C;rw[show((m - i:Nat):Int)=(m:Int) - (i:Int) by omega] at k;rw[←LX hg him C] at hR;generalize AB c (m - i) m j=c' at*
   (repeat' first|intro hb hp|apply ac [];rfl;exact hG;exact k;exact(.cons fR (.cons fR (.cons fR (.cons fR (.cons (Sub.any _) .nil)))));exact B1;rfl;exact gq hcn;exact cZ;rfl|refine am ?_|refine ak ?_ ?_|fail)
   refine hK _ (i - j,j,c') ⟨hR,by dsimp only;omega,by dsimp only;omega,hj,by dsimp only;omega,by dsimp only;omega⟩ oD ?_;refine Wk.mk' kK (.cons rfl (Sub.of_eq ?_) (wF (.cons rfl (Sub.of_eq (by rw[hcl])) F2))) B1 .nil;show aI ((i:Int) - (j:Int))=aI ((i - j:Nat):Int);congr 3;omega
 · have q2:decide ((j:Int)<(i:Int))=false:=decide_eq_false C;have k:=lZ (gs:=gs) c (m - i) (m+j - i) i C C C hcn;have hl:=pc (l:=c) (a:=m - i) (b:=m+j - i) (k:=i) C C;rw[show((m - i:Nat):Int)=(m:Int) - (i:Int) by omega,show((m+j - i:Nat):Int)=(m:Int)+(j:Int) - (i:Int) by omega] at k;rw[←LU (show i<j by omega) him C] at hR;generalize AB c (m - i) (m+j - i) i=c' at*
   (repeat' first|intro hb hp|apply ac [];rfl;exact hG;exact k;exact(.cons fR (.cons fR (.cons fR (.cons fR (.cons (Sub.any _) .nil)))));exact B1;rfl;exact gq hcn;exact cZ;rfl|refine am ?_|refine ak ?_ ?_|fail)
   refine hK _ (i,j - i,c') ⟨hR,by dsimp only;omega,hi,by dsimp only;omega,him,by dsimp only;omega⟩ oD ?_;refine Wk.mk' kK (wF (.cons rfl (Sub.of_eq ?_) (.cons rfl (Sub.of_eq (by rw[hcl])) F2))) B1 .nil;show aI ((j:Int) - (i:Int))=aI ((j - i:Nat):Int);congr 3;omega
abbrev fO:FuncId:=131
abbrev eu:List AV:= [.ptr 1011 0,.ptr 1012 0,.ptr 1013 0]
abbrev iU(s:Stm)(t:Tab):List (Nat×Box):= [(1011,⟨23,.l [.any]⟩),(1012,⟨80,.l (s.cs.map .iv)⟩),(1013,⟨57,.l (t.c.map .iv)⟩)]
def mn{s:Stm}{t:Tab}:dW [] (iU s t) (iU s t)=true:=rfl
def ml{s:Stm}{t:Tab}:(iU s t).all (fun p=>AV.mentsIn ([] ++keys (iU s t)) p.2.cs)=true:=by simp[keys,Stm.cs,Tab.c,AV.mentsIn,AV.mentIn]
def cm{s:Stm}{t:Tab}{l:List (List Val)}{b:Box}(h:l≠ []):dW [] ((1000,bv l)::iU s t) ((1000,b)::iU s t)=true:=by
 have:=lG h;cases hq:(l.map ai).flatten with
 |nil=>exact absurd hq this
 |cons x xs=>simp only[dW,keys,bv,hq];rfl
def ck{L:List Nat}{s:Stm}{t:Tab}{l:List (List Val)}:((1000,bv l)::iU s t).all (fun p=>AV.mentsIn L p.2.cs)=true:=by
 have:=cZ (L:=L) (l:=l) (id:=1000);simp only[List.all_cons,List.all_nil,Bool.and_true] at this;simp only[List.all_cons,List.all_nil,Bool.and_true,this,Bool.true_and];simp[Stm.cs,Tab.c,AV.mentsIn,AV.mentIn]
def cM(cf:List Val→List Val→Int)(x y:List Val):Bool:= !decide (cf y x<0)
def wX{gs:au}{s:Stm}{t:Tab}{cf:List Val→List Val→Int}[CallTy prog fO](l:List (List Val))(a b:Nat)(hL:Lin (cM cf) l)(h1:a≤b)(h2:b≤l.length)(hn:l.length≤1000000)
 (hc: ∀x∈l,∀y∈l,CallG gs prog fO ([.iv (.sl (x.map Val.c)),.iv (.sl (y.map Val.c))] ++eu) (iU s t) (iU s t) [] (aI (cf x y))):
 CallG gs prog 197 [.bsh 1000 0 l.length 1,aI a,aI b,.fn fO eu] ((1000,bv l)::iU s t) ((1000,bv (bL (cM cf) l a b))::iU s t) [] (.tup []):=by
 refine iG func197 ntmps197 (fun w0 E0 hG=> ?_);refine wz ?_;refine ae (ι:=Nat) (fun i=>⟨[(8,aI (i:Int)),(0,.bsh 1000 0 l.length 1),(1,aI a),(2,aI b),(3,.fn fO eu)],(1000,bv (bL (cM cf) l a i))::iU s t,[]⟩) (fun i=>b - i) (fun i=>a<i∧(i≤b∨i=a+1)) (i0:=a+1) ?_ ⟨by omega,.inr rfl⟩ ?_
 · rw[qj C C];exact Wk.mkX ay F5 (fun s v h=>h) .nil
 rintro i ⟨hi,hib⟩ K hK;by_cases hk:i<b
 · have q:decide ((i:Int)<(b:Int))=true:=decide_eq_true C;have hl:=mx (le:=cM cf) (l:=l) (a:=a) (b:=i) C C;have hs:=kH (a:=a) (b:=i) hL C C;have hm: ∀x,x∈bL (cM cf) l a i↔x∈l:=fun x=>nY C
   have hnest:bL (cM cf) (bL (cM cf) l a i) a (i+1)=bL (cM cf) l a (i+1):=Go.Abs.FC hL C C C C C;have hL':Lin (cM cf) (bL (cM cf) l a i):=⟨hL.tr,hL.tot,fun x hx y hy=>hL.anti x ((hm x).1 hx) y ((hm y).1 hy)⟩
   generalize bL (cM cf) l a i=c at*
   have hcn:c≠ []:=fun e=>by rw[e] at hl;simp at hl;omega
   obtain⟨x,hx⟩: ∃x,c[i]?=some x:=⟨_,gG C⟩
   have hxm:x∈l:=(hm x).1 (gE hx);refine wz ?_;refine ae (ι:=Nat) (fun j=>⟨[(9,aI (j:Int)),(8,aI (i:Int)),(0,.bsh 1000 0 l.length 1),(1,aI a),(2,aI b),(3,.fn fO eu)],(1000,bv (nu c i j))::iU s t,[]⟩) (fun j=>j) (fun j=>a≤j∧j≤i∧ ∀t y,j≤t→t<i→c[t]?=some y→cM cf x y=true) (i0:=i) ?_ ⟨by omega,Nat.le_refl _,fun t y h1 h2=>absurd h1 C⟩ ?_
   · rw[xY C];exact Wk.mkX (fE rfl) F6 (fun s v h=>h) .nil
   rintro j ⟨hja,hji,hhi⟩ K2 hK2;by_cases hj:a<j
   · have q2:decide ((a:Int)<(j:Int))=true:=decide_eq_true C;obtain⟨j,rfl⟩: ∃k,j=k+1:=⟨j - 1,by omega⟩
     obtain⟨y,hy⟩: ∃y,c[j]?=some y:=⟨_,gG C⟩
     have hym:y∈l:=(hm y).1 (gE hy);have hst:=xW (l:=c) (i:=i) (j:=j) hji C hx hy;have hml:=vA (l:=c) (i:=i) (j:=j+1) hji C;have gx:(nu c i (j+1))[j+1]?=some x:=by rw[ir hji C,if_pos rfl,hx]
     have gy:(nu c i (j+1))[j]?=some y:=by rw[ir hji C,if_neg C,if_neg C,hy]
     have o1:(0+((j+1:Nat):Int).toNat)*1=j+1:=nN rfl;have o2:(0+(((j+1:Nat):Int) - 1).toNat)*1=j:=nN C;have b1:((j+1:Nat):Int)<(l.length:Int):=C;have b2:(((j+1:Nat):Int) - 1)<(l.length:Int):=C;have p1:(0:Int)≤((j+1:Nat):Int):=C;have p2:(0:Int)≤((j+1:Nat):Int) - 1:=C;have kc:=hc x hxm y hym;by_cases hcf:cf x y<0
     · have q3:decide (cf x y<0)=true:=decide_eq_true hcf;generalize nu c i (j+1)=m at*
       have g2:(m.set (j+1) y)[j]?=some y:=by rw[List.getElem?_set_ne C,gy]
       (repeat' first|intro hb hp|(refine DR.is ?_;first|apply bk;rfl;apply az;rfl;rfl;(first|exact p1|exact p2);(first|exact b1|exact b2);(first|exact o1|exact o2)|apply bk;rfl;apply aZ (es:=m.map ai) (k:=1) (i:=j+1) (f:=0);rfl;rfl;exact jD m;exact C;exact pr gx;rfl|apply bk;rfl;apply aZ (es:=m.map ai) (k:=1) (i:=j) (f:=0);rfl;rfl;exact jD m;exact C;exact pr gy;rfl|apply eH (f:=fO);rfl;exact hG;rfl;exact kc;rfl;exact(.cons rfl (.cons rfl (.cons rfl .nil)));exact mn;exact ml;rfl|apply dV (es:=m.map ai) (i:=j+1) (e:= [.sl (y.map Val.c)]) (er:=(m.set (j+1) y).map ai);rfl;rfl;rfl;rfl;rfl;rfl;exact jD m;exact C;exact(by rw[lM];omega);exact JA|apply dV (es:=(m.set (j+1) y).map ai) (i:=j) (e:= [.sl (x.map Val.c)]) (er:=((m.set (j+1) y).set j x).map ai);rfl;rfl;rfl;rfl;rfl;rfl;exact jD (m.set (j+1) y);exact C;exact(by rw[lM,List.length_set];omega);exact JA)|refine am ?_|refine ak ?_ ?_|fail)
       rw[hst];refine hK2 _ j ⟨by omega,by omega,fun t z ht1 ht2 hz=> ?_⟩ C ?_
       · by_cases e:t=j
         · subst e;rw[hy] at hz;cases hz;have e1:cM cf y x=false:=by simp[cM,hcf]
           have e2:=hL.tot x y
           rwa [e1,Bool.or_false] at e2
         · exact hhi t z C ht2 hz
       refine Wk.mk' kK (.cons rfl (Sub.of_eq ?_) F5) B4 .nil;show aI (((j+1:Nat):Int) - 1)=aI (j:Int);congr 3;omega
     · have q3:decide (cf x y<0)=false:=decide_eq_false hcf;have hres:nu c i (j+1)=bL (cM cf) c a (i+1):=zE hL' hja hji C hs hx (fun t z ht1 ht2 hz=>by
        have e1:cM cf y x=true:=by simp[cM,hcf]
        by_cases e:t=j
        · subst e;rw[hy] at hz;cases hz;exact e1
        · exact hL.tr _ y _ (hs t j z y ht1 C C hz hy) e1) hhi
       rw[hnest] at hres;generalize nu c i (j+1)=m at*
       (repeat' first|intro hb hp|(refine DR.is ?_;first|apply bk;rfl;apply az;rfl;rfl;(first|exact p1|exact p2);(first|exact b1|exact b2);(first|exact o1|exact o2)|apply bk;rfl;apply aZ (es:=m.map ai) (k:=1) (i:=j+1) (f:=0);rfl;rfl;exact jD m;exact C;exact pr gx;rfl|apply bk;rfl;apply aZ (es:=m.map ai) (k:=1) (i:=j) (f:=0);rfl;rfl;exact jD m;exact C;exact pr gy;rfl|apply eH (f:=fO);rfl;exact hG;rfl;exact kc;rfl;exact(.cons rfl (.cons rfl (.cons rfl .nil)));exact mn;exact ml;rfl)|refine am ?_|refine ak ?_ ?_|fail)
       rw[hres];refine hK _ (i+1) ⟨by omega,.inl hk⟩ C ?_;exact Wk.mk' kK F5 B4 .nil
   · have q2:decide ((a:Int)<(j:Int))=false:=decide_eq_false C;have ej:j=a:=C;subst ej;have hres:nu c i j=bL (cM cf) c j (i+1):=zE hL' nR hji C hs hx (fun t z ht1 ht2 hz=>absurd ht1 C) hhi;rw[hnest] at hres;refine wz ?_;rw[hres];refine hK _ (i+1) ⟨by omega,.inl hk⟩ C ?_;exact Wk.mk' kK F5 B4 .nil
 · have q:decide ((i:Int)<(b:Int))=false:=decide_eq_false C;have e:bL (cM cf) l a i=bL (cM cf) l a b:=by
    by_cases e:i=b
    · rw[e]
    · rw[qj C C,qj C C]
   rw[e];refine wz ?_;apply aM;rfl;rfl;exact Wk.mk' kK .nil B4 .nil;rfl
end Go.Proofs.Y
namespace Go.Abs
def jm{P:Program}{c:Ctx}{ops:Array Oper}{Q:Exit→Act→World→Prop}{rest:List Oper}{fr:List (Nat×AV)}{bx:List (Nat×Box)}{tk:List (Nat×Tok)}{d:Nat}{ty:TypeId}{pos:String}{aft:Array Edge}{x:Operand}{s t:TypeId}{k k0:IntKind}{m n:Int}(hlt:Nat.ble (d+1) c.nt=true)(hx:St.ev ⟨fr,bx,tk⟩ x= .iv (.im (.int k m)))[ht:IntTy P t .i64][hs:IntTy P s k0](hq:IntKind.i64.wrap m=n)
 (h:LW P c ⟨(d,aI n)::fr,bx,tk⟩ ops Q rest):LW P c ⟨fr,bx,tk⟩ ops Q (⟨some d,.convert s t x,ty,pos,aft,none⟩::rest):=by
 exact s_v (v:=aI n) h hlt (by subst hq;exact CH hx)
end Go.Abs
namespace Go.Proofs.Y
open Go.Abs Go.Proofs.Tryz
attribute [local irreducible] L Code.wp bodyPost Exit.then Exit.inBlock
def EV{cf:List Val→List Val→Int}{x y:List Val}{l:List (List Val)}(hL:Lin (cM cf) l)(h:cf y x<0):cM cf y x=true:=by
 have e1:cM cf x y=false:=by simp[cM,h]
 have e2:=hL.tot x y
 rwa [e1,Bool.false_or] at e2
def zz{cf:List Val→List Val→Int}{x y:List Val}(h: ¬cf y x<0):cM cf x y=true:=by simp[cM,h]
def za{cf:List Val→List Val→Int}{l l':List (List Val)}(hL:Lin (cM cf) l'){a b p q:Nat}{z w:List Val}(hs:ek (cM cf) l a b)(k1:a≤p)(k2:p≤q)(k3:q<b)(hz:l[p]?=some z)(hw:l[q]?=some w):cM cf z w=true:=by
 by_cases e:p=q
 · subst e;rw[hz] at hw;cases hw;have:=hL.tot z z;simpa using this
 · exact hs p q z w k1 C k3 hz hw
def Fa(i j:Nat)(hn:i+j<4611686018427387904)(h:i<j): ∃k:Nat,IntKind.i64.wrap ((IntKind.u64.wrap ((i:Int)+(j:Int))).fdiv (2 ^ min (Int.toNat 1) IntKind.u64.bits))=(k:Int)∧i≤k∧k<j:=⟨(i+j) / 2,Iv i j hn,by omega,by omega⟩
def Ho{gs:au}{s:Stm}{t:Tab}{cf:List Val→List Val→Int}[CallTy prog fO](l:List (List Val))(a b:Nat)(hL:Lin (cM cf) l)(h1:a+1<b)(h2:b≤l.length)(hn:l.length≤1000000)(hs:ek (cM cf) l (a+1) b)
 (hc: ∀x∈l,∀y∈l,CallG gs prog fO ([.iv (.sl (x.map Val.c)),.iv (.sl (y.map Val.c))] ++eu) (iU s t) (iU s t) [] (aI (cf x y))):
 CallG gs prog 207 [.bsh 1000 0 l.length 1,aI a,aI ((a+1:Nat):Int),aI b,.fn fO eu] ((1000,bv l)::iU s t) ((1000,bv (bL (cM cf) l a b))::iU s t) [] (.tup []):=by
 refine iG func207 ntmps207 (fun w0 E0 hG=> ?_);have q:(((a+1:Nat):Int) - (a:Int)==1)=true:=by simp;omega
 obtain⟨x,hx⟩: ∃x,l[a]?=some x:=⟨_,gG C⟩
 have hxm:x∈l:=gE hx;refine wz ?_;refine ae (ι:=Nat×Nat) (fun i=>⟨[(10,aI (i.1:Int)),(11,aI (i.2:Int)),(0,.bsh 1000 0 l.length 1),(1,aI a),(4,.fn fO eu)],(1000,bv l)::iU s t,[]⟩) (fun i=>i.2 - i.1) (fun i=>a+1≤i.1∧i.1≤i.2∧i.2≤b∧(∀t z,a+1≤t→t<i.1→l[t]?=some z→cM cf z x=true)∧(∀t z,i.2≤t→t<b→l[t]?=some z→cM cf x z=true)) (i0:=(a+1,b)) ?_ ⟨Nat.le_refl _,by dsimp only;omega,Nat.le_refl _,fun t z h1 h2=>absurd h1 (by dsimp only at h2;omega),fun t z h1 h2=>absurd h1 oD⟩ ?_
 · exact Wk.mkX (fE rfl) F5 (fun s v h=>h) .nil
 rintro ⟨i,j⟩ ⟨hi,hij,hj,hlo,hhi⟩ K hK;dsimp only at hi hij hj hlo hhi;by_cases hk:i<j
 · have q2:decide ((i:Int)<(j:Int))=true:=decide_eq_true C;obtain⟨h,hh,h3,h4⟩:=Fa i j C hk;obtain⟨y,hy⟩: ∃y,l[h]?=some y:=⟨_,gG C⟩
   have hym:y∈l:=gE hy;have kc:=hc y hym x hxm;have o1:(0+((h:Nat):Int).toNat)*1=h:=nN rfl;have o2:(0+((a:Nat):Int).toNat)*1=a:=nN rfl;have b1:(h:Int)<(l.length:Int):=C;have b2:(a:Int)<(l.length:Int):=C;by_cases hcf:cf y x<0
   · have q3:decide (cf y x<0)=true:=decide_eq_true hcf;(repeat' first|intro hb hp|apply jm;rfl;rfl;exact hh|(refine DR.is ?_;first|apply bk;rfl;apply az;rfl;rfl;exact Int.natCast_nonneg _;(first|exact b1|exact b2);(first|exact o1|exact o2)|apply bk;rfl;apply aZ (es:=l.map ai) (k:=1) (i:=h) (f:=0);rfl;rfl;exact jD l;exact C;exact pr hy;rfl|apply bk;rfl;apply aZ (es:=l.map ai) (k:=1) (i:=a) (f:=0);rfl;rfl;exact jD l;exact C;exact pr hx;rfl|apply eH (f:=fO);rfl;exact hG;rfl;exact kc;rfl;exact(.cons rfl (.cons rfl (.cons rfl .nil)));exact mn;exact ml;rfl)|refine am ?_|refine ak ?_ ?_|fail)
     refine hK _ (h+1,j) ⟨by dsimp only;omega,by dsimp only;omega,hj,fun t z ht1 ht2 hz=>hL.tr _ y _ (za hL hs ht1 (by dsimp only at ht2;omega) C hz hy) (EV hL hcf),hhi⟩ oD ?_;exact Wk.mk' kK (wG F4) B4 .nil
   · have q3:decide (cf y x<0)=false:=decide_eq_false hcf;(repeat' first|intro hb hp|apply jm;rfl;rfl;exact hh|(refine DR.is ?_;first|apply bk;rfl;apply az;rfl;rfl;exact Int.natCast_nonneg _;(first|exact b1|exact b2);(first|exact o1|exact o2)|apply bk;rfl;apply aZ (es:=l.map ai) (k:=1) (i:=h) (f:=0);rfl;rfl;exact jD l;exact C;exact pr hy;rfl|apply bk;rfl;apply aZ (es:=l.map ai) (k:=1) (i:=a) (f:=0);rfl;rfl;exact jD l;exact C;exact pr hx;rfl|apply eH (f:=fO);rfl;exact hG;rfl;exact kc;rfl;exact(.cons rfl (.cons rfl (.cons rfl .nil)));exact mn;exact ml;rfl)|refine am ?_|refine ak ?_ ?_|fail)
     refine hK _ (i,h) ⟨hi,by dsimp only;omega,by dsimp only;omega,hlo,fun t z ht1 ht2 hz=>hL.tr _ y _ (zz hcf) (za hL hs (by omega:a+1≤h) (by dsimp only at ht1;omega) ht2 hy hz)⟩ oD ?_;exact Wk.mk' kK F5 B4 .nil
 have q2:decide ((i:Int)<(j:Int))=false:=decide_eq_false C;have eij:i=j:=C;subst eij;have hres:dY l a (a+1) i=bL (cM cf) l a b:=Is hL hi hj h2 hs hx hlo hhi;refine wz ?_;refine ae (ι:=Nat) (fun k=>⟨[(13,aI (k:Int)),(10,aI (i:Int)),(0,.bsh 1000 0 l.length 1)],(1000,bv (dY l a (a+1) (k+1)))::iU s t,[]⟩) (fun k=>i - k) (fun k=>a≤k∧k+1≤i) (i0:=a) ?_ ⟨Nat.le_refl _,by omega⟩ ?_
 · rw[zk C C];exact Wk.mkX (fE rfl) F3 (fun s v h=>h) .nil
 rintro k ⟨hak,hki⟩ K2 hK2;by_cases hk2:k+1<i
 · have q4:decide ((k:Int)<(i:Int) - 1)=true:=decide_eq_true C;obtain⟨y,hy⟩: ∃y,l[k+1]?=some y:=⟨_,gG C⟩
   have hst:=JU (l:=l) (i:=a) (k:=k) hak C hx hy;have hml:=kP (l:=l) (a:=a) (m:=a+1) (b:=k+1) C C C;have gx:(dY l a (a+1) (k+1))[k]?=some x:=by rw[cC C C C,if_neg C,if_pos C,←hx];congr 1;omega
   have gy:(dY l a (a+1) (k+1))[k+1]?=some y:=by rw[cC C C C,if_neg C,if_neg C,hy]
   generalize dY l a (a+1) (k+1)=m at*
   have g2:(m.set k y)[k+1]?=some y:=by rw[List.getElem?_set_ne C,gy]
   have o1:(0+((k:Nat):Int).toNat)*1=k:=nN rfl;have o2:(0+(((k:Nat):Int)+1).toNat)*1=k+1:=nN C;have b1:(k:Int)<(l.length:Int):=C;have b2:(k:Int)+1<(l.length:Int):=C;have p1:(0:Int)≤(k:Int):=C;have p2:(0:Int)≤(k:Int)+1:=C;(repeat' first|intro hb hp|(refine DR.is ?_;first|apply bk;rfl;apply az;rfl;rfl;(first|exact p1|exact p2);(first|exact b1|exact b2);(first|exact o1|exact o2)|apply bk;rfl;apply aZ (es:=m.map ai) (k:=1) (i:=k+1) (f:=0);rfl;rfl;exact jD m;exact C;exact pr gy;rfl|apply bk;rfl;apply aZ (es:=m.map ai) (k:=1) (i:=k) (f:=0);rfl;rfl;exact jD m;exact C;exact pr gx;rfl|apply dV (es:=m.map ai) (i:=k) (e:= [.sl (y.map Val.c)]) (er:=(m.set k y).map ai);rfl;rfl;rfl;rfl;rfl;rfl;exact jD m;exact C;exact(by rw[lM];omega);exact JA|apply dV (es:=(m.set k y).map ai) (i:=k+1) (e:= [.sl (x.map Val.c)]) (er:=((m.set k y).set (k+1) x).map ai);rfl;rfl;rfl;rfl;rfl;rfl;exact jD (m.set k y);exact C;exact(by rw[lM,List.length_set];omega);exact JA)|refine am ?_|refine ak ?_ ?_|fail)
   rw[hst];refine hK2 _ (k+1) ⟨by omega,by omega⟩ C ?_;exact Wk.mk' kK (wG F2) B4 .nil
 · have q4:decide ((k:Int)<(i:Int) - 1)=false:=decide_eq_false C;rw[show k+1=i by omega,hres];refine wz ?_;apply L.endQ0;rfl;rfl;exact Wk.mk' kK .nil B4 .nil;rfl
def Hn{gs:au}{s:Stm}{t:Tab}{cf:List Val→List Val→Int}[CallTy prog fO](l:List (List Val))(a m:Nat)(hL:Lin (cM cf) l)(h1:a+1<m)(h2:m<l.length)(hn:l.length≤1000000)(hs:ek (cM cf) l a m)
 (hc: ∀x∈l,∀y∈l,CallG gs prog fO ([.iv (.sl (x.map Val.c)),.iv (.sl (y.map Val.c))] ++eu) (iU s t) (iU s t) [] (aI (cf x y))):
 CallG gs prog 207 [.bsh 1000 0 l.length 1,aI a,aI m,aI ((m+1:Nat):Int),.fn fO eu] ((1000,bv l)::iU s t) ((1000,bv (bL (cM cf) l a (m+1)))::iU s t) [] (.tup []):=by
 refine iG func207 ntmps207 (fun w0 E0 hG=> ?_);have q:((m:Int) - (a:Int)==1)=false:=by simp;omega
 have q1:(((m+1:Nat):Int) - (m:Int)==1)=true:=by simp;omega
 obtain⟨x,hx⟩: ∃x,l[m]?=some x:=⟨_,gG C⟩
 have hxm:x∈l:=gE hx;refine wz ?_;refine ae (ι:=Nat×Nat) (fun i=>⟨[(14,aI (i.1:Int)),(15,aI (i.2:Int)),(0,.bsh 1000 0 l.length 1),(2,aI m),(4,.fn fO eu)],(1000,bv l)::iU s t,[]⟩) (fun i=>i.2 - i.1) (fun i=>a≤i.1∧i.1≤i.2∧i.2≤m∧(∀t z,a≤t→t<i.1→l[t]?=some z→cM cf z x=true)∧(∀t z,i.2≤t→t<m→l[t]?=some z→cM cf x z=true)) (i0:=(a,m)) ?_ ⟨Nat.le_refl _,by dsimp only;omega,Nat.le_refl _,fun t z h1 h2=>absurd h1 (by dsimp only at h2;omega),fun t z h1 h2=>absurd h1 oD⟩ ?_
 · exact Wk.mkX (fE rfl) F5 (fun s v h=>h) .nil
 rintro ⟨i,j⟩ ⟨hi,hij,hj,hlo,hhi⟩ K hK;dsimp only at hi hij hj hlo hhi;by_cases hk:i<j
 · have q2:decide ((i:Int)<(j:Int))=true:=decide_eq_true C;obtain⟨h,hh,h3,h4⟩:=Fa i j C hk;obtain⟨y,hy⟩: ∃y,l[h]?=some y:=⟨_,gG C⟩
   have hym:y∈l:=gE hy;have kc:=hc x hxm y hym;have o1:(0+((h:Nat):Int).toNat)*1=h:=nN rfl;have o2:(0+((m:Nat):Int).toNat)*1=m:=nN rfl;have b1:(h:Int)<(l.length:Int):=C;have b2:(m:Int)<(l.length:Int):=C;by_cases hcf:cf x y<0
   · have q3:decide (cf x y<0)=true:=decide_eq_true hcf;have q4:(!decide (cf x y<0))=false:=by rw[q3];rfl
     (repeat' first|intro hb hp|apply jm;rfl;rfl;exact hh|(refine DR.is ?_;first|apply bk;rfl;apply az;rfl;rfl;exact Int.natCast_nonneg _;(first|exact b1|exact b2);(first|exact o1|exact o2)|apply bk;rfl;apply aZ (es:=l.map ai) (k:=1) (i:=h) (f:=0);rfl;rfl;exact jD l;exact C;exact pr hy;rfl|apply bk;rfl;apply aZ (es:=l.map ai) (k:=1) (i:=m) (f:=0);rfl;rfl;exact jD l;exact C;exact pr hx;rfl|apply eH (f:=fO);rfl;exact hG;rfl;exact kc;rfl;exact(.cons rfl (.cons rfl (.cons rfl .nil)));exact mn;exact ml;rfl)|refine am ?_|refine ak ?_ ?_|fail)
     refine hK _ (i,h) ⟨hi,by dsimp only;omega,by dsimp only;omega,hlo,fun t z ht1 ht2 hz=>hL.tr _ y _ (EV hL hcf) (za hL hs (by omega:a≤h) (by dsimp only at ht1;omega) ht2 hy hz)⟩ oD ?_;exact Wk.mk' kK F5 B4 .nil
   · have q3:decide (cf x y<0)=false:=decide_eq_false hcf;have q4:(!decide (cf x y<0))=true:=by rw[q3];rfl
     (repeat' first|intro hb hp|apply jm;rfl;rfl;exact hh|(refine DR.is ?_;first|apply bk;rfl;apply az;rfl;rfl;exact Int.natCast_nonneg _;(first|exact b1|exact b2);(first|exact o1|exact o2)|apply bk;rfl;apply aZ (es:=l.map ai) (k:=1) (i:=h) (f:=0);rfl;rfl;exact jD l;exact C;exact pr hy;rfl|apply bk;rfl;apply aZ (es:=l.map ai) (k:=1) (i:=m) (f:=0);rfl;rfl;exact jD l;exact C;exact pr hx;rfl|apply eH (f:=fO);rfl;exact hG;rfl;exact kc;rfl;exact(.cons rfl (.cons rfl (.cons rfl .nil)));exact mn;exact ml;rfl)|refine am ?_|refine ak ?_ ?_|fail)
     refine hK _ (h+1,j) ⟨by dsimp only;omega,by dsimp only;omega,hj,fun t z ht1 ht2 hz=>hL.tr _ y _ (za hL hs ht1 (by dsimp only at ht2;omega) C hz hy) (zz hcf),hhi⟩ oD ?_;exact Wk.mk' kK (wG F4) B4 .nil
 have q2:decide ((i:Int)<(j:Int))=false:=decide_eq_false C;have eij:i=j:=C;subst eij;have hres:nu l m i=bL (cM cf) l a (m+1):=zE hL hi hj h2 hs hx hlo hhi;refine wz ?_;refine ae (ι:=Nat) (fun k=>⟨[(17,aI (k:Int)),(14,aI (i:Int)),(0,.bsh 1000 0 l.length 1)],(1000,bv (nu l m k))::iU s t,[]⟩) (fun k=>k) (fun k=>i≤k∧k≤m) (i0:=m) ?_ ⟨hj,Nat.le_refl _⟩ ?_
 · rw[xY C];exact Wk.mkX (fE rfl) F3 (fun s v h=>h) .nil
 rintro k ⟨hik,hkm⟩ K2 hK2;by_cases hk2:i<k
 · have q4:decide ((i:Int)<(k:Int))=true:=decide_eq_true C;obtain⟨k,rfl⟩: ∃n,k=n+1:=⟨k - 1,by omega⟩
   obtain⟨y,hy⟩: ∃y,l[k]?=some y:=⟨_,gG C⟩
   have hst:=xW (l:=l) (i:=m) (j:=k) hkm C hx hy;have hml:=vA (l:=l) (i:=m) (j:=k+1) hkm C;have gx:(nu l m (k+1))[k+1]?=some x:=by rw[ir hkm C,if_pos rfl,hx]
   have gy:(nu l m (k+1))[k]?=some y:=by rw[ir hkm C,if_neg C,if_neg C,hy]
   generalize nu l m (k+1)=c at*
   have g2:(c.set (k+1) y)[k]?=some y:=by rw[List.getElem?_set_ne C,gy]
   have o1:(0+((k+1:Nat):Int).toNat)*1=k+1:=nN rfl;have o2:(0+(((k+1:Nat):Int) - 1).toNat)*1=k:=nN C;have b1:((k+1:Nat):Int)<(l.length:Int):=C;have b2:(((k+1:Nat):Int) - 1)<(l.length:Int):=C;have p1:(0:Int)≤((k+1:Nat):Int):=C;have p2:(0:Int)≤((k+1:Nat):Int) - 1:=C;(repeat' first|intro hb hp|(refine DR.is ?_;first|apply bk;rfl;apply az;rfl;rfl;(first|exact p1|exact p2);(first|exact b1|exact b2);(first|exact o1|exact o2)|apply bk;rfl;apply aZ (es:=c.map ai) (k:=1) (i:=k+1) (f:=0);rfl;rfl;exact jD c;exact C;exact pr gx;rfl|apply bk;rfl;apply aZ (es:=c.map ai) (k:=1) (i:=k) (f:=0);rfl;rfl;exact jD c;exact C;exact pr gy;rfl|apply dV (es:=c.map ai) (i:=k+1) (e:= [.sl (y.map Val.c)]) (er:=(c.set (k+1) y).map ai);rfl;rfl;rfl;rfl;rfl;rfl;exact jD c;exact C;exact(by rw[lM];omega);exact JA|apply dV (es:=(c.set (k+1) y).map ai) (i:=k) (e:= [.sl (x.map Val.c)]) (er:=((c.set (k+1) y).set k x).map ai);rfl;rfl;rfl;rfl;rfl;rfl;exact jD (c.set (k+1) y);exact C;exact(by rw[lM,List.length_set];omega);exact JA)|refine am ?_|refine ak ?_ ?_|fail)
   rw[hst];refine hK2 _ k ⟨by omega,by omega⟩ C ?_;refine Wk.mk' kK (.cons rfl (Sub.of_eq ?_) F2) B4 .nil;show aI (((k+1:Nat):Int) - 1)=aI (k:Int);congr 3;omega
 · have q4:decide ((i:Int)<(k:Int))=false:=decide_eq_false C;rw[show k=i by omega,hres];refine wz ?_;apply L.endQ0;rfl;rfl;exact Wk.mk' kK .nil B4 .nil;rfl
end Go.Proofs.Y
