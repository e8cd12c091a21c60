/- Lemmas towards the law. Conditions: each one says its own. -/
import Derived.Test.YtnhmohbhgocbjaaGreatDoorZT14
import Derived.Test.YtnhmohbhgocbjaaGreatDoorZT21
set_option linter.all false
set_option maxHeartbeats 64000000
set_option maxRecDepth 100000
namespace Go.Proofs.Y
open Go.Abs Go.Proofs.Tryz
attribute [local irreducible] L Code.wp bodyPost Exit.then Exit.inBlock
def JM{gs:au}{s:Stm}{t:Tab}{cf:List Val→List Val→Int}[CallTy prog fO]{l0:List (List Val)}(hL0:Lin (cM cf) l0)(hn:l0.length≤1000000)
 (hc0: ∀x∈l0,∀y∈l0,CallG gs prog fO ([.iv (.sl (x.map Val.c)),.iv (.sl (y.map Val.c))] ++eu) (iU s t) (iU s t) [] (aI (cf x y))): ∀(k:Nat) (l:List (List Val)) (a m b:Nat),b - a=k→l.length=l0.length→(∀x,x∈l→x∈l0)→a<m→m<b→b≤l0.length→ek (cM cf) l a m→ek (cM cf) l m b→ln gs s t cf l a m b:=by
 intro k;induction k using Nat.strongRecOn with
 |_ k ih=>
 intro l a m b hk hl hm h1 h2 h3 s1 s2;have hL:=hL0.sub hm;have hc: ∀x∈l,∀y∈l,CallG gs prog fO ([.iv (.sl (x.map Val.c)),.iv (.sl (y.map Val.c))] ++eu) (iU s t) (iU s t) [] (aI (cf x y)):=fun x hx y hy=>hc0 x (hm x hx) y (hm y hy)
 by_cases e1:m=a+1
 · subst e1;exact Ho l a b hL h2 C C s2 hc
 by_cases e2:b=m+1
 · subst e2;exact Hn l a m hL C C C s1 hc
 obtain⟨c,hh,hc1,hc2⟩:=Nc a b C;have ih': ∀(l':List (List Val)) (a' m' b':Nat),l'.length=l.length→(∀x,x∈l'→x∈l)→a'<m'→m'<b'→b'≤l.length→b' - a'<b - a→ek (cM cf) l' a' m'→ek (cM cf) l' m' b'→ln gs s t cf l' a' m' b':=fun l' a' m' b' y1 y2 y3 y4 y5 y6 y7 y8=>ih (b' - a') C l' a' m' b' U (y1.trans hl) (fun x hx=>hm x (y2 x hx)) y3 y4 C y7 y8
 by_cases hmc:c<m
 · exact Fx l a m b c hL C C C C s1 s2 hh hc1 hc2 hmc ih' hc
 · exact Fy l a m b c hL C C C C s1 s2 hh hc1 hc2 hmc ih' hc
def CU{gs:au}{s:Stm}{t:Tab}{cf:List Val→List Val→Int}[CallTy prog fO](l:List (List Val))(hne:l≠ [])(hL:Lin (cM cf) l)(hn:l.length≤1000000)
 (hc: ∀x∈l,∀y∈l,CallG gs prog fO ([.iv (.sl (x.map Val.c)),.iv (.sl (y.map Val.c))] ++eu) (iU s t) (iU s t) [] (aI (cf x y))):
 CallG gs prog 177 [.bsh 1000 0 l.length 1,aI (l.length:Int),.fn fO eu] ((1000,bv l)::iU s t) ((1000,bv (l.mergeSort (cM cf)))::iU s t) [] (.tup []):=by
 have ne_of: ∀{c:List (List Val)},c.length=l.length→c≠ []:=fun h e=>by rw[e] at h;exact hne (nZ h.symm)
 have hcs: ∀{c:List (List Val)},c.Perm l→ ∀x∈c,∀y∈c,CallG gs prog fO ([.iv (.sl (x.map Val.c)),.iv (.sl (y.map Val.c))] ++eu) (iU s t) (iU s t) [] (aI (cf x y)):=fun h x hx y hy=>hc x (h.subset hx) y (h.subset hy)
 have hLs: ∀{c:List (List Val)},c.Perm l→Lin (cM cf) c:=fun h=>hL.sub (fun x hx=>h.subset hx)
 have ins: ∀{c:List (List Val)} (a b:Nat),c.Perm l→a≤b→b≤l.length→CallG gs prog 197 [.bsh 1000 0 l.length 1,aI a,aI b,.fn fO eu] ((1000,bv c)::iU s t) ((1000,bv (bL (cM cf) c a b))::iU s t) [] (.tup []):=fun{c} a b h h1 h2=>by
  have k:=wX (gs:=gs) (s:=s) (t:=t) c a b (hLs h) h1 (by rw[h.length_eq];exact h2) (by rw[h.length_eq];exact hn) (hcs h)
  rwa [h.length_eq] at k
 have sym: ∀{c:List (List Val)} (a m b:Nat),c.Perm l→a<m→m<b→b≤l.length→ek (cM cf) c a m→ek (cM cf) c m b→CallG gs prog 207 [.bsh 1000 0 l.length 1,aI a,aI m,aI b,.fn fO eu] ((1000,bv c)::iU s t) ((1000,bv (bL (cM cf) c a b))::iU s t) [] (.tup []):=fun{c} a m b h h1 h2 h3 s1 s2=>by
  have k:=JM (gs:=gs) (s:=s) (t:=t) hL hn hc (b - a) c a m b U h.length_eq (fun x hx=>h.subset hx) h1 h2 h3 s1 s2;unfold ln at k
  rwa [h.length_eq] at k
 refine iG func177 ntmps177 (fun w0 E0 hG=> ?_);refine wz ?_;refine ae (ι:=Nat×List (List Val)) (fun i=>⟨[(6,aI 20),(7,aI (i.1:Int)),(8,aI ((i.1+20:Nat):Int)),(0,.bsh 1000 0 l.length 1),(1,aI (l.length:Int)),(2,.fn fO eu)],(1000,bv i.2)::iU s t,[]⟩) (fun i=>l.length - i.1) (fun i=>i.1≤l.length∧i.2.Perm l∧Pre (cM cf) i.2 20 i.1) (i0:=(0,l)) ?_ ⟨Nat.zero_le _,List.Perm.refl _,.z⟩ ?_
 · exact Wk.mkX (fE U) (wG (wG (wG F3))) (fun s v h=>h) .nil
 rintro ⟨a,c⟩ ⟨ha,hp,hpre⟩ K hK;dsimp only at ha hp hpre;have hcl:=hp.length_eq;by_cases hk:a+20≤l.length
 · have q:decide (((a+20:Nat):Int)≤(l.length:Int))=true:=decide_eq_true C;have y:=ins a (a+20) hp C hk;have hp':(bL (cM cf) c a (a+20)).Perm l:=(ng C).trans hp;have hpre':=hpre.more (hLs hp) C;generalize bL (cM cf) c a (a+20)=c' at*
   (repeat' first|intro hb hp|refine ac [] rfl hG y fS B4 rfl (cm (ne_of hcl)) ck U ?_|refine am ?_|refine ak ?_ ?_|fail)
   refine hK _ (a+20,c') ⟨hk,hp',hpre'⟩ oD ?_;exact Wk.mk' kK (wG (wG (.cons U (nd C) F3))) B4 .nil
 have q:decide (((a+20:Nat):Int)≤(l.length:Int))=false:=decide_eq_false C;have y:=ins a l.length hp C nR;have hp':(bL (cM cf) c a l.length).Perm l:=(ng C).trans hp;have hful:=hpre.last (hLs hp) C C;rw[hcl] at hful;generalize bL (cM cf) c a l.length=c1 at*
 (repeat' first|intro hb hp|refine ac [] rfl hG y fS B4 rfl (cm (ne_of hcl)) ck U ?_|refine am ?_|refine ak ?_ ?_|fail)
 refine ae (ι:=Nat×List (List Val)) (fun i=>⟨[(6,aI (i.1:Int)),(0,.bsh 1000 0 l.length 1),(1,aI (l.length:Int)),(2,.fn fO eu)],(1000,bv i.2)::iU s t,[]⟩) (fun i=>l.length - i.1) (fun i=>0<i.1∧i.2.Perm l∧Blks (cM cf) i.2 i.1 l.length 0) (i0:=(20,c1)) ?_ ⟨by dsimp only;omega,hp',hful⟩ ?_
 · exact Wk.mk' kK (wG F3) B4 .nil
 clear hful hp' y q hk hpre hcl hp ha hK K c1 c a;rintro ⟨k,c⟩ ⟨hk0,hp,hful⟩ K hK;dsimp only at hk0 hp hful;by_cases hk:k<l.length
 · have q:decide ((k:Int)<(l.length:Int))=true:=decide_eq_true C;refine wz ?_;refine ae (ι:=Nat×List (List Val)) (fun i=>⟨[(7,aI (i.1:Int)),(8,aI ((i.1+(k+k):Nat):Int)),(6,aI (k:Int)),(0,.bsh 1000 0 l.length 1),(1,aI (l.length:Int)),(2,.fn fO eu)],(1000,bv i.2)::iU s t,[]⟩) (fun i=>l.length - i.1) (fun i=>i.1≤l.length∧i.2.Perm l∧Pre (cM cf) i.2 (k+k) i.1∧Blks (cM cf) i.2 k l.length i.1) (i0:=(0,c)) ?_ ⟨Nat.zero_le _,hp,.z,hful⟩ ?_
   · exact Wk.mkX (fE U) (wG (.cons U (nd oD) F4)) (fun s v h=>h) .nil
   rintro ⟨a,c⟩ ⟨ha,hp,hpre,hbl⟩ K2 hK2;dsimp only at ha hp hpre hbl;have hcl:=hp.length_eq;by_cases hb:a+(k+k)≤l.length
   · have q2:decide (((a+(k+k):Nat):Int)≤(l.length:Int))=true:=decide_eq_true C;obtain⟨h1,h2,h3⟩:=hbl.two hk0 hb;have y:=sym a (a+k) (a+(k+k)) hp C C hb h1 h2;have hp':(bL (cM cf) c a (a+(k+k))).Perm l:=(ng C).trans hp;have hpre':=hpre.more (hLs hp) C;have hbl':=h3.congr (l':=bL (cM cf) c a (a+(k+k))) (fun j hj=>da C C j (.inr hj));generalize bL (cM cf) c a (a+(k+k))=c' at*
     rw[show((a+k:Nat):Int)=(a:Int)+(k:Int) by omega] at y;(repeat' first|intro hb hp|refine ac [] rfl hG y fS B4 rfl (cm (ne_of hcl)) ck U ?_|refine am ?_|refine ak ?_ ?_|fail)
     refine hK2 _ (a+(k+k),c') ⟨hb,hp',hpre',hbl'⟩ oD ?_;exact Wk.mk' kK (wG (.cons U (nd oD) F4)) B4 .nil
   have q2:decide (((a+(k+k):Nat):Int)≤(l.length:Int))=false:=decide_eq_false C;by_cases hm:a+k<l.length
   · have q3:decide ((a:Int)+(k:Int)<(l.length:Int))=true:=decide_eq_true C;obtain⟨h1,h2⟩:=hbl.one hk0 hm C;have y:=sym a (a+k) l.length hp C hm nR h1 h2;have hp':(bL (cM cf) c a l.length).Perm l:=(ng C).trans hp;have hful':=hpre.last (hLs hp) C C;rw[hcl] at hful';generalize bL (cM cf) c a l.length=c' at*
     rw[show((a+k:Nat):Int)=(a:Int)+(k:Int) by omega] at y;(repeat' first|intro hb hp|refine ac [] rfl hG y fS B4 rfl (cm (ne_of hcl)) ck U ?_|refine am ?_|refine ak ?_ ?_|fail)
     refine hK _ (k+k,c') ⟨by dsimp only;omega,hp',hful'⟩ oD ?_;exact Wk.mk' kK (.cons U (nd oD) F3) B4 .nil
   · have q3:decide ((a:Int)+(k:Int)<(l.length:Int))=false:=decide_eq_false C;have hful':=hpre.rest hbl ha C;refine wz ?_;refine hK _ (k+k,c) ⟨by dsimp only;omega,hp,hful'⟩ oD ?_;exact Wk.mk' kK (.cons U (nd oD) F3) B4 .nil
 · have q:decide ((k:Int)<(l.length:Int))=false:=decide_eq_false C;rw[←Hw hL hp C hful];refine wz ?_;exact aM U U wK U
def uF{gs:au}{s:Stm}{t:Tab}{cf:List Val→List Val→Int}[CallTy prog fO](l:List (List Val))(hne:l≠ [])(hL:Lin (cM cf) l)(hn:l.length≤1000000)
 (hc: ∀x∈l,∀y∈l,CallG gs prog fO ([.iv (.sl (x.map Val.c)),.iv (.sl (y.map Val.c))] ++eu) (iU s t) (iU s t) [] (aI (cf x y))):
 CallG gs prog 130 [.bsh 1000 0 l.length 1,.fn fO eu] ((1000,bv l)::iU s t) ((1000,bv (l.mergeSort (cM cf)))::iU s t) [] (.tup []):=by
 have y:=CU (gs:=gs) (s:=s) (t:=t) l hne hL hn hc;refine iG func130 ntmps130 (fun w0 E0 hG=> ?_);(repeat' first|intro hb hp|refine ac [] rfl hG y fS B4 rfl (cm hne) ck U ?_|refine am ?_|refine ak ?_ ?_|fail)
 exact aM U U wK U
def zb(d:Bool)(n:Int):Int:=if d=true then 0 - n else n
def qS(d:Bool)(x y:List Val):List Ex→Int
 | [] =>0
 |e::r=>if zb d (cD (aC x e) (aC y e))=0 then qS d x y r else zb d (cD (aC x e) (aC y e))
def dc(s:Stm)(wide:Nat)(x y:List Val):Int:=
 if qS s.down x y s.ord≠0 then qS s.down x y s.ord
 else if cD (x.getD 0 af) (y.getD 0 af)≠0∨s.frm.length<2 then cD (x.getD 0 af) (y.getD 0 af)
 else cD (x.getD wide af) (y.getD wide af)
def Ch(a b:Int): -1≤fN a b∧fN a b≤1:=by
 unfold fN;repeat' split;all_goals omega
def ER: ∀l:List Int,(∀x∈l,-1≤x∧x≤1)→ -1≤tU l∧tU l≤1
 | [],_=>by simp[tU]
 |x::l,h=>by
  have:=ER l (fun y hy=>h y (List.mem_cons_of_mem _ hy));have:=h x (List.mem_cons_self ..);unfold tU;split<;>assumption
def Jn(a b:List UInt8): -1≤ly a b∧ly a b≤1:=by
 unfold ly;repeat' split;all_goals omega
def Jp(v w:Val): -1≤cD v w∧cD v w≤1:=ER _ (by
 intro x hx;simp only[List.mem_cons,List.not_mem_nil,or_false] at hx;rcases hx with rfl|rfl|rfl
 · exact Ch _ _
 · exact Ch _ _
 · exact Jn _ _)
def Dg(s:Stm)(hok: ∀e∈s.ord,e.Ok)(hlo:s.ord.length≤140737488355328)(wide:Nat)(x y:List Val)(hx:x≠ [])(hy:y≠ [])(hw:2≤s.frm.length→wide<x.length∧wide<y.length):
 CallA prog 132 [.any,.agg (s.cs.map .iv),aI wide,.iv (.sl (x.map Val.c)),.iv (.sl (y.map Val.c))] [] [] [] (aI (dc s wide x y)):=by
 have hF:((s.frm.map Str.c).length:Int)=(s.frm.length:Int):=by rw[lM]
 have gx:(x.map Val.c)[(0:Int).toNat]?=some (x.getD 0 af).c:=by
  cases x with
  |nil=>exact absurd U hx
  |cons a l=>rfl
 have gy:(y.map Val.c)[(0:Int).toNat]?=some (y.getD 0 af).c:=by
  cases y with
  |nil=>exact absurd U hy
  |cons a l=>rfl
 have k0:=nF (x.getD 0 af) (y.getD 0 af);have kw:=nF (x.getD wide af) (y.getD wide af);refine iA func132 ntmps132 (fun w0 E0=> ?_);refine wz ?_;refine ae (ι:=Nat) (fun i=>⟨[(18,aI (i:Int)),(17,aI ((s.ord.map Ex.c).length:Int)),(16,.iv (.sl (s.ord.map Ex.c))),(6,.ptr 6 0),(2,aI wide),(3,.iv (.sl (x.map Val.c))),(4,.iv (.sl (y.map Val.c)))],[(6,⟨80,.l (s.cs.map .iv)⟩)],[]⟩) (fun i=>s.ord.length - i) (fun i=>qS s.down x y s.ord=qS s.down x y (s.ord.drop i)) (i0:=0) ?_ U ?_
 · exact df
 intro i hI K hK;cases he:s.ord[i]? with
 |none=>
  have hlt:=fa (l:=s.ord.map Ex.c) (bf he);rw[dL (gO he)] at hI;have h0:qS s.down x y s.ord=0:=hI;have hres:dc s wide x y=if cD (x.getD 0 af) (y.getD 0 af)≠0∨s.frm.length<2 then cD (x.getD 0 af) (y.getD 0 af) else cD (x.getD wide af) (y.getD wide af):=by rw[dc,if_neg (by rw[h0];exact fun h=>h U)]
  clear hK;by_cases h1:cD (x.getD 0 af) (y.getD 0 af)=0
  · have q1:(cD (x.getD 0 af) (y.getD 0 af) !=0)=false:=by rw[h1];rfl
    by_cases h2:s.frm.length<2
    · have q2:decide (((s.frm.map Str.c).length:Int)<2)=true:=decide_eq_true C;rw[if_pos (.inr h2)] at hres;rw[hres];refine wz ?_;all_goals exact L.ends U U fR wK
    · have q2:decide (((s.frm.map Str.c).length:Int)<2)=false:=decide_eq_false C;obtain⟨w1,w2⟩:=hw C;have gx2:(x.map Val.c)[((wide:Nat):Int).toNat]?=some (x.getD wide af).c:=by rw[iN,gP,gG w1,List.getD_eq_getElem?_getD,gG w1];rfl
      have gy2:(y.map Val.c)[((wide:Nat):Int).toNat]?=some (y.getD wide af).c:=by rw[iN,gP,gG w2,List.getD_eq_getElem?_getD,gG w2];rfl
      rw[if_neg (fun h=>h.elim (fun h=>h h1) h2)] at hres;rw[hres];refine wz ?_;all_goals exact L.ends U U fR wK
  · have q1:(cD (x.getD 0 af) (y.getD 0 af) !=0)=true:=by simpa using h1
    rw[if_pos (.inl h1)] at hres;rw[hres];refine wz ?_;all_goals exact L.ends U U fR wK
 |some e=>
  have hlt:=eZ (l:=s.ord.map Ex.c) (cq (f:=Ex.c) he);have hlt':=eP he;have g1:(s.ord.map Ex.c)[((i:Nat):Int).toNat]?=some e.cs:=by rw[iN,gP,he,←aN];rfl
  have hoke:=hok e (gE he);have ka:=lg x e hoke;have kb:=lg y e hoke;rw[aN] at ka kb;have kc:=nF (aC x e) (aC y e);have hone:=Jp (aC x e) (aC y e);have hd:s.ord.drop i=e::s.ord.drop (i+1):=by
   obtain⟨h1,h2⟩:=gS he;rw[List.drop_eq_getElem_cons h1,h2]
  rw[hd] at hI;have hI':qS s.down x y s.ord=if zb s.down (cD (aC x e) (aC y e))=0 then qS s.down x y (s.ord.drop (i+1)) else zb s.down (cD (aC x e) (aC y e)):=hI
  by_cases hz:cD (aC x e) (aC y e)=0
  · have q1:(cD (aC x e) (aC y e) !=0)=false:=by rw[hz];rfl
    have q2:(0 - cD (aC x e) (aC y e) !=0)=false:=by rw[hz];rfl
    rw[if_pos (by unfold zb;rw[hz];split<;>rfl)] at hI';cases hdn:s.down with
    |true=>
     rw[hdn] at hI';(repeat' first|intro hb hp|refine LW.is (ag U (yR U C C) ?_)|refine am ?_|refine ak ?_ ?_|fail)
     all_goals refine hK _ (i+1) (by rw[hdn];exact hI') C ?_
     all_goals exact df
    |false=>
     rw[hdn] at hI';refine wz ?_;all_goals refine hK _ (i+1) (by rw[hdn];exact hI') C ?_
     all_goals exact df
  · have q1:(cD (aC x e) (aC y e) !=0)=true:=by simpa using hz
    have q2:(0 - cD (aC x e) (aC y e) !=0)=true:=by simp;omega
    have hne:zb s.down (cD (aC x e) (aC y e))≠0:=by unfold zb;split<;>omega
    rw[if_neg hne] at hI';have hres:dc s wide x y=zb s.down (cD (aC x e) (aC y e)):=by rw[dc,hI',if_pos hne]
    rw[hres];clear hK;cases hdn:s.down with
    |true=>
     (repeat' first|intro hb hp|refine LW.is (ag U (yR U C C) ?_)|refine am ?_|refine ak ?_ ?_|fail)
     all_goals exact L.ends U U fR wK
    |false=>
     refine wz ?_;all_goals exact L.ends U U fR wK
def Cl{gs:au}(s:Stm)(hok: ∀e∈s.ord,e.Ok)(hlo:s.ord.length≤140737488355328)(t:Tab)(x y:List Val)(hx:x≠ [])(hy:y≠ [])(hw:2≤s.frm.length→t.cols.length<x.length∧t.cols.length<y.length):
 CallG gs prog fO ([.iv (.sl (x.map Val.c)),.iv (.sl (y.map Val.c))] ++eu) (iU s t) (iU s t) [] (aI (dc s t.cols.length x y)):=by
 have ko:=(Dg s hok hlo t.cols.length x y hx hy hw).toG (gs:=gs);rw[show((t.cols.length:Nat):Int)=(((t.cols.map Col.c).length:Nat):Int) by rw[lM]] at ko;refine iG func131 ntmps131 (fun w0 E0 hG=> ?_);(repeat' first|intro hb hp|refine dM (ha:=rfl) U hG ko U ?_|refine am ?_|refine ak ?_ ?_|fail)
 all_goals exact L.ends U U fR wK
def Kq: ∀l:List Val,∀e∈l.map Val.c,e.length=3:=fun l e he=>by obtain⟨y,_,rfl⟩:=mM he;rfl
def Ga(n:Nat)(a:Int)(ha:a=n)(hn:0<n)(hl:n*32≤140737488355328):
 CallA prog 175 [.nils,aI a] [] [] [(24,⟨41,3⟩)] (.row 24 []):=by
 refine iA func175 ntmps175 (fun w0 E0=> ?_);have hb:decide (a<0)=false:=by simp;omega
 have hb4:decide ((0:Int)<a - ((0:Int) - ((([]:List (List IV)).length:Nat):Int)))=true:=by simp;omega
 have hz:((([]:List (List IV)).length:Nat):Int)=0:=rfl;(repeat' first|intro hb hp|(refine LW.is ?_;first|refine ag U (nV U) ?_|refine ag U (yO U U U) ?_|refine uO 1000 (m:=n) U U U C hn (by rw[fC];omega) C U U ?_|refine ag U (ur (n':=0) U U (Int.le_refl _) C U) ?_|refine ag U (qf U U C C) ?_)|refine am ?_|refine ak ?_ ?_|fail)
 all_goals(apply L.rowS0 1000 24 4 22;rfl;rfl;omega;rfl;rfl;exact hn;rfl)
 all_goals exact L.ends U U fR (Wk.mk' (by intro id h;simp[keys] at h) .nil .nil (.cons U .nil))
def KB:CallA prog 175 [.nils,aI 0] [] [] [] .nils:=by
 refine iA func175 ntmps175 (fun w0 E0=> ?_);have hb4:decide ((0:Int)<0 - ((0:Int) - ((([]:List (List IV)).length:Nat):Int)))=false:=by simp
 have hz:((([]:List (List IV)).length:Nat):Int)=0:=rfl;(repeat' first|intro hb hp|(refine LW.is ?_;first|refine ag U (nV U) ?_|refine ag U (qf U U C C) ?_)|refine am ?_|refine ak ?_ ?_|fail)
 all_goals exact L.ends U U fR (Wk.mk' (by intro id h;simp[keys] at h) .nil .nil .nil)
def Ce(Ls:List (List Val))(h1:Ls.length≤1000000)(h2:Ls.flatten.length*32≤140737488355328):
 CallA prog 127 [.iv (.sl (Ls.map ai))] [] [] [(13,⟨41,3⟩)] (.row 13 (Ls.flatten.map Val.c)):=by
 refine iA func127 ntmps127 (fun w0 E0=> ?_);have flt: ∀i,(Ls.take i).flatten.length≤Ls.flatten.length:=fun i=>by
  conv=>rhs;rw[←List.take_append_drop i Ls,List.flatten_append,gV]
  omega
 have fst: ∀{i:Nat} {A:List Val},Ls[i]?=some A→(Ls.take (i+1)).flatten=(Ls.take i).flatten++A:=fun h=>by rw[dg h];simp
 refine wz ?_;refine ae (ι:=Nat) (fun i=>⟨[(11,aI (i:Int)),(10,aI ((Ls.map ai).length:Int)),(9,.iv (.sl (Ls.map ai))),(3,aI ((Ls.take i).flatten.length:Int)),(0,.iv (.sl (Ls.map ai)))],[],[]⟩) (fun i=>Ls.length - i) (fun i=>True) (i0:=0) ?_ trivial ?_
 · exact df
 intro i _ K hK;cases hx:Ls[i]? with
 |some A=>
  have hlt:=eZ (l:=Ls.map ai) (cq (f:=ai) hx);have hlt':=eP hx;have g1:(Ls.map ai)[((i:Nat):Int).toNat]?=some [.sl (A.map Val.c)]:=by rw[iN,gP,hx];rfl
  have hA:=fst hx;have hB:=flt (i+1);rw[hA,gV] at hB;have lA:(A.map Val.c).length=A.length:=lM _;have hn:decide (((Ls.take i).flatten.length:Int)+((A.map Val.c).length:Int)<0)=false:=by simp;omega
  (repeat' first|intro hb hp|(refine LW.is ?_;first|refine ag U (iV U U (by rw[lA];omega) (by rw[lA];omega)) ?_)|refine am ?_|refine ak ?_ ?_|fail)
  refine hK _ (i+1) trivial C (Wk.mk' kK (wF (wF (wF (.cons U (Sub.of_eq ?_) F1)))) .nil .nil);rw[hA,gV,←lA];rfl
 |none=>
  have hlt:=fa (l:=Ls.map ai) (bf hx);rw[bc hx];clear hK hx;have kg: ∀n:Nat,n=Ls.flatten.length→0<n→CallA prog 175 [.nils,aI (Ls.flatten.length:Int)] [] [] [(24,⟨41,3⟩)] (.row 24 []):=fun n hn h0=>Ga n _ C h0 C
  by_cases h0:Ls.flatten.length=0
  · rw[h0];have kz:=KB;(repeat' first|intro hb hp|refine AO rfl kz rfl rfl ?_|refine am ?_|refine ak ?_ ?_|fail)
    refine L.adopt 24 (s:=6) (t:=41) (k:=3) U U U ?_;refine ae (ι:=Nat) (fun i=>⟨[(27,aI (i:Int)),(26,aI ((Ls.map ai).length:Int)),(25,.iv (.sl (Ls.map ai))),(6,.row 24 ((Ls.take i).flatten.map Val.c))],[],[(24,⟨41,3⟩)]⟩) (fun i=>Ls.length - i) (fun i=>True) (i0:=0) ?_ trivial ?_
    · exact df
    intro i _ K hK;cases hx:Ls[i]? with
    |some A=>
     have hlt:=eZ (l:=Ls.map ai) (cq (f:=ai) hx);have hlt':=eP hx;have g1:(Ls.map ai)[((i:Nat):Int).toNat]?=some [.sl (A.map Val.c)]:=by rw[iN,gP,hx];rfl
     have hA:=fst hx;have hB:=flt (i+1);rw[hA,gV] at hB;(repeat' first|intro hb hp|(refine LW.is ?_;first|refine bC U U U U (Kq _) (Kq _) (by rw[lM,lM,fC];omega) (by rw[lM,lM];omega) U U ?_)|refine am ?_|refine ak ?_ ?_|fail)
     refine L.only [27,26,25,6] ?_;refine L.retok 6 33 24 U U U U ?_;refine hK _ (i+1) trivial C (Wk.mk' kK (wF (wF (wF (.cons U (Sub.of_eq (congrArg (AV.row 24) (by rw[hA,pA]))) .nil)))) .nil (.cons U .nil))
    |none=>
     have hlt:=fa (l:=Ls.map ai) (bf hx);rw[bc hx];refine wz ?_;all_goals(refine L.only [2] ?_)
     all_goals(refine L.retok 2 24 13 U U U U ?_)
     all_goals exact L.ends U U fR (Wk.mk' (by intro id h;simp[keys] at h) .nil .nil (.cons U .nil))
  · have kr:=kg _ U C;(repeat' first|intro hb hp|refine uP rfl kr rfl rfl ?_|refine am ?_|refine ak ?_ ?_|fail)
    refine ae (ι:=Nat) (fun i=>⟨[(27,aI (i:Int)),(26,aI ((Ls.map ai).length:Int)),(25,.iv (.sl (Ls.map ai))),(6,.row 24 ((Ls.take i).flatten.map Val.c))],[],[(24,⟨41,3⟩)]⟩) (fun i=>Ls.length - i) (fun i=>True) (i0:=0) ?_ trivial ?_
    · exact df
    intro i _ K hK;cases hx:Ls[i]? with
    |some A=>
     have hlt:=eZ (l:=Ls.map ai) (cq (f:=ai) hx);have hlt':=eP hx;have g1:(Ls.map ai)[((i:Nat):Int).toNat]?=some [.sl (A.map Val.c)]:=by rw[iN,gP,hx];rfl
     have hA:=fst hx;have hB:=flt (i+1);rw[hA,gV] at hB;(repeat' first|intro hb hp|(refine LW.is ?_;first|refine bC U U U U (Kq _) (Kq _) (by rw[lM,lM,fC];omega) (by rw[lM,lM];omega) U U ?_)|refine am ?_|refine ak ?_ ?_|fail)
     refine L.only [27,26,25,6] ?_;refine L.retok 6 33 24 U U U U ?_;refine hK _ (i+1) trivial C (Wk.mk' kK (wF (wF (wF (.cons U (Sub.of_eq (congrArg (AV.row 24) (by rw[hA,pA]))) .nil)))) .nil (.cons U .nil))
    |none=>
     have hlt:=fa (l:=Ls.map ai) (bf hx);rw[bc hx];refine wz ?_;all_goals(refine L.only [2] ?_)
     all_goals(refine L.retok 2 24 13 U U U U ?_)
     all_goals exact L.ends U U fR (Wk.mk' (by intro id h;simp[keys] at h) .nil .nil (.cons U .nil))
end Go.Proofs.Y
namespace Go.Proofs.Y
open Go.Abs
structure Ord {β:Type} (f:β→β→Int):Prop where
 anti: ∀x y,f y x= - f x y
 tr: ∀x y z,f x y≤0→f y z≤0→f x z≤0
def Ord.eq{β:Type}{f:β→β→Int}(h:Ord f){x y z:β}(h1:f x y=0)(h2:f y z=0):f x z=0:=by
 have a:=h.tr x y z C C;have b:=h.tr z y x (by rw[h.anti y z];omega) (by rw[h.anti x y];omega);rw[h.anti x z] at b;omega
def Ord.lt1{β:Type}{f:β→β→Int}(h:Ord f){x y z:β}(h1:f x y<0)(h2:f y z≤0):f x z<0:=by
 have a:=h.tr x y z C h2;by_cases e:f x z=0
 · have b:=h.tr y z x h2 (by rw[h.anti x z];omega);rw[h.anti x y] at b;omega
 · omega
def Ord.lt2{β:Type}{f:β→β→Int}(h:Ord f){x y z:β}(h1:f x y≤0)(h2:f y z<0):f x z<0:=by
 have a:=h.tr x y z h1 C;by_cases e:f x z=0
 · have b:=h.tr z x y (by rw[h.anti x z];omega) h1;rw[h.anti y z] at b;omega
 · omega
def rf{β:Type}(f g:β→β→Int)(x y:β):Int:=if f x y=0 then g x y else f x y
def Ord.lex{β:Type}{f g:β→β→Int}(hf:Ord f)(hg:Ord g):Ord (rf f g) where
 anti x y:=by
  unfold rf;rw[hf.anti x y];by_cases e:f x y=0
  · rw[if_pos C,if_pos e,hg.anti]
  · rw[if_neg C,if_neg e]
 tr x y z h1 h2:=by
  unfold rf at*
  by_cases e1:f x y=0
  · rw[if_pos e1] at h1;by_cases e2:f y z=0
    · rw[if_pos e2] at h2;rw[if_pos (hf.eq e1 e2)];exact hg.tr x y z h1 h2
    · rw[if_neg e2] at h2;have:=hf.lt2 (x:=x) (y:=y) (z:=z) C C;rw[if_neg C];omega
  · rw[if_neg e1] at h1;by_cases e2:f y z=0
    · have:=hf.lt1 (x:=x) (y:=y) (z:=z) C C;rw[if_neg C];omega
    · rw[if_neg e2] at h2;have:=hf.lt1 (x:=x) (y:=y) (z:=z) C C;rw[if_neg C];omega
def Ord.on{β γ:Type}{f:β→β→Int}(h:Ord f)(k:γ→β):Ord (fun x y=>f (k x) (k y)):=⟨fun x y=>h.anti _ _,fun x y z=>h.tr _ _ _⟩
def Ord.neg{β:Type}{f:β→β→Int}(h:Ord f):Ord (fun x y=>0 - f x y):=⟨fun x y=>by rw[h.anti x y];omega,fun x y z h1 h2=>by
 have:=h.tr z y x (by rw[h.anti y z];omega) (by rw[h.anti x y];omega);rw[h.anti x z] at this;omega⟩
def Ord.zero{β:Type}:Ord (fun(_ _:β)=>(0:Int)):=⟨fun _ _=>rfl,fun _ _ _ _ _=>Int.le_refl _⟩
def ord_cmpI:Ord fN:=⟨fun x y=>(by
 unfold fN;repeat' split;all_goals omega),fun x y z h1 h2=>by
 unfold fN at*
 repeat' split at h1
 all_goals(repeat' split at h2)
 all_goals(repeat' split)
 all_goals omega⟩
def ord_cmpS:Ord ly:=⟨fun x y=>by
 unfold ly;cases h1:Op.bytesLess x y<;>cases h2:Op.bytesLess y x<;>simp
 exact absurd (Do h1) (by rw[h2];simp),fun x y z h1 h2=>by
 have l: ∀{a b:List UInt8},ly a b≤0↔ ¬b<a:=fun{a b}=>by
  unfold ly;rw[iy,iy];by_cases e1:a<b
  · simp[e1,List.lt_asymm e1]
  · by_cases e2:b<a<;>simp[e1,e2]
 rw[l] at h1 h2⊢;intro h3;have h1':x≤y:=h1;have h2':y≤z:=h2;exact(List.le_trans h1' h2':x≤z) h3⟩
def Cg(v w:Val):cD v w=rf (fun a b:Val=>fN a.k b.k) (rf (fun a b:Val=>fN a.n b.n) (fun a b:Val=>ly a.s b.s)) v w:=by
 unfold cD rf;simp only[tU];by_cases e1:fN v.k w.k=0
 · rw[if_pos e1,if_pos e1];by_cases e2:fN v.n w.n=0
   · rw[if_pos e2,if_pos e2];by_cases e3:ly v.s w.s=0
     · rw[if_pos e3,e3]
     · rw[if_neg e3]
   · rw[if_neg e2,if_neg e2]
 · rw[if_neg e1,if_neg e1]
def ord_cmpM:Ord cD:=by
 have:cD=rf (fun a b:Val=>fN a.k b.k) (rf (fun a b:Val=>fN a.n b.n) (fun a b:Val=>ly a.s b.s)):=by funext v w;exact Cg v w
 rw[this];exact(ord_cmpI.on Val.k).lex ((ord_cmpI.on Val.n).lex (ord_cmpS.on Val.s))
def nG{v w:Val}(h:cD v w=0):v=w:=by
 rw[Cg] at h;unfold rf at h;have zI: ∀{a b:Int},fN a b=0→a=b:=fun{a b} h=>by unfold fN at h;(repeat' split at h)<;>omega
 have zS: ∀{a b:List UInt8},ly a b=0→a=b:=fun{a b} h=>by
  unfold ly at h;cases h1:Op.bytesLess a b
  · cases h2:Op.bytesLess b a
    · exact vF h1 h2
    · rw[h1,h2] at h;simp at h
  · rw[h1] at h;simp at h
 by_cases e1:fN v.k w.k=0
 · rw[if_pos e1] at h;by_cases e2:fN v.n w.n=0
   · rw[if_pos e2] at h;obtain⟨k,n,s⟩:=v;obtain⟨k',n',s'⟩:=w;have a:=zI e1;have b:=zI e2;have c:=zS h;dsimp only at a b c;subst a;subst b;subst c;rfl
   · rw[if_neg e2] at h;exact absurd h e2
 · rw[if_neg e1] at h;exact absurd h e1
def Kf{β:Type}{f:β→β→Int}(d:Bool)(h:Ord f):Ord (fun x y=>zb d (f x y)):=by
 cases d
 · exact h
 · exact h.neg
def vh(d:Bool): ∀l:List Ex,Ord (fun x y=>qS d x y l)
 | [] =>Ord.zero
 |e::r=>by
  have h:=(Kf d (ord_cmpM.on (fun x=>aC x e))).lex (vh d r);exact h
def sg(s:Stm)(wide:Nat):Ord (dc s wide):=by
 have k0:=ord_cmpM.on (fun x:List Val=>x.getD 0 af);have kw:=ord_cmpM.on (fun x:List Val=>x.getD wide af);by_cases h2:s.frm.length<2
 · have e:dc s wide=rf (fun x y=>qS s.down x y s.ord) (fun x y=>cD (x.getD 0 af) (y.getD 0 af)):=by
    funext x y
    unfold dc rf;by_cases e:qS s.down x y s.ord=0
    · rw[if_neg (fun h=>h e),if_pos e,if_pos (.inr h2)]
    · rw[if_pos e,if_neg e]
   rw[e];exact(vh s.down s.ord).lex k0
 · have e:dc s wide=rf (fun x y=>qS s.down x y s.ord) (rf (fun x y=>cD (x.getD 0 af) (y.getD 0 af)) (fun x y=>cD (x.getD wide af) (y.getD wide af))):=by
    funext x y
    unfold dc rf;by_cases e:qS s.down x y s.ord=0
    · rw[if_neg (fun h=>h e),if_pos e];by_cases e':cD (x.getD 0 af) (y.getD 0 af)=0
      · rw[if_neg (fun h=>h.elim (fun h=>h e') h2),if_pos e']
      · rw[if_pos (.inl e'),if_neg e']
    · rw[if_pos e,if_neg e]
   rw[e];exact(vh s.down s.ord).lex (k0.lex kw)
def Df{s:Stm}{wide:Nat}{x y:List Val}(h:dc s wide x y=0):x.getD 0 af=y.getD 0 af∧(2≤s.frm.length→x.getD wide af=y.getD wide af):=by
 unfold dc at h;by_cases e:qS s.down x y s.ord=0
 · rw[if_neg (fun h=>h e)] at h;by_cases e':cD (x.getD 0 af) (y.getD 0 af)≠0∨s.frm.length<2
   · rw[if_pos e'] at h;exact⟨nG h,fun h2=>absurd h (e'.resolve_right C)⟩
   · rw[if_neg e'] at h;refine⟨nG (Classical.byContradiction fun k=>e' (.inl k)),fun _=>nG h⟩
 · rw[if_pos e] at h;exact absurd h e
def xR{s:Stm}{wide:Nat}{l:List (List Val)}(hk: ∀x∈l,∀y∈l,x.getD 0 af=y.getD 0 af→(2≤s.frm.length→x.getD wide af=y.getD wide af)→x=y):Lin (cM (dc s wide)) l where
 tr a b c h1 h2:=by
  have h:=sg s wide;simp only[cM,Bool.not_eq_true',decide_eq_false_iff_not] at h1 h2⊢;have:=h.tr a b c (by have:=h.anti a b;omega) (by have:=h.anti b c;omega);have:=h.anti a c;omega
 tot a b:=by
  have h:=(sg s wide).anti a b;simp only[cM,Bool.or_eq_true,Bool.not_eq_true',decide_eq_false_iff_not];omega
 anti a ha b hb h1 h2:=by
  have h:=(sg s wide).anti a b;simp only[cM,Bool.not_eq_true',decide_eq_false_iff_not] at h1 h2;obtain⟨k1,k2⟩:=Df (s:=s) (wide:=wide) (x:=a) (y:=b) C;exact hk a ha b hb k1 k2
def zv:nilE.Ok:= .mk sP sP
def un(ts:List Tab): ∀e:Ex,e.Ok→(an ts e).1.Ok
 | .mk op v s name n l,hok=>by
   have hl:l.length*104≤140737488355328:=by cases hok with|mk hl _=>exact hl
   have ih: ∀x∈l,(an ts x).1.Ok:=fun x hx=>un ts x (by cases hok with|mk _ h=>exact h x hx)
   have hmk: ∀n,(Ex.mk op v s name n (l.map fun x=>(an ts x).1)).Ok:=fun n=> .mk (by rw[lM];exact hl) (fun x hx=>by obtain⟨y,hy,rfl⟩:=mM hx;exact ih y hy)
   rw[iL];generalize eG (l.map fun x=>(an ts x).2.2)=f at*
   generalize (l.map fun x=>(an ts x).1)=es at*
   generalize (l.map fun x=>(an ts x).2.1)=tys at*
   unfold bV;by_cases hf:f≠0
   · rw[if_pos hf];exact zv
   rw[if_neg hf];by_cases h1:op=1
   · rw[if_pos h1];exact hmk n
   rw[if_neg h1];by_cases h2:op=2
   · rw[if_pos h2];exact hmk _
   rw[if_neg h2];repeat' split
   all_goals first|exact hmk n|exact zv
 termination_by e=>SizeOf.sizeOf e
 decreasing_by
  have:=List.sizeOf_lt_of_mem hx;simp;omega
def zx{ts:List Tab}{e:Ex}(h:e.Ok)(k:Int):(dw ts e k).1.Ok:=by
 unfold dw;repeat' split
 all_goals first|exact zv|exact un ts e h
def GH{ts:List Tab}{e:Ex}(h:e.Ok):(dO ts e).1.Ok:=by
 unfold dO;split
 · exact h
 · exact zx h 3
def eh{c:Cat}{s b:Stm}(h:aJ c s=(b,0)):GoodC c∧(∀e∈du s,bY 1 e=true)∧eM c s=(b,0):=by
 obtain⟨h1,h2⟩:=pJ h;obtain⟨h3,h4⟩:=sC h1;exact⟨(sv c).1 h3,h4,h2⟩
structure Chg (c:Cat) (s b:Stm):Prop where
 tab:(ab c s.table).2=true
 rowsE:rowsE s (ab c s.table).1=0
 setsE:setsE s (ab c s.table).1=0
 whE:(dO [(ab c s.table).1] s.wh).2=0
 eq:b={s with rows:=s.rows.map fun r=>(eI (ab c s.table).1 r).1,sets:=s.sets.zipIdx.map fun p=>(lq (ab c s.table).1 s.sets p).1,wh:=(dO [(ab c s.table).1] s.wh).1}
def zY{c:Cat}{s b:Stm}(hk:s.kind=4∨s.kind=5∨s.kind=6)(h:eM c s=(b,0)):Chg c s b:=by
 rw[eM,if_neg C,if_neg C,if_neg C,if_neg C] at h;cases ht:(ab c s.table).2 with
 |false=>rw[ht,if_neg dD] at h;simp at h
 |true=>
  rw[ht,if_pos U] at h;unfold eO at h;by_cases he:Go.Proofs.Y.rowsE s (ab c s.table).1=0
  case neg=>rw[if_pos he] at h;exact absurd (Prod.mk.inj h).2 he
  rw[if_neg (by simp[he])] at h;by_cases hs:Go.Proofs.Y.setsE s (ab c s.table).1=0
  case neg=>rw[if_pos hs] at h;exact absurd (Prod.mk.inj h).2 hs
  rw[if_neg (by simp[hs])] at h;exact⟨ht,he,hs,(Prod.mk.inj h).2,(Prod.mk.inj h).1.symm⟩
def vd{c:Cat}{s b:Stm}(hk:s.kind=1∨s.kind=2∨s.kind=3)(h:eM c s=(b,0)):b=s:=by
 unfold eM at h;by_cases h1:s.kind=1
 · rw[if_pos h1] at h;exact(Prod.mk.inj h).1.symm
 rw[if_neg h1] at h;by_cases h2:s.kind=2
 · rw[if_pos h2] at h;exact(Prod.mk.inj h).1.symm
 rw[if_neg h2,if_pos C] at h;exact(Prod.mk.inj h).1.symm
structure Sel (c:Cat) (s b:Stm):Prop where
 len:s.frm.length=1∨s.frm.length=2
 frm:b.frm=s.frm
 tab: ∀(i:Nat) (n:Str),s.frm[i]?=some n→(ab c n).2=true
 out: ∀x∈b.out,x.op=2∧x.l= [] ∨ ∃y∈s.out,x=(an (s.frm.map fun n=>(ab c n).1) y).1
 ord:b.ord=s.ord.map fun x=>(an (s.frm.map fun n=>(ab c n).1) x).1
 wh:dO (s.frm.map fun n=>(ab c n).1) s.wh=(b.wh,0)
 n:b.n=s.n
 down:b.down=s.down
 outL:b.out.length≤s.out.length+lY (s.frm.map fun n=>(ab c n).1)
def KG{c:Cat}{s:Stm}:(s.frm.zipIdx.map fun p=>(ce c s.frm p).1)=s.frm.map fun n=>(ab c n).1:=by
 have e:(fun p:Str×Nat=>(ce c s.frm p).1)=(fun n=>(ab c n).1)∘Prod.fst:=by funext p;exact tx c s.frm p
 rw[e,←List.map_map];simp
def wJ: ∀(ts:List Tab) (a:Nat),∀x∈fm ts a,x.op=2∧x.l= []
 | [],_,x,h=>by cases h
 |t::ts,a,x,h=>by
  rcases mA h with h|h
  · obtain⟨p,_,rfl⟩:=mM h;exact⟨rfl,rfl⟩
  · exact wJ ts _ x h
def HD{c:Cat}{s b:Stm}(hk:s.kind=7)(h:eM c s=(b,0)):Sel c s b:=by
 rw[eM,if_neg C,if_neg C,if_neg C,if_pos hk] at h;unfold iI at h;by_cases hl:s.frm.length<1∨2<s.frm.length
 · rw[if_pos hl] at h;simp at h
 rw[if_neg hl] at h;by_cases he:eG (s.frm.zipIdx.map fun p=>(ce c s.frm p).2)≠0
 · rw[if_pos he] at h;exact absurd (Prod.mk.inj h).2 he
 rw[if_neg he] at h;dsimp only at h;rw[KG] at h;have he:=mY (Decidable.not_not.1 he);by_cases h1:eG (s.out.map fun x=>(an (s.frm.map fun n=>(ab c n).1) x).2.2)≠0
 · rw[if_pos h1] at h;exact absurd (Prod.mk.inj h).2 h1
 rw[if_neg h1] at h;by_cases h2:eG (s.ord.map fun x=>(an (s.frm.map fun n=>(ab c n).1) x).2.2)≠0
 · rw[if_pos h2] at h;exact absurd (Prod.mk.inj h).2 h2
 rw[if_neg h2] at h;obtain⟨e1,e2⟩:=Prod.mk.inj h;have hb:=e1.symm;subst hb;refine⟨by omega,rfl,fun i n hi=> ?_,fun x hx=> ?_,rfl,Prod.ext U e2,rfl,rfl,?_⟩
 · have h3:=he _ (List.mem_map_of_mem (f:=fun p=>(ce c s.frm p).2) (gE (nT hi)));dsimp only[ce] at h3;cases hf:(ab c n).2 with
   |true=>rfl
   |false=>rw[hf,if_pos U] at h3;simp at h3
 · dsimp only at hx;split at hx
   · exact .inl (wJ _ _ x hx)
   · obtain⟨y,hy,rfl⟩:=mM hx;exact .inr ⟨y,hy,rfl⟩
 · dsimp only;split
   · rw[qB];omega
   · rw[lM];omega
def HJ(row:List Val):Ln [] row:=fun s name p k h=>by
 unfold eF at h;simp[iE] at h
def AS{t:Tab}{r:List Ex}(h:(eI t r).2=0)(hg: ∀e∈r,bY 1 e=true):(eI t r).1.length=t.cols.length∧ ∀(i:Nat) (c:Col),t.cols[i]?=some c→ug c.t (((eI t r).1.map (aC [])).getD i af):=by
 unfold eI at h⊢;by_cases hl:r.length≠t.cols.length
 · rw[if_pos hl] at h;simp at h
 rw[if_neg hl] at h⊢;have hl:=Decidable.not_not.1 hl;have he:=mY h;refine⟨by simp[hl],fun i c hc=> ?_⟩;have hi:i<r.length:=by have:=(gS hc).1;omega
 have hx:r[i]?=some r[i]:=gG hi;have h1:=he _ (List.mem_map_of_mem (f:=fun p=>(jN t p).2) (gE (nT hx)));have e:((r.zipIdx.map fun p=>(jN t p).1).map (aC [])).getD i af=aC [] (jN t (r[i],i)).1:=by
  rw[List.getD_eq_getElem?_getD,gP,gP,nT hx];rfl
 rw[e];have hct:eT t (i:Int)=c.t:=by rw[eT,iN,List.getD_eq_getElem?_getD,hc];rfl
 rw[←hct];exact xV (HJ []) (fun h=>vP (hg _ (List.getElem_mem hi)) h) (Prod.ext U h1)
def JT{t:Tab}{r:List Ex}(hr: ∀e∈r,e.Ok): ∀e∈(eI t r).1,e.Ok:=by
 unfold eI;split
 · simp
 · intro e he;obtain⟨p,hp,rfl⟩:=mM he;obtain⟨x,i⟩:=p;exact zx (hr x (gE (List.mem_zipIdx_iff_getElem?.1 hp))) _
end Go.Proofs.Y
namespace Go.Proofs
open Go.Shelf
def Tryz.laysSort_ren:Go.Shelf.Ren:=⟨fun|6=>123|15=>174|14=>173|28=>205|29=>206|20=>197|21=>198|22=>199|23=>200|24=>201|25=>202|26=>203|27=>204|46=>224|47=>225|48=>226|49=>227|50=>228|57=>242|n=>n,fun|22=>32|24=>35|25=>190|3=>3|39=>149|0=>0|53=>206|55=>259|4=>4|46=>252|45=>251|50=>163|5=>5|9=>9|66=>274|70=>278|76=>291|77=>292|n=>n,fun|n=>n⟩
theorem Tryz.laysSort:Go.Proofs.SlLaysF.n6 Tryz.prog Tryz.laysSort_ren where
 mixed:=by kernel_rfl
 f6:=⟨ "slices.SortFunc[[][]askance/api.Value,[]askance/api.Value]",by decide,Tryz.func123.trans (congrArg some (by kernel_rfl))⟩
 f14:=⟨ "slices.pdqsortCmpFunc[[]askance/api.Value]",by decide,Tryz.func173.trans (congrArg some (by kernel_rfl))⟩
 f15:=Tryz.func174.trans (congrArg some (by kernel_rfl))
 f20:=⟨ "slices.insertionSortCmpFunc[[]askance/api.Value]",by decide,Tryz.func197.trans (congrArg some (by kernel_rfl))⟩
 f21:=⟨ "slices.heapSortCmpFunc[[]askance/api.Value]",by decide,Tryz.func198.trans (congrArg some (by kernel_rfl))⟩
 f22:=⟨ "slices.breakPatternsCmpFunc[[]askance/api.Value]",by decide,Tryz.func199.trans (congrArg some (by kernel_rfl))⟩
 f23:=⟨ "slices.choosePivotCmpFunc[[]askance/api.Value]",by decide,Tryz.func200.trans (congrArg some (by kernel_rfl))⟩
 f24:=⟨ "slices.reverseRangeCmpFunc[[]askance/api.Value]",by decide,Tryz.func201.trans (congrArg some (by kernel_rfl))⟩
 f25:=⟨ "slices.partialInsertionSortCmpFunc[[]askance/api.Value]",by decide,Tryz.func202.trans (congrArg some (by kernel_rfl))⟩
 f26:=⟨ "slices.partitionEqualCmpFunc[[]askance/api.Value]",by decide,Tryz.func203.trans (congrArg some (by kernel_rfl))⟩
 f27:=⟨ "slices.partitionCmpFunc[[]askance/api.Value]",by decide,Tryz.func204.trans (congrArg some (by kernel_rfl))⟩
 f28:=Tryz.func205.trans (congrArg some (by kernel_rfl))
 f29:=Tryz.func206.trans (congrArg some (by kernel_rfl))
 f46:=⟨ "slices.siftDownCmpFunc[[]askance/api.Value]",by decide,Tryz.func224.trans (congrArg some (by kernel_rfl))⟩
 f47:=Tryz.func225.trans (congrArg some (by kernel_rfl))
 f48:=Tryz.func226.trans (congrArg some (by kernel_rfl))
 f49:=⟨ "slices.medianAdjacentCmpFunc[[]askance/api.Value]",by decide,Tryz.func227.trans (congrArg some (by kernel_rfl))⟩
 f50:=⟨ "slices.medianCmpFunc[[]askance/api.Value]",by decide,Tryz.func228.trans (congrArg some (by kernel_rfl))⟩
 f57:=⟨ "slices.order2CmpFunc[[]askance/api.Value]",by decide,Tryz.func242.trans (congrArg some (by kernel_rfl))⟩
 t0:=Tryz.underlying0
 a0:=Tryz.isAgg0
 z0:=Tryz.sizeOf0
 v0:=Tryz.zeroValue0
 t3:=Tryz.underlying3
 a3:=Tryz.isAgg3
 z3:=Tryz.sizeOf3
 v3:=Tryz.zeroValue3
 t4:=Tryz.underlying4
 a4:=Tryz.isAgg4
 z4:=Tryz.sizeOf4
 v4:=Tryz.zeroValue4
 t5:=Tryz.underlying5
 a5:=Tryz.isAgg5
 z5:=Tryz.sizeOf5
 v5:=Tryz.zeroValue5
 t9:=Tryz.underlying9
 a9:=Tryz.isAgg9
 z9:=Tryz.sizeOf9
 v9:=Tryz.zeroValue9
 t22:=Tryz.underlying32
 a22:=Tryz.isAgg32
 z22:=Tryz.sizeOf32
 v22:=Tryz.zeroValue32
 a24:=Tryz.isAgg35
 z24:=Tryz.sizeOf35
 t25:=Tryz.underlying190
 a25:=Tryz.isAgg190
 z25:=Tryz.sizeOf190
 v25:=Tryz.zeroValue190
 t39:=Tryz.underlying149
 a39:=Tryz.isAgg149
 z39:=Tryz.sizeOf149
 v39:=Tryz.zeroValue149
 t45:=Tryz.underlying251
 a45:=Tryz.isAgg251
 z45:=Tryz.sizeOf251
 v45:=Tryz.zeroValue251
 t46:=Tryz.underlying252
 a46:=Tryz.isAgg252
 z46:=Tryz.sizeOf252
 v46:=Tryz.zeroValue252
 t50:=Tryz.underlying163
 a50:=Tryz.isAgg163
 z50:=Tryz.sizeOf163
 v50:=Tryz.zeroValue163
 t53:=Tryz.underlying206
 a53:=Tryz.isAgg206
 z53:=Tryz.sizeOf206
 v53:=Tryz.zeroValue206
 t55:=Tryz.underlying259
 a55:=Tryz.isAgg259
 z55:=Tryz.sizeOf259
 v55:=Tryz.zeroValue259
 t66:=Tryz.underlying274
 a66:=Tryz.isAgg274
 z66:=Tryz.sizeOf274
 v66:=Tryz.zeroValue274
 t70:=Tryz.underlying278
 a70:=Tryz.isAgg278
 z70:=Tryz.sizeOf278
 v70:=Tryz.zeroValue278
 t76:=Tryz.underlying291
 a76:=Tryz.isAgg291
 z76:=Tryz.sizeOf291
 v76:=Tryz.zeroValue291
 t77:=Tryz.underlying292
 a77:=Tryz.isAgg292
 z77:=Tryz.sizeOf292
 v77:=Tryz.zeroValue292
end Go.Proofs
namespace Go.Proofs.Y
open Go.Abs Go.Proofs.Tryz
attribute [local irreducible] L Code.wp bodyPost Exit.then Exit.inBlock
def bM(e:Ex)(row:List Val):Bool:=e.op==0||rG (aC row e)==1
def yk(e:Ex)(hok:e.Ok)(row:List Val):CallA prog 122 [.agg (e.cs.map .iv),.iv (.sl (row.map Val.c))] [] [] [] (aB (bM e row)):=by
 have ke:=lg row e hok;rw[aN] at ke;have ko:=sk (aC row e);refine iA func122 ntmps122 (fun w0 E0=> ?_);by_cases h:e.op=0
 · have q:(e.op==0)=true:=by simpa using h
   have r:bM e row=true:=by rw[bM,q];rfl
   rw[r];refine wz ?_;all_goals exact L.ends U U sE wK
 · have q:(e.op==0)=false:=by simpa using h
   have r:bM e row=(rG (aC row e)==1):=by rw[bM,q];rfl
   rw[r];refine wz ?_;all_goals exact L.ends U U sE wK
def sr(x y:List Val):Int:=cD (x.getD 0 af) (y.getD 0 af)
def ord_keyF:Ord sr:=ord_cmpM.on (fun x:List Val=>x.getD 0 af)
section
variable [Dr]
def Ci(x y:List Val)(hx:x≠ [])(hy:y≠ []):CallA prog 124 [.iv (.sl (x.map Val.c)),.iv (.sl (y.map Val.c))] [] [] [] (aI (sr x y)):=by
 have gx:(x.map Val.c)[(0:Int).toNat]?=some (x.getD 0 af).c:=by
  cases x with
  |nil=>exact absurd U hx
  |cons a l=>rfl
 have gy:(y.map Val.c)[(0:Int).toNat]?=some (y.getD 0 af).c:=by
  cases y with
  |nil=>exact absurd U hy
  |cons a l=>rfl
 have k0:=nF (x.getD 0 af) (y.getD 0 af);refine iA func124 ntmps124 (fun w0 E0=> ?_);refine wz ?_;all_goals exact L.ends U U sE wK
end
def Kr{l:List (List Val)}(hk: ∀x∈l,∀y∈l,x.getD 0 af=y.getD 0 af→x=y):Lin (cM sr) l where
 tr a b c h1 h2:=by
  simp only[cM,Bool.not_eq_true',decide_eq_false_iff_not] at h1 h2⊢;have:=ord_keyF.tr a b c (by have:=ord_keyF.anti a b;omega) (by have:=ord_keyF.anti b c;omega);have:=ord_keyF.anti a c;omega
 tot a b:=by
  have h:=ord_keyF.anti a b;simp only[cM,Bool.or_eq_true,Bool.not_eq_true',decide_eq_false_iff_not];omega
 anti a ha b hb h1 h2:=by
  have h:=ord_keyF.anti a b;simp only[cM,Bool.not_eq_true',decide_eq_false_iff_not] at h1 h2;exact hk a ha b hb (nG (v:=a.getD 0 af) (w:=b.getD 0 af) (show sr a b=0 by omega))
def Hp:Go.Sort.SWO (ltOf sr) where
 irrefl a:=by
  have h:=ord_keyF.anti a a;simp only[ltOf];simp;omega
 trans a b c h1 h2:=by
  simp only[ltOf,decide_eq_true_eq] at h1 h2⊢;exact ord_keyF.lt1 h1 C
 ntrans a b c h1 h2:=by
  simp only[ltOf,decide_eq_false_iff_not] at h1 h2⊢;have:=ord_keyF.tr c b a (by have:=ord_keyF.anti b c;omega) (by have:=ord_keyF.anti a b;omega);have:=ord_keyF.anti a c;omega
def FE(l:List (List Val))(hne:l≠ [])(hl:l.length≤140737488355328)(h0: ∀x∈l,x≠ [])(hk: ∀x∈l,∀y∈l,x.getD 0 af=y.getD 0 af→x=y):
 CallA prog 123 [.bsh 1000 0 l.length 1,.fn 124 []] [(1000,bv l)] [(1000,bv (l.mergeSort (cM sr)))] [] (.tup []):=by
 have hL:=Kr hk;have key:=CallA.sortFunc laysSort (g:=124) U (fun x:List Val=>IV.sl (x.map Val.c)) sr Hp (ty:=35) l (l.mergeSort (cM sr)) hne hl
  (fun x hx y hy=> @Ci ⟨True⟩ x y (h0 x hx) (h0 y hy))
  (fun l' hp hs=>by
    have e:=AG (l:=l) (l':=l') (a:=0) (b:=l.length) hL (Nat.zero_le _) sP (by rw[dL (by rw[hp.length_eq];exact Nat.le_refl _),List.drop_length]) (by rw[ni,show iO l' 0 l.length=l' by rw[←hp.length_eq];exact ni l'];exact hp) (by rw[show iO l' 0 l.length=l' by rw[←hp.length_eq];exact ni l'];exact hs.imp (fun{a b} h=>by simp[cM,h]));rw[e,bL,ni];simp)
 have f: ∀m:List (List Val),m.map (fun x:List Val=>IV.sl (x.map Val.c))=(m.map ai).flatten:=fun m=>by induction m with
  |nil=>rfl
  |cons a m ih=>rw[List.map_cons,List.map_cons,List.flatten_cons,ih];rfl
 rw[f,f] at key;exact key
def vJ{gs:au}:CallG gs prog 197 [.nils,aI 0,aI 0,.any] [] [] [] (.tup []):=by
 refine iG func197 ntmps197 (fun w0 E0 hG=> ?_);refine wz ?_;refine ae (ι:=Nat) (fun i=>⟨[(8,aI 1),(2,aI 0)],[],[]⟩) (fun i=>i) (fun i=>True) (i0:=0) ?_ trivial ?_
 · exact Wk.mk' kK (wG F1) .nil .nil
 intro i _ K hK;refine wz ?_;all_goals exact aM U U wK U
def FR:CallA prog 206 [.iv (.im (.int .u64 0))] [] [] [] (aI 0):=by
 refine iA func206 ntmps206 (fun w0 E0=> ?_);refine wz ?_;all_goals exact L.ends U U sE wK
def Kp:CallA prog 174 [.iv (.im (.int .u64 0))] [] [] [] (aI 0):=by
 refine iA func174 ntmps174 (fun w0 E0=> ?_);(repeat' first|intro hb hp|refine LW.is (gp U FR U U ?_)|refine am ?_|refine ak ?_ ?_|fail)
 all_goals exact L.ends U U sE wK
def HR{gs:au}:CallG gs prog 173 [.nils,aI 0,aI 0,aI 0,.any] [] [] [] (.tup []):=by
 have y:=vJ (gs:=gs);refine iG func173 ntmps173 (fun w0 E0 hG=> ?_);refine wz ?_;refine ae (ι:=Nat) (fun i=>⟨[(0,.nils),(1,aI 0),(2,aI 0),(3,aI 0),(4,.any)],[],[]⟩) (fun i=>i) (fun i=>True) (i0:=0) ?_ trivial ?_
 · exact Wk.mk' kK F5 .nil .nil
 intro i _ K hK;(repeat' first|intro hb hp|refine ac [] rfl hG y (.cons fR (.cons fR (.cons fR (.cons (Sub.any _) .nil)))) .nil U U U U ?_|refine am ?_|refine ak ?_ ?_|fail)
 all_goals exact L.endQ0 U U wK U
def CW{gs:au}:CallG gs prog 123 [.nils,.any] [] [] [] (.tup []):=by
 have y:=HR (gs:=gs);refine iG func123 ntmps123 (fun w0 E0 hG=> ?_);(repeat' first|intro hb hp|refine ac [] rfl hG y (.cons fR (.cons fR (.cons fR (.cons fR (.cons (Sub.any _) .nil))))) .nil U U U U ?_|refine LW.is (gp U Kp U U ?_)|refine am ?_|refine ak ?_ ?_|fail)
 all_goals exact aM U U wK U
abbrev bQ(c:Cat)(ps:List Pg)(n:Int):Box:=⟨112,.l [.iv (.sl (c.ts.map Tab.c)),.iv (.sl (c.is.map Idx.c)),.iv (.sl (ps.map Pg.c)),aI n]⟩
def oE{K:Nat}{l:List (List Val)}(h:l≠ []):Fc K l= .bsh K 0 l.length 1:=by
 cases l with
 |nil=>exact absurd U h
 |cons a l=>rfl
def mi{K:Nat}{l:List (List Val)}(h:l≠ []):CB K l= [(K,bv l)]:=by
 cases l with
 |nil=>exact absurd U h
 |cons a l=>rfl
def zR{α:Type}(p:α→Bool){l:List α}{i:Nat}{x:α}(h:l[i]?=some x):(l.take (i+1)).filter p=(l.take i).filter p++(if p x=true then [x] else []):=by
 rw[dg h,List.filter_append];congr 1;by_cases e:p x=true<;>simp[e]
def rm{α:Type}(p:α→Bool)(l:List α)(i:Nat):((l.take i).filter p).length≤l.length:=Nat.le_trans (List.length_filter_le ..) (by rw[lT];omega)
def nv{α:Type}{le:α→α→Bool}{l:List α}(h:l≠ []):l.mergeSort le≠ []:=fun e=>h (nZ (by rw[←List.length_mergeSort (le:=le) l,e];rfl))
def DW{gs:au}(c:Cat)(ps:List Pg)(n:Int)(t:Tab)(e:Ex)(he:e.Ok)(w:Way)(R:List (List Val))(hR:R.length≤1000000)
 (kw:CallA prog 121 [.agg (c.c.map .iv),.agg (t.c.map .iv),aI 0,.agg (e.cs.map .iv)] [] [] [] (.agg (w.c.map .iv)))
 (kr:CallG gs prog 27 [.agg [.iv (.sl (ps.map Pg.c))],.agg (t.c.map .iv),.agg (w.c.map .iv)] [] (CB 1000 R) [] (Fc 1000 R))
 (h0: ∀x∈R,x≠ []) (hk: ∀x∈R,∀y∈R,x.getD 0 af=y.getD 0 af→x=y):
 CallG gs prog 96 [.ptr 1010 0,.agg (t.c.map .iv),.agg (e.cs.map .iv)] [(1010,bQ c ps n)] ((1010,bQ c ps n)::CB 1000 ((R.filter (bM e)).mergeSort (cM sr))) [] (Fc 1000 ((R.filter (bM e)).mergeSort (cM sr))):=by
 refine iG func96 ntmps96 (fun w0 E0 hG=> ?_);have ks:=CW (gs:=gs);by_cases hRe:R= []
 · subst hRe;rw[show((([]:List (List Val)).filter (bM e)).mergeSort (cM sr))= [] by simp];(repeat' first|intro hb hp|refine fe [] rfl hG kr rfl rfl rfl rfl rfl ?_|refine am ?_|refine ak ?_ ?_|fail)
   refine ae (ι:=Nat) (fun i=>⟨[(24,aI 0),(23,aI 0),(7,.nils)],[(1010,bQ c ps n)],[]⟩) (fun i=>i) (fun i=>True) (i0:=0) ?_ trivial ?_
   · exact Wk.mk' kK (wG (wG (wG .nil))) B1 .nil
   intro i _ K hK;(repeat' first|intro hb hp|refine ac [] rfl hG ks (.cons fR (.cons (Sub.any _) .nil)) .nil U U U U ?_|refine am ?_|refine ak ?_ ?_|fail)
   all_goals exact L.ends U U sE wK
 rw[oE hRe,mi hRe] at kr;(repeat' first|intro hb hp|refine fe [1000] rfl hG kr rfl rfl rfl cZ rfl ?_|refine am ?_|refine ak ?_ ?_|fail)
 refine ae (ι:=Nat×List (List Val)) (fun i=>⟨[(24,aI (i.1:Int)),(23,aI (R.length:Int)),(22,.bsh 1000 0 R.length 1),(7,Fc 1001 i.2),(4,.ptr 4 0),(5,.ptr 5 0)],(1010,bQ c ps n)::(1000,bv R)::(5,⟨78,.l (e.cs.map .iv)⟩)::CB 1001 i.2,[]⟩) (fun i=>R.length - i.1) (fun i=>(R.take i.1).filter (bM e)=i.2) (i0:=(0,[])) ?_ U ?_
 · (refine Wk.mk' kK ?_ ?_ ?_<;>repeat' (first|exact WkF.nil|exact WkB.nil|exact WkT.nil|(refine wF ?_)|(refine wG ?_)|(refine wB ?_)))
 rintro ⟨i,F⟩ hI K hK;dsimp only at hI hK;have hFl:F.length≤R.length:=by rw[←hI];exact rm _ _ _
 cases hx:R[i]? with
 |none=>
  have q:decide ((i:Int)<(R.length:Int))=false:=decide_eq_false (by have:=gO hx;omega);rw[bc hx] at hI;rw[hI];clear hK;by_cases hF:F= []
  · subst hF;rw[show(([]:List (List Val)).mergeSort (cM sr))= [] by simp];(repeat' first|intro hb hp|refine ac [] rfl hG ks (.cons fR (.cons (Sub.any _) .nil)) .nil U U U U ?_|refine am ?_|refine ak ?_ ?_|fail)
    all_goals exact L.ends U U sE wK
  · have hFm: ∀x∈F,x∈R:=fun x hx=>by rw[←hI] at hx;exact(List.mem_filter.1 hx).1
    have ky:=(FE F hF C (fun x hx=>h0 x (hFm x hx)) (fun x hx y hy=>hk x (hFm x hx) y (hFm y hy))).toG (gs:=gs);rw[oE hF,mi hF,oE (nv hF),mi (nv hF),List.length_mergeSort];refine gK [(1000,1001)] U U U U ?_;(repeat' first|intro hb hp|refine ac [] rfl hG ky fS B1 rfl (gq hF) cZ U ?_|refine am ?_|refine ak ?_ ?_|fail)
    all_goals exact L.ends U U sE wK
 |some x=>
  have hlt':i<R.length:=(gS hx).1;have q:decide ((i:Int)<(R.length:Int))=true:=decide_eq_true C;have o1:(0+((i:Nat):Int).toNat)*1=i:=nN U;have b1:(i:Int)<(R.length:Int):=C;have p1:(0:Int)≤(i:Int):=C;have kh:=yk e he x;have hst:=zR (bM e) hx;rw[hI] at hst;have hFs:=rm (bM e) R (i+1);rw[hst,gV] at hFs;cases hh:bM e x with
  |false=>
   rw[hh] at kh;rw[hh,if_neg dD,List.append_nil] at hst;rcases F with _|⟨y,l⟩
   all_goals(repeat' first|intro hb hp|(refine LW.is ?_;first|refine ag U (az U U p1 b1 o1) ?_|refine ag U (aZ (es:=R.map ai) (k:=1) (i:=i) (f:=0) U U (jD R) C (pr hx) U) ?_)|refine am ?_|refine ak ?_ ?_|fail)
   all_goals refine hK _ (i+1,_) hst oD ?_
   all_goals(refine Wk.mk' kK ?_ ?_ ?_<;>repeat' (first|exact WkF.nil|exact WkB.nil|exact WkT.nil|(refine wF ?_)|(refine wG ?_)|(refine wB ?_)))
  |true=>
   rw[hh] at kh;rw[hh,if_pos U] at hst;rw[hh,if_pos U] at hFs;rcases F with _|⟨y,l⟩
   all_goals(repeat' first|intro hb hp|(refine LW.is ?_;first|refine od 1001 (news:= [ai x]) U U U (cK U) (cN _ _) (by simp[maxLen]) sP U ?_|apply eY 1004 (es:=(y::l).map ai) (n:=l.length+1) (news:= [ai x]) (er:=(y::l++ [x]).map ai) (nr:=(y::l++ [x]).length);rfl;rfl;rfl;rfl;exact .inl (row_ne (f:=ai) (k:=1) (fun _=>rfl) dD (cN y l));exact dU (f:=ai) (k:=1) (fun _=>rfl) (y::l);exact cK U;exact(by rw[lM];exact Nat.le_refl _);exact cN _ _;exact(by rw[fC];simp at hFs⊢;omega);exact(by simp at hFs⊢;omega);rfl;exact ij (y::l) x;exact sP|refine ag U (az U U p1 b1 o1) ?_|refine ag U (aZ (es:=R.map ai) (k:=1) (i:=i) (f:=0) U U (jD R) C (pr hx) U) ?_)|refine am ?_|refine ak ?_ ?_|fail)
   · refine hK _ (i+1,[x]) hst oD ?_;(refine Wk.mk' kK ?_ ?_ ?_<;>repeat' (first|exact WkF.nil|exact WkB.nil|exact WkT.nil|(refine wF ?_)|(refine wG ?_)|(refine wB ?_)))
   · refine gK [(1001,1004)] U U U U ?_;refine hK _ (i+1,y::l++ [x]) hst oD ?_;(refine Wk.mk' kK ?_ ?_ ?_<;>repeat' (first|exact WkF.nil|exact WkB.nil|exact WkT.nil|(refine wF ?_)|(refine wG ?_)|(refine wB ?_)))
def vH{gs:au}:CallG gs prog 197 [.iv (.sl []),aI 0,aI 0,.any] [] [] [] (.tup []):=by
 refine iG func197 ntmps197 (fun w0 E0 hG=> ?_);refine wz ?_;refine ae (ι:=Nat) (fun i=>⟨[(8,aI 1),(2,aI 0)],[],[]⟩) (fun i=>i) (fun i=>True) (i0:=0) ?_ trivial ?_
 · exact Wk.mk' kK (wG F1) .nil .nil
 intro i _ K hK;refine wz ?_;all_goals exact aM U U wK U
def AE{gs:au}:CallG gs prog 177 [.iv (.sl []),aI 0,.any] [] [] [] (.tup []):=by
 have y:=vH (gs:=gs);refine iG func177 ntmps177 (fun w0 E0 hG=> ?_);refine wz ?_;refine ae (ι:=Nat) (fun i=>⟨[(6,aI 20),(7,aI 0),(8,aI 20),(0,.iv (.sl [])),(1,aI 0),(2,.any)],[],[]⟩) (fun i=>i) (fun i=>True) (i0:=0) ?_ trivial ?_
 · exact Wk.mk' kK (wG (wG (wG F3))) .nil .nil
 intro i _ K hK;clear hK;(repeat' first|intro hb hp|refine ac [] rfl hG y (.cons fR (.cons fR (.cons fR (.cons (Sub.any _) .nil)))) .nil U U U U ?_|refine am ?_|refine ak ?_ ?_|fail)
 refine ae (ι:=Nat) (fun i=>⟨[(6,aI 20),(1,aI 0)],[],[]⟩) (fun i=>i) (fun i=>True) (i0:=0) ?_ trivial ?_
 · exact Wk.mk' kK (wG F1) .nil .nil
 intro i _ K hK;refine wz ?_;all_goals exact aM U U wK U
def tS{gs:au}:CallG gs prog 130 [.iv (.sl []),.any] [] [] [] (.tup []):=by
 have y:=AE (gs:=gs);refine iG func130 ntmps130 (fun w0 E0 hG=> ?_);(repeat' first|intro hb hp|refine ac [] rfl hG y (.cons fR (.cons fR (.cons (Sub.any _) .nil))) .nil U U U U ?_|refine am ?_|refine ak ?_ ?_|fail)
 all_goals exact aM U U wK U
end Go.Proofs.Y
namespace Go.Proofs.Y
open Go.Abs Go.Proofs.Tryz
attribute [local irreducible] L Code.wp bodyPost Exit.then Exit.inBlock
variable [Errs]
def mIr{L:List Nat}{t:TypeId}{xs:List IV}:AV.mentsIn L (Box.mk t (.r xs 0)).cs=true:=by simp only[Box.cs_r,List.replicate_zero,List.append_nil];exact AV.mentsIn_iv _ _
def Ms(tb:Str):Grows 78 [.ptr 1003 0,.ptr 1001 0] (sB 6 [] tb .nils .nils .nils .nils .nils) (fun i n=>sB 6 [] tb .nils .nils (.bsh i 0 n 9) .nils .nils) (fun l=>⟨144,.r (l.map Ast.c).flatten 0⟩) mG where
 gn l h:=kM (f:=Ast.c) (k:=9) (fun _=>rfl) dD h
 c0 r hr:=by
  have k1:=CA (dI r hr);have o1:=(bA r).ok hr;have k2:=dv (gs:=cA) (aq r).2 [[61]] o1 dD;have o2:=(bJ (aq r).2 [[61]]).ok o1;have k3:=tC (aL (aq r).2 [[61]]) o2;unfold mG;generalize mf 6 (aL (aq r).2 [[61]])=p3 at*
  generalize aL (aq r).2 [[61]] =r2 at*
  generalize aq r=p1 at*
  obtain⟨nm,r1⟩:=p1;obtain⟨e,r3⟩:=p3;dsimp only at*
  refine iG func78 ntmps78 (fun w0 E0 hG=> ?_);(repeat' first|intro hb hp|(refine LW.is ?_;first|refine s_Q ?_|refine od 1002 (news:= [Ast.c (Ast.mk nm e)]) U U U (cK U) (cN _ _) (by simp[maxLen]) sP U ?_)|refine am ?_|refine ak ?_ ?_|fail)
  exact aM U U wK U
 c1 r l hr hl hn:=by
  have k1:=CA (dI r hr);have o1:=(bA r).ok hr;have k2:=dv (gs:=cA) (aq r).2 [[61]] o1 dD;have o2:=(bJ (aq r).2 [[61]]).ok o1;have k3:=tC (aL (aq r).2 [[61]]) o2;unfold mG;generalize mf 6 (aL (aq r).2 [[61]])=p3 at*
  generalize aL (aq r).2 [[61]] =r2 at*
  generalize aq r=p1 at*
  obtain⟨nm,r1⟩:=p1;obtain⟨e,r3⟩:=p3;dsimp only at*
  refine iG func78 ntmps78 (fun w0 E0 hG=> ?_);(repeat' first|intro hb hp|(refine LW.is ?_;first|refine s_Q ?_|apply eY 1004 (es:=l.map Ast.c) (n:=l.length) (news:= [Ast.c (Ast.mk nm e)]) (er:=(l++ [Ast.mk nm e]).map Ast.c) (nr:=l.length+1);rfl;rfl;rfl;rfl;exact .inl (row_ne (f:=Ast.c) (k:=9) (fun _=>rfl) dD hl);exact dU (f:=Ast.c) (k:=9) (fun _=>rfl) l;exact cK U;exact(by rw[lM];exact Nat.le_refl _);exact cN _ _;exact(by simp[maxLen];omega);exact(by simp;omega);rfl;exact ij l (Ast.mk nm e);rfl)|refine am ?_|refine ak ?_ ?_|fail)
  exact aM U U wK U
def Mt(tb:Str):Grows 74 [.ptr 1003 0,.ptr 1001 0] (sB 4 [] tb .nils .nils .nils .nils .nils) (fun i n=>sB 4 [] tb .nils (.bsh i 0 n 1) .nils .nils .nils) (fun l=>⟨76,.r (l.map bg).flatten 0⟩) mI where
 gn l h:=kM (f:=bg) (k:=1) (fun _=>rfl) dD h
 c0 r hr:=by
  have k1:=dv (gs:=cA) r [[40]] hr dD;have o1:=(bJ r [[40]]).ok hr;unfold mI;have hne:=zy (step:=mf 6) (r:=aL r [[40]]);have o2:=(ig (fj 6) (aL r [[40]])).ok o1;have k3:=dv (gs:=cA) (aP (mf 6) (aL r [[40]])).2 [[41]] o2 dD;have kb:=vD uk (aL r [[40]]);have kl:=vE uk (fj 6) (aL r [[40]]) o1;have hz:(aL r [[40]]).bad=true→aP (mf 6) (aL r [[40]])=([],aL r [[40]]):=fun h=>by unfold aP dN;rw[if_pos h]
  generalize hq:aP (mf 6) (aL r [[40]])=p at*
  generalize aL r [[40]] =r1 at*
  obtain⟨row,r2⟩:=p;dsimp only at*
  generalize aL r2 [[41]] =r3 at*
  clear hq;refine iG func74 ntmps74 (fun w0 E0 hG=> ?_);cases hb:r1.bad with
  |true=>
   have hz:=hz hb;cases hz;have kb:=(kb hb).sws [(1001,2),(1002,1005)] (args2:= [.ptr 1000 0,.fn 75 [.ptr 2 0,.ptr 1003 0]]) (bx2:= [(1000,ep r1),(2,⟨76,.l [.nils]⟩),(1003,pB)]) (bx2':= [(1000,ep r1),(2,⟨76,.l [.nils]⟩),(1003,pB)]) (tk2':= []) (res2:= .tup []) U U U U U;(repeat' first|intro hb hp|refine ac [] rfl hG kb fS B3 rfl rfl (by simp[-Box.cs_r,mIr,AV.mentsIn,AV.mentIn,keys]) U ?_|(refine LW.is ?_;first|refine s_Q ?_|refine od 1002 (news:= [bg []]) U U U (cK U) (cN _ _) (by simp[maxLen]) sP U ?_)|refine am ?_|refine ak ?_ ?_|fail)
   exact aM U U wK U
  |false=>
   have hr0:=hne hb;have kl:=(kl hb).sws [(1001,2),(1002,1005)] (args2:= [.ptr 1000 0,.fn 75 [.ptr 2 0,.ptr 1003 0]]) (bx2:= [(1000,ep r1),(2,⟨76,.l [.nils]⟩),(1003,pB)]) (bx2':= [(1000,ep r2),(2,⟨76,.l [.bsh 1005 0 row.length 8]⟩),(1003,pB),(1005,⟨78,.r (row.map Ex.c).flatten 0⟩)]) (tk2':= []) (res2:= .tup []) U U U U U;(repeat' first|intro hb hp|refine L.pubB 1005 2 (es:=row.map Ex.c) (k:=8) U U (dU jo row) dD (by simpa using hr0) (lM _) U (cN _ _) U (.cons .here .nil) ?_|refine ac [1005] U hG kl fS B3 U U (by simp[-Box.cs_r,mIr,AV.mentsIn,AV.mentIn,keys]) U ?_|(refine LW.is ?_;first|refine s_Q ?_|refine od 1002 (news:= [bg row]) U U U (cK U) (cN _ _) (by simp[maxLen]) sP U ?_)|refine am ?_|refine ak ?_ ?_|fail)
   exact aM U U wK U
 c1 r l hr hl hn:=by
  have k1:=dv (gs:=cA) r [[40]] hr dD;have o1:=(bJ r [[40]]).ok hr;unfold mI;have hne:=zy (step:=mf 6) (r:=aL r [[40]]);have o2:=(ig (fj 6) (aL r [[40]])).ok o1;have k3:=dv (gs:=cA) (aP (mf 6) (aL r [[40]])).2 [[41]] o2 dD;have kb:=vD uk (aL r [[40]]);have kl:=vE uk (fj 6) (aL r [[40]]) o1;have hz:(aL r [[40]]).bad=true→aP (mf 6) (aL r [[40]])=([],aL r [[40]]):=fun h=>by unfold aP dN;rw[if_pos h]
  generalize hq:aP (mf 6) (aL r [[40]])=p at*
  generalize aL r [[40]] =r1 at*
  obtain⟨row,r2⟩:=p;dsimp only at*
  generalize aL r2 [[41]] =r3 at*
  clear hq;have hlv:(Box.mk 76 (.r (l.map bg).flatten 0)).cs.isEmpty=false:=kM (f:=bg) (k:=1) (fun _=>rfl) dD hl;refine iG func74 ntmps74 (fun w0 E0 hG=> ?_);cases hb:r1.bad with
  |true=>
   have hz:=hz hb;cases hz;have kb:=(kb hb).sws [(1001,2),(1002,1005)] (args2:= [.ptr 1000 0,.fn 75 [.ptr 2 0,.ptr 1003 0]]) (bx2:= [(1000,ep r1),(2,⟨76,.l [.nils]⟩),(1003,pB)]) (bx2':= [(1000,ep r1),(2,⟨76,.l [.nils]⟩),(1003,pB)]) (tk2':= []) (res2:= .tup []) U U U U U;(repeat' first|intro hb hp|refine ac [] rfl hG kb fS B3 rfl rfl (by simp[-Box.cs_r,mIr,AV.mentsIn,AV.mentIn,keys]) U ?_|(refine LW.is ?_;first|refine s_Q ?_|apply eY 1004 (es:=l.map bg) (n:=l.length) (news:= [bg []]) (er:=(l++ [[]]).map bg) (nr:=l.length+1);rfl;rfl;rfl;rfl;exact .inl (row_ne (f:=bg) (k:=1) (fun _=>rfl) dD hl);exact dU (f:=bg) (k:=1) (fun _=>rfl) l;exact cK U;exact(by rw[lM];exact Nat.le_refl _);exact cN _ _;exact(by simp[maxLen];omega);exact(by simp;omega);rfl;exact ij l [];rfl)|refine am ?_|refine ak ?_ ?_|fail)
   exact aM U U wK U
  |false=>
   have hr0:=hne hb;have kl:=(kl hb).sws [(1001,2),(1002,1005)] (args2:= [.ptr 1000 0,.fn 75 [.ptr 2 0,.ptr 1003 0]]) (bx2:= [(1000,ep r1),(2,⟨76,.l [.nils]⟩),(1003,pB)]) (bx2':= [(1000,ep r2),(2,⟨76,.l [.bsh 1005 0 row.length 8]⟩),(1003,pB),(1005,⟨78,.r (row.map Ex.c).flatten 0⟩)]) (tk2':= []) (res2:= .tup []) U U U U U;(repeat' first|intro hb hp|refine L.pubB 1005 2 (es:=row.map Ex.c) (k:=8) (by simp[-Box.cs_r,keys,List.lookup,hlv]) U (dU jo row) dD (by simpa using hr0) (lM _) U (cN _ _) U (.cons .here .nil) ?_|refine ac [1005] U hG kl fS B3 U U (by simp[-Box.cs_r,mIr,AV.mentsIn,AV.mentIn,keys]) U ?_|(refine LW.is ?_;first|refine s_Q ?_|apply eY 1004 (es:=l.map bg) (n:=l.length) (news:= [bg row]) (er:=(l++ [row]).map bg) (nr:=l.length+1);rfl;rfl;rfl;rfl;exact .inl (row_ne (f:=bg) (k:=1) (fun _=>rfl) dD hl);exact dU (f:=bg) (k:=1) (fun _=>rfl) l;exact cK U;exact(by rw[lM];exact Nat.le_refl _);exact cN _ _;exact(by simp[maxLen];omega);exact(by simp;omega);rfl;exact ij l row;rfl)|refine am ?_|refine ak ?_ ?_|fail)
   exact aM U U wK U
end Go.Proofs.Y
namespace Go.Abs
open Go.RowKit (Below)
def CallG.pubB(K j:Nat){gs:au}{P:Program}{f:FuncId}{args:List AV}{bxi bxo bx2:List (Nat×Box)}{k n:Nat}{ty:TypeId}{es:List (List IV)}{bj:Box}{cs:List AV}(hin:(keys bxi).all (fun i=>(i !=K) && (match bxo.lookup i with|some b=> !b.cs.isEmpty|none=>false))=true)(hb:bxo.lookup K=some ⟨ty,.r es.flatten 0⟩)(hk: ∀e∈es,e.length=k)(hk0:0<k)(hne:es≠ [])(hn:es.length=n)
 (hj:bxo.lookup j=some bj) (hjn:bj.cs≠ []) (hjk:(j==K)=false) (hp:Pubs K n k (.sl es) bj.cs cs) (hw:WkB ((j,⟨bj.ty,.l cs⟩)::(K,⟨ty,.l []⟩)::bxo) bx2) (hl: ∀id∈keys bxi,(bx2.lookup id).isSome=true)
 (h:CallG gs P f args bxi bxo [] (.tup [])):CallG gs P f args bxi bx2 [] (.tup []):=by
 intro E w us h1 h2 h3;refine(h E w us h1 h2 h3).mono ?_;rintro e w' ⟨u,E',he,hu,hh⟩;have hu2:u= .tuple #[]:=by
  cases hu with
  | @tup _ us hl _=>have:us= []:=by simpa using hl
                    rw[this]
 have:=L.pubB K j (c:=⟨0,w,E,keys bxi⟩) (st:=⟨[],bxo,[]⟩) (X:=fun _ w''=> ∃E2,HInv ⟨0,w,E,keys bxi⟩ E2 bx2 [] w'') hin hb hk hk0 hne hn hj hjn hjk hp (by
  rintro a w'' ⟨E2,hi⟩;exact⟨E2,hi.heap.wk (st':=⟨[],bx2,[]⟩) (Wk.mk' hl .nil hw .nil)⟩) ({tmps:= #[],defers:= []}:Act) w' ⟨E',⟨rfl,rfl,fun s v h=>by simp at h,hh⟩⟩
 obtain⟨E2,hE2⟩:=this;exact⟨u,E2,he,by rw[hu2];exact .tup (us:= []) U (fun i c u h=>by simp at h),hE2⟩
end Go.Abs
namespace Go.Proofs.Y
open Go.Abs Go.Proofs.Tryz
attribute [local irreducible] L Code.wp bodyPost Exit.then Exit.inBlock
variable [Errs]
def oq{α:Type}{f:FuncId}[CallTy prog f]{caps:List AV}{b0:Box}{b:Nat→Nat→Box}{step:Rd→α×Rd}{c:α→List IV}{ty:TypeId}(k:Nat)(bp:IV→List AV)(h:Grows f caps b0 b (fun l=>⟨ty,.r (l.map c).flatten 0⟩) step)(hs: ∀r,Sf r (step r).2)
 (hk: ∀x,(c x).length=k) (hk0:0<k) (h0:Subs b0.cs (bp (.sl []))) (hp: ∀n es,Pubs 1002 n k (.sl es) (b 1002 n).cs (bp (.sl es))) (r:Rd) (hr:RdOk r):
 CallG cA prog 71 [.ptr 1000 0,.fn f caps] [(1000,ep r),(1001,b0),(1003,pB)] [(1000,ep (aP step r).2),(1001,⟨b0.ty,.l (bp (.sl ((aP step r).1.map c)))⟩),(1003,pB)] [] (.tup []):=by
 cases hb:r.bad with
 |true=>
  have e:aP step r=([],r):=by unfold aP dN;rw[if_pos hb]
  rw[e];exact fun E w us h1 h2 h3=>(vD h r hb E w us h1 h2 h3).mono (fun e w' ⟨u,E',he,hu,hh⟩=>⟨u,E',he,hu,hh.wk (st:=⟨[],[(1000,ep r),(1001,b0),(1003,pB)],[]⟩) (st':=⟨[],_,[]⟩) (Wk.mk' kK .nil (wB (.cons U U h0 B1)) .nil)⟩)
 |false=>
  have hne:=zy (step:=step) hb;have hz:=h.v 1002 (aP step r).1.length;refine CallG.pubB 1002 1001 (bj:=b 1002 (aP step r).1.length) (es:=(aP step r).1.map c) (k:=k) (n:=(aP step r).1.length) (cs:=bp (.sl ((aP step r).1.map c))) ?_ U (dU hk _) hk0 (by simpa using hne) (lM _) U ?_ U (hp _ _) ?_ (fE U) (vE h hs r hr hb)
  · simp[-Box.cs_r,keys,List.lookup,hz]
  · intro e;rw[e] at hz;cases hz
  · exact wB (.cons U (h.vt _ _) fS B1)
def Sub.nilsI:Sub .nils (.iv (.sl [])):=fun _ _ _ h=>by cases h;exact .iv .nil
def CS(r:Rd)(hr:RdOk r)(h1:(al r [bu,bZ]).1=true):
 CallG cA prog 43 [.ptr 1000 0] [(1000,ep r)] [(1000,ep (mL (al r [bu,bZ]).2).2)] [] (.agg ((mL (al r [bu,bZ]).2).1.cs.map .iv)):=by
 have k1:=aQ (gs:=cA) r [bu,bZ] hr dD;rw[h1] at k1;have o:=(aV r [bu,bZ]).ok hr;generalize (al r [bu,bZ]).2=r1 at*
 clear h1;unfold mL;have kn:=CA (dI r1 o);have on:=(bA r1).ok o;have kt:=dv (gs:=cA) (aq r1).2 [[40]] on dD;have ot:=(bJ (aq r1).2 [[40]]).ok on;have kl:=(oq 3 (fun x=>(sB 1 (aq r1).1 [] (.iv x) .nils .nils .nils .nils).cs) (Mu (aq r1).1) uI (c:=Col.c) (fun _=>rfl) dD (by(repeat' (first|exact Subs.nil|refine Subs.cons fR ?_|refine Subs.cons Sub.nilsI ?_))) (fun n es=>by(repeat' (first|exact Pubs.nil|refine Pubs.cons Pub.here ?_|refine Pubs.cons Pub.same ?_))) (aL (aq r1).2 [[40]]) ot).sws [(1001,3),(1003,1)] (args2:= [.ptr 1000 0,.fn 72 [.ptr 3 0,.ptr 1 0]]) (bx2:= [(1000,ep (aL (aq r1).2 [[40]])),(3,sB 1 (aq r1).1 [] .nils .nils .nils .nils .nils),(1,pB)]) (bx2':= [(1000,ep (aP iq (aL (aq r1).2 [[40]])).2),(3,sB 1 (aq r1).1 [] (.iv (.sl ((aP iq (aL (aq r1).2 [[40]])).1.map Col.c))) .nils .nils .nils .nils),(1,pB)]) (tk2':= []) (res2:= .tup []) U U U U U;have ol:=(ig uI (aL (aq r1).2 [[40]])).ok ot;have ke:=dv (gs:=cA) (aP iq (aL (aq r1).2 [[40]])).2 [[41]] ol dD;generalize aL (aP iq (aL (aq r1).2 [[40]])).2 [[41]] =r5 at*
 generalize aP iq (aL (aq r1).2 [[40]])=p4 at*
 generalize aL (aq r1).2 [[40]] =r3 at*
 generalize aq r1=p2 at*
 obtain⟨nm,r2⟩:=p2;obtain⟨cols,r4⟩:=p4;dsimp only at*
 refine iG func43 ntmps43 (fun w0 E0 hG=> ?_);(repeat' first|intro hb hp|refine ac [] rfl hG kl fS B3 rfl rfl rfl rfl ?_|refine LW.is (s_Q ?_)|refine am ?_|refine ak ?_ ?_|fail)
 all_goals refine gM ?_ ?_
 all_goals rfl
def Hu(r:Rd)(hr:RdOk r)(h1:(al r [bu,bZ]).1=false)(h2:(al r [bu,ez]).1=true):
 CallG cA prog 43 [.ptr 1000 0] [(1000,ep r)] [(1000,ep (sb (al r [bu,ez]).2).2)] [] (.agg ((sb (al r [bu,ez]).2).1.cs.map .iv)):=by
 have k1:=aQ (gs:=cA) r [bu,bZ] hr dD;have k2:=aQ (gs:=cA) r [bu,ez] hr dD;rw[h1,cE h1] at k1;rw[h2] at k2;have o:=(aV r [bu,ez]).ok hr;generalize (al r [bu,ez]).2=r1 at*
 clear h1 h2;unfold sb;have kn1:=CA (dI r1 o);have o1:=(bA r1).ok o;have kt1:=dv (gs:=cA) (aq r1).2 [wON] o1 dD;have o2:RdOk (qR r1):=(bJ (aq r1).2 [wON]).ok o1;unfold qR at*
 generalize aL (aq r1).2 [wON] =r3 at*
 have kn2:=CA (dI r3 o2);have o3:=(bA r3).ok o2;have kt2:=dv (gs:=cA) (aq r3).2 [[40]] o3 dD;have o4:RdOk (ue r3):=(bJ (aq r3).2 [[40]]).ok o3;unfold ue at*
 generalize aL (aq r3).2 [[40]] =r5 at*
 have kn3:=CA (dI r5 o4);have o5:=(bA r5).ok o4;have kt3:=dv (gs:=cA) (aq r5).2 [[41]] o5 dD;generalize aL (aq r5).2 [[41]] =r7 at*
 generalize aq r5=p6 at*
 generalize aq r3=p4 at*
 generalize aq r1=p2 at*
 obtain⟨nm1,r2⟩:=p2;obtain⟨nm2,r4⟩:=p4;obtain⟨nm3,r6⟩:=p6;dsimp only at*
 refine iG func43 ntmps43 (fun w0 E0 hG=> ?_);(repeat' first|intro hb hp|refine LW.is (s_Q ?_)|refine am ?_|refine ak ?_ ?_|fail)
 all_goals refine gM ?_ ?_
 all_goals rfl
def Hv(r:Rd)(hr:RdOk r)(h1:(al r [bu,bZ]).1=false)(h2:(al r [bu,ez]).1=false)(h3:(al r [iR,bZ]).1=true):
 CallG cA prog 43 [.ptr 1000 0] [(1000,ep r)] [(1000,ep (vc (al r [iR,bZ]).2).2)] [] (.agg ((vc (al r [iR,bZ]).2).1.cs.map .iv)):=by
 have k1:=aQ (gs:=cA) r [bu,bZ] hr dD;have k2:=aQ (gs:=cA) r [bu,ez] hr dD;have k3:=aQ (gs:=cA) r [iR,bZ] hr dD;rw[h1,cE h1] at k1;rw[h2,cE h2] at k2;rw[h3] at k3;have o:=(aV r [iR,bZ]).ok hr;generalize (al r [iR,bZ]).2=r1 at*
 clear h1 h2 h3;unfold vc;have kn:=CA (dI r1 o);generalize aq r1=p2 at*
 obtain⟨nm,r2⟩:=p2;dsimp only at*
 refine iG func43 ntmps43 (fun w0 E0 hG=> ?_);(repeat' first|intro hb hp|refine LW.is (s_Q ?_)|refine am ?_|refine ak ?_ ?_|fail)
 all_goals refine gM ?_ ?_
 all_goals rfl
def CQ(r:Rd)(hr:RdOk r)(h1:(al r [bu,bZ]).1=false)(h2:(al r [bu,ez]).1=false)(h3:(al r [iR,bZ]).1=false)(h4:(al r [ew,jK]).1=true):
 CallG cA prog 43 [.ptr 1000 0] [(1000,ep r)] [(1000,ep (mJ (al r [ew,jK]).2).2)] [] (.agg ((mJ (al r [ew,jK]).2).1.cs.map .iv)):=by
 have k1:=aQ (gs:=cA) r [bu,bZ] hr dD;have k2:=aQ (gs:=cA) r [bu,ez] hr dD;have k3:=aQ (gs:=cA) r [iR,bZ] hr dD;have k4:=aQ (gs:=cA) r [ew,jK] hr dD;rw[h1,cE h1] at k1;rw[h2,cE h2] at k2;rw[h3,cE h3] at k3;rw[h4] at k4;have o:=(aV r [ew,jK]).ok hr;generalize (al r [ew,jK]).2=r1 at*
 clear h1 h2 h3 h4;unfold mJ;have kn:=CA (dI r1 o);have on:=(bA r1).ok o;have kt:=dv (gs:=cA) (aq r1).2 [ic] on dD;have ot:=(bJ (aq r1).2 [ic]).ok on;have kl:=(oq 1 (fun x=>(sB 4 [] (aq r1).1 .nils (.iv x) .nils .nils .nils).cs) (Mt (aq r1).1) zd (c:=bg) (fun _=>rfl) dD (by(repeat' (first|exact Subs.nil|refine Subs.cons fR ?_|refine Subs.cons Sub.nilsI ?_))) (fun n es=>by(repeat' (first|exact Pubs.nil|refine Pubs.cons Pub.here ?_|refine Pubs.cons Pub.same ?_))) (aL (aq r1).2 [ic]) ot).sws [(1001,3),(1003,1)] (args2:= [.ptr 1000 0,.fn 74 [.ptr 1 0,.ptr 3 0]]) (bx2:= [(1000,ep (aL (aq r1).2 [ic])),(3,sB 4 [] (aq r1).1 .nils .nils .nils .nils .nils),(1,pB)]) (bx2':= [(1000,ep (aP mI (aL (aq r1).2 [ic])).2),(3,sB 4 [] (aq r1).1 .nils (.iv (.sl ((aP mI (aL (aq r1).2 [ic])).1.map bg))) .nils .nils .nils),(1,pB)]) (tk2':= []) (res2:= .tup []) U U U U U;generalize aP mI (aL (aq r1).2 [ic])=p4 at*
 generalize aL (aq r1).2 [ic] =r3 at*
 generalize aq r1=p2 at*
 obtain⟨nm,r2⟩:=p2;obtain⟨rows,r4⟩:=p4;dsimp only at*
 refine iG func43 ntmps43 (fun w0 E0 hG=> ?_);(repeat' first|intro hb hp|refine ac [] rfl hG kl fS B3 rfl rfl rfl rfl ?_|refine LW.is (s_Q ?_)|refine am ?_|refine ak ?_ ?_|fail)
 all_goals refine gM ?_ ?_
 all_goals rfl
def CR(r:Rd)(hr:RdOk r)(h1:(al r [bu,bZ]).1=false)(h2:(al r [bu,ez]).1=false)(h3:(al r [iR,bZ]).1=false)(h4:(al r [ew,jK]).1=false)(h5:(al r [fq,fp]).1=true):
 CallG cA prog 43 [.ptr 1000 0] [(1000,ep r)] [(1000,ep (mK (al r [fq,fp]).2).2)] [] (.agg ((mK (al r [fq,fp]).2).1.cs.map .iv)):=by
 have k1:=aQ (gs:=cA) r [bu,bZ] hr dD;have k2:=aQ (gs:=cA) r [bu,ez] hr dD;have k3:=aQ (gs:=cA) r [iR,bZ] hr dD;have k4:=aQ (gs:=cA) r [ew,jK] hr dD;have k5:=aQ (gs:=cA) r [fq,fp] hr dD;rw[h1,cE h1] at k1;rw[h2,cE h2] at k2;rw[h3,cE h3] at k3;rw[h4,cE h4] at k4;rw[h5] at k5;have o:=(aV r [fq,fp]).ok hr;generalize (al r [fq,fp]).2=r1 at*
 clear h1 h2 h3 h4 h5;unfold mK;have kn:=CA (dI r1 o);have kw:=pY (aq r1).2 ((bA r1).ok o);generalize di (aq r1).2=p3 at*
 generalize aq r1=p2 at*
 obtain⟨nm,r2⟩:=p2;obtain⟨e,r3⟩:=p3;dsimp only at*
 refine iG func43 ntmps43 (fun w0 E0 hG=> ?_);(repeat' first|intro hb hp|refine LW.is (s_Q ?_)|refine am ?_|refine ak ?_ ?_|fail)
 all_goals refine gM ?_ ?_
 all_goals rfl
def CO(r:Rd)(hr:RdOk r)(h1:(al r [bu,bZ]).1=false)(h2:(al r [bu,ez]).1=false)(h3:(al r [iR,bZ]).1=false)(h4:(al r [ew,jK]).1=false)(h5:(al r [fq,fp]).1=false)(h6:(al r [go]).1=true):
 CallG cA prog 43 [.ptr 1000 0] [(1000,ep r)] [(1000,ep (mF (al r [go]).2).2)] [] (.agg ((mF (al r [go]).2).1.cs.map .iv)):=by
 have k1:=aQ (gs:=cA) r [bu,bZ] hr dD;have k2:=aQ (gs:=cA) r [bu,ez] hr dD;have k3:=aQ (gs:=cA) r [iR,bZ] hr dD;have k4:=aQ (gs:=cA) r [ew,jK] hr dD;have k5:=aQ (gs:=cA) r [fq,fp] hr dD;have k6:=aQ (gs:=cA) r [go] hr dD;rw[h1,cE h1] at k1;rw[h2,cE h2] at k2;rw[h3,cE h3] at k3;rw[h4,cE h4] at k4;rw[h5,cE h5] at k5;rw[h6] at k6;have o:=(aV r [go]).ok hr;generalize (al r [go]).2=r1 at*
 clear h1 h2 h3 h4 h5 h6;unfold mF nk;have kn:=CA (dI r1 o);have on:=(bA r1).ok o;have kt:=dv (gs:=cA) (aq r1).2 [tN] on dD;have ot:=(bJ (aq r1).2 [tN]).ok on;have kl:=(oq 9 (fun x=>(sB 6 [] (aq r1).1 .nils .nils (.iv x) .nils .nils).cs) (Ms (aq r1).1) uH (c:=Ast.c) (fun _=>rfl) dD (by(repeat' (first|exact Subs.nil|refine Subs.cons fR ?_|refine Subs.cons Sub.nilsI ?_))) (fun n es=>by(repeat' (first|exact Pubs.nil|refine Pubs.cons Pub.here ?_|refine Pubs.cons Pub.same ?_))) (aL (aq r1).2 [tN]) ot).sws [(1001,3),(1003,1)] (args2:= [.ptr 1000 0,.fn 78 [.ptr 1 0,.ptr 3 0]]) (bx2:= [(1000,ep (aL (aq r1).2 [tN])),(3,sB 6 [] (aq r1).1 .nils .nils .nils .nils .nils),(1,pB)]) (bx2':= [(1000,ep (aP mG (aL (aq r1).2 [tN])).2),(3,sB 6 [] (aq r1).1 .nils .nils (.iv (.sl ((aP mG (aL (aq r1).2 [tN])).1.map Ast.c))) .nils .nils),(1,pB)]) (tk2':= []) (res2:= .tup []) U U U U U;have kw:=pY (aP mG (aL (aq r1).2 [tN])).2 ((ig uH _).ok ot);generalize di (aP mG (aL (aq r1).2 [tN])).2=p5 at*
 generalize aP mG (aL (aq r1).2 [tN])=p4 at*
 generalize aL (aq r1).2 [tN] =r3 at*
 generalize aq r1=p2 at*
 obtain⟨nm,r2⟩:=p2;obtain⟨sets,r4⟩:=p4;obtain⟨e,r5⟩:=p5;dsimp only at*
 refine iG func43 ntmps43 (fun w0 E0 hG=> ?_);(repeat' first|intro hb hp|refine ac [] rfl hG kl fS B3 rfl rfl rfl rfl ?_|refine LW.is (s_Q ?_)|refine am ?_|refine ak ?_ ?_|fail)
 all_goals refine gM ?_ ?_
 all_goals rfl
end Go.Proofs.Y
