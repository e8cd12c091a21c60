/- Lemmas towards the law. Conditions: each one says its own. -/
import Derived.Test.YtnhmohbhgocbjaaGreatDoorZU11
import Derived.Test.YtnhmohbhgocbjaaGreatDoorZU14
set_option linter.all false
set_option maxHeartbeats 64000000
set_option maxRecDepth 100000
namespace Go.Proofs.Y
open Go.Abs Go.Proofs.Tryz
attribute [local irreducible] L Code.wp bodyPost Exit.then Exit.inBlock
def yQ(s:A9)(x:List A3):List A3:=s.out.map (aC x)
def qN(s:A9)(l:List (List A3)):List (List A3):=if 0<=s.n/\s.n<(l.length:Int) then l.take s.n.toNat else l
def Al(s:A9)(wide:Nat)(J:List (List A3)):List (List A3):=(qN s ((J.filter (bL s.wh)).mergeSort (cL (dc s wide)))).map (yQ s)
def Dk{s:A9}{l F:List (List A3)}{b:A5}(h:l≠ [])(hF:F≠ []):dV [1002] ((1000,bu l)::nI s) ((1002,bu F)::(1000,b)::nI s)=true:=by
 have h1:=lz h;have h2:=lz hF;cases T:(l.map ai).flatten with
 |nil=>exact absurd T h1
 |cons x xs=>
  cases hr:(F.map ai).flatten with
  |nil=>exact absurd hr h2
  |cons y ys=>simp only[dV,keys,bu,T,hr];rfl
def Dj{L:List Nat}{s:A9}{l:List (List A3)}:((1002,bu l)::(1000,(⟨35,.l []⟩:A5))::nI s).all (fun p=>AV.mentsIn L p.2.cs)=true:=by
 have:=cZ (L:=L) (l:=l) (id:=1000);simp only[List.all_cons,List.all_nil,Bool.and_true] at this;simp only[List.all_cons,List.all_nil,Bool.and_true,this,Bool.true_and];simp[A9.cs,AV.mentsIn,AV.mentIn]
def pM{gs:aw}(c:B0)(ps:List Pg)(n:Int)(s:A9)(a:A4)(w:Way)(R J:List (List A3))(hR:R.length<=1000000)(hJ:J.length<=1000000)
 (b5:s.wh.Ok) (cR: ∀e∈s.ord,e.Ok) (cS:s.ord.length<=140737488355328) (b6: ∀e∈s.out,e.Ok) (cX:s.out.length*104<=140737488355328)
 (n0:Str) (b7:s.frm[0]?=some n0)
 (ka:CallA prog 53 [.agg (c.c.map .iv),aS n0] [] [] [] (.tup [.agg (a.c.map .iv),.iv (B true)]))
 (kw:CallA prog 121 [.agg (c.c.map .iv),.agg (a.c.map .iv),aI 0,.agg (s.wh.cs.map .iv)] [] [] [] (.agg (w.c.map .iv)))
 (kr:CallG gs prog 27 [.agg [.iv (.sl (ps.map Pg.c))],.agg (a.c.map .iv),.agg (w.c.map .iv)] [] (Cd 1000 R) [] (EC 1000 R))
 (one:s.frm.length≠2->J=R)
 (two:s.frm.length=2-> ∃(n1:Str) (b:A4) (w2:List A3->Way) (R2:List A3->List (List A3)),s.frm[1]?=some n1/\
   CallA prog 53 [.agg (c.c.map .iv),aS n1] [] [] [] (.tup [.agg (b.c.map .iv),.iv (B true)])/\
   (∀x∈R,CallA prog 121 [.agg (c.c.map .iv),.agg (b.c.map .iv),aI (x.length:Int),.agg ((bo x s.wh).cs.map .iv)] [] [] [] (.agg ((w2 x).c.map .iv)))/\
   (∀x∈R,CallG gs prog 27 [.agg [.iv (.sl (ps.map Pg.c))],.agg (b.c.map .iv),.agg ((w2 x).c.map .iv)] [] (Cd 1000 (R2 x)) [] (EC 1000 (R2 x)))/\
   J=R.flatMap (fun x=>(R2 x).map (x++ ·))/\(∀x∈R,x.length<=1000/\ ∀y∈R2 x,y.length<=1000))
 (hx: ∀x∈J,x≠ []) (a8:2<=s.frm.length-> ∀x∈J,a.cols.length<x.length)
 (hL:E4 (cL (dc s a.cols.length)) (J.filter (bL s.wh))):
 CallG gs prog 98 [.ptr 1010 0,.agg (s.cs.map .iv)] [(1010,ca c ps n)] [(1010,ca c ps n)] [] (.iv (.sl ((Al s a.cols.length J).map ai))):=by
 refine iG func98 ntmps98 (fun w0 E0 hG=> ?_);have g0:(s.frm.map Str.c)[(0:Int).toNat]?=some [S n0]:=by rw[show(0:Int).toNat=0 from rfl,gP,b7];rfl
 have b8:((s.frm.map Str.c).length:Int)=(s.frm.length:Int):=by rw[lM]
 apply L.tail (ι:=List (List A3)) (fun l=>⟨[(102,gAi 1000 l),(103,.fn fD [.ptr 1012 0]),(7,gAi 1000 l),(2,.ptr 1011 0),(3,.ptr 1012 0),(5,.ptr 1013 0)],
  (1011,⟨23,.l [.ptr 1010 0]⟩)::(1012,⟨80,.l (s.cs.map .iv)⟩)::(1013,⟨57,.l (a.c.map .iv)⟩)::(1010,ca c ps n)::Cd 1000 l,[]⟩) (fun l=>l=J)
 · intro a0;by_cases h2:s.frm.length=2
   · obtain⟨n1,b,w2,R2,c3,kb,bR,bS,bW,b9⟩:=two h2;have q1:(((s.frm.map Str.c).length:Int)==2)=true:=by rw[b8,h2];rfl
     have g1:(s.frm.map Str.c)[(1:Int).toNat]?=some [S n1]:=by rw[show(1:Int).toNat=1 from rfl,gP,c3];rfl
     apply L.tail (ι:=Unit) (fun _=>⟨[(65,aI (0:Int)),(64,aI (R.length:Int)),(63,.iv (.sl (R.map ai))),(10,.nils),(2,.ptr 2 0),(3,.ptr 3 0),(5,.ptr 5 0),(8,.ptr 8 0)],(2,⟨23,.l [.ptr 1010 0]⟩)::(3,⟨80,.l (s.cs.map .iv)⟩)::(5,⟨57,.l (a.c.map .iv)⟩)::(8,⟨57,.l (b.c.map .iv)⟩)::(1010,ca c ps n):: [],[]⟩) (fun _=>True)
     · intro a9;by_cases a2:R= []
       · subst a2;(repeat' first|intro hb hp|apply eW [];rfl;exact hG;exact kr;rfl;rfl;rfl;rfl;rfl|refine am ?_|refine al ?_ ?_|fail)
         exact a9 () _ trivial (Wk.mk' kK (wG (wG (.cons rfl Sub.nils F5))) B5 .nil)
       · rw[ou a2,md a2] at kr;(repeat' first|intro hb hp|apply eW [1000];rfl;exact hG;exact kr;rfl;rfl;rfl;exact cZ;rfl|refine am ?_|refine al ?_ ?_|fail)
         refine L.pubS 1000 63 (es:=R.map ai) (k:=1) rfl rfl (jB R) dD (fun h=>a2 (List.map_eq_nil_iff.1 h)) (lM _) rfl .here ?_;exact a9 () _ trivial (Wk.mk' kK (wG (wG F6)) B5 .nil)
     intro _ _;refine ae (ι:=Nat×List (List A3)) (fun i=>⟨[(65,aI (i.1:Int)),(64,aI (R.length:Int)),(63,.iv (.sl (R.map ai))),(10,EC 1001 i.2),(2,.ptr 2 0),(3,.ptr 3 0),(5,.ptr 5 0),(8,.ptr 8 0)],(2,⟨23,.l [.ptr 1010 0]⟩)::(3,⟨80,.l (s.cs.map .iv)⟩)::(5,⟨57,.l (a.c.map .iv)⟩)::(8,⟨57,.l (b.c.map .iv)⟩)::(1010,ca c ps n)::Cd 1001 i.2,[]⟩) (fun i=>R.length - i.1) (fun i=>(R.take i.1).flatMap (fun x=>(R2 x).map (x++ ·))=i.2) (i0:=(0,[])) ?_ rfl ?_
     · exact(Wk.mk' kK (wG F7) B5 .nil)
     rintro ⟨i,F⟩ hI K hK;dsimp only at hI hK;cases ar:R[i]? with
     |none=>
      have q:decide ((i:Int)<(R.length:Int))=false:=decide_eq_false (by have:=gO ar;omega);rw[br ar] at hI;have b1:F=J:=by rw[<-hI,bW]
      clear hK bR bS;rcases F with _|⟨y,l⟩
      · (repeat' first|intro hb hp|apply ag;rfl;apply aA;rfl|refine am ?_|refine al ?_ ?_|fail)
        refine LW.mk ?_;refine gK [(2,1011),(3,1012),(5,1013)] rfl rfl rfl rfl ?_;exact a0 [] _ b1 (Wk.mk' kK (.cons rfl Sub.nils (wF (.cons rfl Sub.nils F3))) B4 .nil)
      · (repeat' first|intro hb hp|apply ag;rfl;apply aA;rfl|refine am ?_|refine al ?_ ?_|fail)
        refine LW.mk ?_;refine gK [(2,1011),(3,1012),(5,1013),(1001,1000)] rfl rfl rfl rfl ?_;exact a0 (y::l) _ b1 wK
     |some x=>
      have cb:i<R.length:=(gS ar).1;have hm:=gE ar;have q:decide ((i:Int)<(R.length:Int))=true:=decide_eq_true C;have g1:(R.map ai)[((i:Nat):Int).toNat]?=some [.sl (x.map A3.c)]:=by rw[iN,gP,ar];rfl
      have kw:=bR x hm;have kr:=bS x hm;have kk:=xG x s.wh b5;have c4:((x.map A3.c).length:Int)=(x.length:Int):=by rw[lM]
      rw[<-c4] at kw;have b2:(R.take (i+1)).flatMap (fun x=>(R2 x).map (x++ ·))=F++(R2 x).map (x++ ·):=by rw[dv ar,List.flatMap_append,hI];simp
      have b1:F.length+(R2 x).length<=1000000:=by
       have h:=congrArg List.length (List.take_append_drop (i+1) R▸bW:J=_);rw[List.flatMap_append,b2,gV,gV,lM] at h;omega
      obtain⟨dr,c5⟩:=b9 x hm;clear bR bS a0 bW b9 hI;generalize R2 x=ys at*
      generalize w2 x=w2 at*
      apply L.tail (ι:=Unit) (fun _=>⟨[(88,aI 0),(87,aI (ys.length:Int)),(86,.iv (.sl (ys.map ai))),(12,.iv (.sl (x.map A3.c))),(65,aI (i:Int)),(64,aI (R.length:Int)),(63,.iv (.sl (R.map ai))),(10,EC 1001 F),(2,.ptr 2 0),(3,.ptr 3 0),(5,.ptr 5 0),(8,.ptr 8 0)],(2,⟨23,.l [.ptr 1010 0]⟩)::(3,⟨80,.l (s.cs.map .iv)⟩)::(5,⟨57,.l (a.c.map .iv)⟩)::(8,⟨57,.l (b.c.map .iv)⟩)::(1010,ca c ps n)::Cd 1001 F,[]⟩) (fun _=>True)
      · intro a3;by_cases ba:ys= []
        · subst ba;rcases F with _|⟨y,l⟩
          · (repeat' first|intro hb hp|apply eW [];rfl;exact hG;exact kr;rfl;rfl;rfl;rfl;rfl|refine am ?_|refine al ?_ ?_|fail)
            exact a3 () _ trivial (Wk.mk' kK (wG (wG (.cons rfl Sub.nils (wF (wF F7))))) B5 .nil)
          · (repeat' first|intro hb hp|apply eW [];rfl;exact hG;exact kr;rfl;rfl;rfl;rfl;rfl|refine am ?_|refine al ?_ ?_|fail)
            exact a3 () _ trivial (Wk.mk' kK (wG (wG (.cons rfl Sub.nils (wF (wF F7))))) (wB B5) .nil)
        · rw[ou ba,md ba] at kr;rcases F with _|⟨y,l⟩
          · (repeat' first|intro hb hp|apply eW [1000];rfl;exact hG;exact kr;rfl;rfl;rfl;exact cZ;rfl|refine am ?_|refine al ?_ ?_|fail)
            refine L.pubS 1000 86 (es:=ys.map ai) (k:=1) rfl rfl (jB ys) dD (fun h=>ba (List.map_eq_nil_iff.1 h)) (lM _) rfl .here ?_;exact a3 () _ trivial (Wk.mk' kK (wG (wG (wF (wF (wF F7))))) B5 .nil)
          · (repeat' first|intro hb hp|apply eW [1000];rfl;exact hG;exact kr;rfl;rfl;rfl;exact cZ;rfl|refine am ?_|refine al ?_ ?_|fail)
            refine L.pubS 1000 86 (es:=ys.map ai) (k:=1) rfl rfl (jB ys) dD (fun h=>ba (List.map_eq_nil_iff.1 h)) (lM _) rfl .here ?_;exact a3 () _ trivial (Wk.mk' kK (wG (wG (wF (wF (wF F7))))) (wB B5) .nil)
      intro _ _;clear kw kr kk g1;refine ae (ι:=Nat×List (List A3)) (fun j=>⟨[(88,aI (j.1:Int)),(87,aI (ys.length:Int)),(86,.iv (.sl (ys.map ai))),(12,.iv (.sl (x.map A3.c))),(65,aI (i:Int)),(64,aI (R.length:Int)),(63,.iv (.sl (R.map ai))),(10,EC 1001 j.2),(2,.ptr 2 0),(3,.ptr 3 0),(5,.ptr 5 0),(8,.ptr 8 0)],(2,⟨23,.l [.ptr 1010 0]⟩)::(3,⟨80,.l (s.cs.map .iv)⟩)::(5,⟨57,.l (a.c.map .iv)⟩)::(8,⟨57,.l (b.c.map .iv)⟩)::(1010,ca c ps n)::Cd 1001 j.2,[]⟩) (fun j=>ys.length - j.1) (fun j=>F++(ys.take j.1).map (x++ ·)=j.2) (i0:=(0,F)) ?_ sP ?_
      · exact Wk.mkX (fy rfl) (wF (wF (wF (wF (wF F7))))) (fun s v h=>h) .nil
      rintro ⟨j,G⟩ hJ K2 a5;dsimp only at hJ a5;cases a6:ys[j]? with
      |none=>
       have q2:decide ((j:Int)<(ys.length:Int))=false:=decide_eq_false (by have:=gO a6;omega);rw[br a6] at hJ;clear a5;rcases G with _|⟨y,l⟩
       · refine wz ?_;exact hK _ (i+1,[]) (b2.trans hJ) oD (Wk.mk' kK (wF F7) B5 .nil)
       · refine wz ?_;exact hK _ (i+1,y::l) (b2.trans hJ) oD (Wk.mk' kK (wF F7) (wB B5) .nil)
      |some y=>
       have bp:j<ys.length:=(gS a6).1;have q2:decide ((j:Int)<(ys.length:Int))=true:=decide_eq_true C;have g2:(ys.map ai)[((j:Nat):Int).toNat]?=some [.sl (y.map A3.c)]:=by rw[iN,gP,a6];rfl
       have ds:=c5 y (gE a6);have bP: [x,y].flatten=x++y:=by simp
       have kc:=(BF [x,y] sP (by rw[bP,gV];omega)).pubRow;rw[bP] at kc;have b3:F++(ys.take (j+1)).map (x++ ·)=G++ [x++y]:=by rw[dv a6,pA,<-List.append_assoc,hJ];rfl
       have cc:G.length+1<=1000000:=by
        have h:=congrArg List.length b3;rw[gV,gV,lM,lT] at h;simp only[lC,List.length_nil] at h;omega
       clear hJ;generalize x++y=z at*
       rcases G with _|⟨y',l⟩
       · (repeat' first|intro hb hp|(refine LW.is ?_;first|apply nU 1001 (news:= [ai z]);rfl;rfl;rfl;exact cJ rfl;exact cN _ _;exact(by simp[maxLen]);exact sP;rfl)|refine am ?_|refine al ?_ ?_|fail)
         exact a5 _ (j+1,[z]) b3 oD (Wk.mk' kK (wF (wF (wF (wF (wF F7))))) (wB B5) .nil)
       · (repeat' first|intro hb hp|(refine LW.is ?_;first|apply eU 1004 (es:=(y'::l).map ai) (n:=l.length+1) (news:= [ai z]) (er:=(y'::l++ [z]).map ai) (nr:=(y'::l++ [z]).length);rfl;rfl;rfl;rfl;exact .inl (row_ne (f:=ai) (k:=1) (fun _=>rfl) dD (cN y' l));exact dS (f:=ai) (k:=1) (fun _=>rfl) (y'::l);exact cJ rfl;exact(by rw[lM];exact Nat.le_refl _);exact cN _ _;exact(by rw[fJ];simp at cc|-;omega);exact(by simp at cc|-;omega);rfl;exact ij (y'::l) z;exact sP)|refine am ?_|refine al ?_ ?_|fail)
         refine gK [(1001,1004)] rfl rfl rfl rfl ?_;exact a5 _ (j+1,y'::l++ [z]) b3 oD (Wk.mk' kK (wF (wF (wF (wF (wF F7))))) (wB B5) .nil)
   · have q1:(((s.frm.map Str.c).length:Int)==2)=false:=by rw[b8];simp;omega
     have ch:=one h2;by_cases a2:R= []
     · subst a2;(repeat' first|intro hb hp|apply eW [];rfl;exact hG;exact kr;rfl;rfl;rfl;rfl;rfl|apply ag;rfl;apply aA;rfl|refine am ?_|refine al ?_ ?_|fail)
       refine LW.mk ?_;refine gK [(2,1011),(3,1012),(5,1013)] rfl rfl rfl rfl ?_;exact a0 [] _ ch.symm (Wk.mk' kK (.cons rfl Sub.nils (wF (.cons rfl Sub.nils F3))) B4 .nil)
     · rw[ou a2,md a2] at kr;(repeat' first|intro hb hp|apply eW [1000];rfl;exact hG;exact kr;rfl;rfl;rfl;exact cZ;rfl|apply ag;rfl;apply aA;rfl|refine am ?_|refine al ?_ ?_|fail)
       refine LW.mk ?_;refine gK [(2,1011),(3,1012),(5,1013)] rfl rfl rfl rfl ?_;refine a0 R _ ch.symm ?_;rw[Ia a2,md a2];exact wK
 intro l hl;rw[hl];clear hl l one two b7 ka kw kr g0;have kD:=fun y=>BN (gs:=gs) s b5 y
 have kE:=Iy (gs:=gs);have kS:=tx (gs:=gs);apply L.tail (ι:=List (List A3)) (fun l=>⟨[(124,aI 0),(123,aI ((l.map ai).length:Int)),(122,.iv (.sl (l.map ai))),(15,.nils),(3,.ptr 1012 0)],
  [(1012,⟨80,.l (s.cs.map .iv)⟩),(1010,ca c ps n)],[]⟩) (fun l=>l=qN s ((J.filter (bL s.wh)).mergeSort (cL (dc s a.cols.length))))
 · intro ad;by_cases aR:J= []
   · have hm:qN s ((J.filter (bL s.wh)).mergeSort (cL (dc s a.cols.length)))= []:=by rw[aR];simp[qN]
     rw[hm] at ad;rw[show gAi 1000 J= .iv (.sl []) by rw[aR];rfl,show Cd 1000 J= [] by rw[aR];rfl];refine LW.out ?_;by_cases a1:0<=s.n
     · have q1:decide (0<=s.n)=true:=decide_eq_true a1;have q2:decide (s.n<((([]:List (List IV)).length:Nat):Int))=false:=decide_eq_false (by simp;omega);(repeat' first|intro hb hp|apply ac [];rfl;exact hG;exact kE;exact(.cons fR (.cons (Sub.any _) .nil));exact .nil;rfl;rfl;rfl;rfl|apply ac [];rfl;exact hG;exact kS;exact(.cons fR (.cons (Sub.any _) .nil));exact .nil;rfl;rfl;rfl;rfl|apply ag;rfl;apply aA;rfl|refine am ?_|refine al ?_ ?_|fail)
       all_goals exact ad [] _ rfl (Wk.mk' kK (wG (wG (wG F2))) B2 .nil)
     · have q1:decide (0<=s.n)=false:=decide_eq_false a1;(repeat' first|intro hb hp|apply ac [];rfl;exact hG;exact kE;exact(.cons fR (.cons (Sub.any _) .nil));exact .nil;rfl;rfl;rfl;rfl|apply ac [];rfl;exact hG;exact kS;exact(.cons fR (.cons (Sub.any _) .nil));exact .nil;rfl;rfl;rfl;rfl|apply ag;rfl;apply aA;rfl|refine am ?_|refine al ?_ ?_|fail)
       all_goals exact ad [] _ rfl (Wk.mk' kK (wG (wG (wG F2))) B2 .nil)
   rw[Ia aR,md aR];by_cases hk:J.filter (bL s.wh)= []
   · have hm:qN s ((J.filter (bL s.wh)).mergeSort (cL (dc s a.cols.length)))= []:=by rw[hk];simp[qN]
     rw[hm] at ad;have a7:=Di (bL s.wh) J aR hJ (fun y _=>kD y) hk;refine LW.out ?_;by_cases a1:0<=s.n
     · have q1:decide (0<=s.n)=true:=decide_eq_true a1;have q2:decide (s.n<((([]:List (List IV)).length:Nat):Int))=false:=decide_eq_false (by simp;omega);(repeat' first|intro hb hp|apply ac [];rfl;exact hG;exact a7;exact fS;exact B2;rfl;exact nX aR;rfl;rfl|apply ac [];rfl;exact hG;exact kS;exact(.cons fR (.cons (Sub.any _) .nil));exact .nil;rfl;rfl;rfl;rfl|apply ag;rfl;apply aA;rfl|refine am ?_|refine al ?_ ?_|fail)
       all_goals exact ad [] _ rfl (Wk.mk' kK (wG (wG (wG F2))) B2 .nil)
     · have q1:decide (0<=s.n)=false:=decide_eq_false a1;(repeat' first|intro hb hp|apply ac [];rfl;exact hG;exact a7;exact fS;exact B2;rfl;exact nX aR;rfl;rfl|apply ac [];rfl;exact hG;exact kS;exact(.cons fR (.cons (Sub.any _) .nil));exact .nil;rfl;rfl;rfl;rfl|apply ag;rfl;apply aA;rfl|refine am ?_|refine al ?_ ?_|fail)
       all_goals exact ad [] _ rfl (Wk.mk' kK (wG (wG (wG F2))) B2 .nil)
   have bl: ∀x∈J.filter (bL s.wh),x∈J:=fun x h=>(List.mem_filter.1 h).1
   have c6:(J.filter (bL s.wh)).length<=1000000:=Nat.le_trans (List.length_filter_le ..) hJ;have a7:=Ix (bL s.wh) J aR hJ (fun y _=>kD y) hk;have b4:=um (gs:=gs) (s:=s) (t:=a) (cf:=dc s a.cols.length) (J.filter (bL s.wh)) hk hL c6
    (fun x h1 y h2=>BM s cR cS a x y (hx x (bl x h1)) (hx y (bl y h2)) (fun h=>⟨a8 h x (bl x h1),a8 h y (bl y h2)⟩))
   have c7:(J.filter (bL s.wh)).length=((J.filter (bL s.wh)).mergeSort (cL (dc s a.cols.length))).length:=(List.length_mergeSort _).symm;have c8:=nn (le:=cL (dc s a.cols.length)) hk;generalize (J.filter (bL s.wh)).mergeSort (cL (dc s a.cols.length))=T at*
   generalize hF:J.filter (bL s.wh)=F at*
   have bh:(T.map ai).length=F.length:=by rw[lM,c7]
   have bi:T.map ai≠ []:=fun h=>c8 (List.map_eq_nil_iff.1 h)
   have rT:=jB T;refine LW.out ?_;by_cases a1:0<=s.n
   · have q1:decide (0<=s.n)=true:=decide_eq_true a1;by_cases bm:s.n<(T.length:Int)
     · have hm:qN s T=T.take s.n.toNat:=if_pos ⟨a1,bm⟩;rw[hm] at ad;have q2:decide (s.n<((T.map ai).length:Int))=true:=decide_eq_true (by rw[lM];exact bm);have q3:s.n<=((T.map ai).length:Int):=by rw[lM];omega
       have q4:(T.map ai).take s.n.toNat=(T.take s.n.toNat).map ai:=(List.map_take ..).symm;(repeat' first|intro hb hp|apply ac [1002];rfl;exact hG;exact a7;exact fS;exact B2;rfl;exact Dk aR hk;exact Dj;rfl;refine LW.mk ?_;refine gK [(1002,1000)] rfl rfl rfl rfl ?_;refine LW.out ?_|apply ac [];rfl;exact hG;exact b4;exact fS;exact wB (.cons rfl rfl (Subs.cons (Sub.any _) .nil) B2);rfl;exact cm hk;exact ck;rfl;refine LW.mk ?_;refine L.pubS 1000 7 (es:=T.map ai) (k:=1) rfl rfl rT dD bi bh rfl .here ?_;refine LW.out ?_|apply ag;rfl;apply aA;rfl|(refine LW.is ?_;first|apply ag;rfl;apply ez;rfl;rfl;exact rT;exact a1;exact q3;exact q4)|refine am ?_|refine al ?_ ?_|fail)
       all_goals exact ad _ _ rfl (Wk.mk' kK (wG (wG (wG F2))) B2 .nil)
     · have hm:qN s T=T:=if_neg (fun h=>bm h.2);rw[hm] at ad;have q2:decide (s.n<((T.map ai).length:Int))=false:=decide_eq_false (by rw[lM];exact bm);(repeat' first|intro hb hp|apply ac [1002];rfl;exact hG;exact a7;exact fS;exact B2;rfl;exact Dk aR hk;exact Dj;rfl;refine LW.mk ?_;refine gK [(1002,1000)] rfl rfl rfl rfl ?_;refine LW.out ?_|apply ac [];rfl;exact hG;exact b4;exact fS;exact wB (.cons rfl rfl (Subs.cons (Sub.any _) .nil) B2);rfl;exact cm hk;exact ck;rfl;refine LW.mk ?_;refine L.pubS 1000 7 (es:=T.map ai) (k:=1) rfl rfl rT dD bi bh rfl .here ?_;refine LW.out ?_|apply ag;rfl;apply aA;rfl|refine am ?_|refine al ?_ ?_|fail)
       all_goals exact ad _ _ rfl (Wk.mk' kK (wG (wG (wG F2))) B2 .nil)
   · have q1:decide (0<=s.n)=false:=decide_eq_false a1;have hm:qN s T=T:=if_neg (fun h=>a1 h.1);rw[hm] at ad;(repeat' first|intro hb hp|apply ac [1002];rfl;exact hG;exact a7;exact fS;exact B2;rfl;exact Dk aR hk;exact Dj;rfl;refine LW.mk ?_;refine gK [(1002,1000)] rfl rfl rfl rfl ?_;refine LW.out ?_|apply ac [];rfl;exact hG;exact b4;exact fS;exact wB (.cons rfl rfl (Subs.cons (Sub.any _) .nil) B2);rfl;exact cm hk;exact ck;rfl;refine LW.mk ?_;refine L.pubS 1000 7 (es:=T.map ai) (k:=1) rfl rfl rT dD bi bh rfl .here ?_;refine LW.out ?_|apply ag;rfl;apply aA;rfl|refine am ?_|refine al ?_ ?_|fail)
     all_goals exact ad _ _ rfl (Wk.mk' kK (wG (wG (wG F2))) B2 .nil)
 intro l hl;rw[hl];clear hl l hL hx a8 kD kE kS;have dk:(qN s ((J.filter (bL s.wh)).mergeSort (cL (dc s a.cols.length)))).length<=1000000:=by
  have h1:((J.filter (bL s.wh)).mergeSort (cL (dc s a.cols.length))).length<=1000000:=by rw[List.length_mergeSort];exact Nat.le_trans (List.length_filter_le ..) hJ
  unfold qN;split
  · rw[lT];omega
  · exact h1
 unfold Al;generalize qN s ((J.filter (bL s.wh)).mergeSort (cL (dc s a.cols.length)))=l at*
 refine L.adopt 15 (s:=15) (t:=35) (k:=1) rfl rfl rfl ?_;refine ae (ι:=Nat) (fun i=>⟨[(124,aI (i:Int)),(123,aI ((l.map ai).length:Int)),(122,.iv (.sl (l.map ai))),(15,.row 15 (((l.take i).map (yQ s)).map ai)),(3,.ptr 1012 0)],
  [(1012,⟨80,.l (s.cs.map .iv)⟩),(1010,ca c ps n)],[(15,⟨35,1⟩)]⟩) (fun i=>l.length - i) (fun i=>True) (i0:=0) ?_ trivial ?_
 · exact wL
 intro i _ K hK;cases ar:l[i]? with
 |none=>
  have c9:=gc (l:=l.map ai) (bz ar);rw[br ar];clear hK;refine wz ?_;all_goals(apply L.ends;rfl;rfl;exact Sub.row _ _;exact Wk.mk' kK .nil B1 .nil)
 |some x=>
  have c9:=fZ (l:=l.map ai) (cM (f:=ai) ar);have cb:=fM ar;have g1:(l.map ai)[((i:Nat):Int).toNat]?=some [.sl (x.map A3.c)]:=by rw[iN,gP,ar];rfl
  have n1:((l.take (i+1)).map (yQ s)).map ai=((l.take i).map (yQ s)).map ai++ [[.sl ((s.out.map (aC x)).map A3.c)]]:=by rw[dv ar,pA,pA];rfl
  have l1:(((l.take i).map (yQ s)).map ai).length=i:=by simp;omega
  have k1: ∀e∈((l.take i).map (yQ s)).map ai,e.length=1:=jB _;generalize ((l.take i).map (yQ s)).map ai=es at*
  refine wz ?_;refine L.adopt 18 (s:=18) (t:=41) (k:=3) rfl rfl rfl ?_;refine ae (ι:=Nat) (fun j=>⟨[(131,aI (j:Int)),(130,aI ((s.out.map Ex.c).length:Int)),(129,.iv (.sl (s.out.map Ex.c))),(18,.row 18 (((s.out.take j).map (aC x)).map A3.c)),(17,.iv (.sl (x.map A3.c))),(124,aI (i:Int)),(123,aI ((l.map ai).length:Int)),(122,.iv (.sl (l.map ai))),(15,.row 15 es),(3,.ptr 1012 0)],
   [(1012,⟨80,.l (s.cs.map .iv)⟩),(1010,ca c ps n)],[(18,⟨41,3⟩),(15,⟨35,1⟩)]⟩) (fun j=>s.out.length - j) (fun j=>True) (i0:=0) ?_ trivial ?_
  · exact wL
  intro j _ K2 a5;cases hy:s.out[j]? with
  |none=>
   have bp:=gc (l:=s.out.map Ex.c) (bz hy);rw[br hy];clear a5;generalize (s.out.map (aC x)).map A3.c=vs at*
   (repeat' first|intro hb hp|(refine LW.is ?_;first|apply bJ;rfl;rfl;rfl;rfl;exact k1;(first|exact a4 rfl|exact bB rfl bV);(simp[maxLen,ah,l1];omega);(simp[ah,l1];omega);rfl;rfl)|refine am ?_|refine al ?_ ?_|fail)
   refine L.onlyS [124,123,122,15,3] [1012,1010] rfl ?_;refine L.retok 15 145 15 rfl rfl rfl rfl ?_;refine hK _ (i+1) trivial C (Wk.mk' kK (wF (wF (wF (.cons rfl (Sub.of_eq (congrArg (AV.row 15) n1.symm)) F1)))) B2 (.cons rfl .nil))
  |some e=>
   have bp:=fZ (l:=s.out.map Ex.c) (cM (f:=Ex.c) hy);have dd:=fM hy;have g2:(s.out.map Ex.c)[((j:Nat):Int).toNat]?=some e.cs:=by rw[iN,gP,hy,<-aN];rfl
   have kv:=kZ x e (b6 e (gE hy));rw[aN] at kv;have n2:((s.out.take (j+1)).map (aC x)).map A3.c=((s.out.take j).map (aC x)).map A3.c++ [(aC x e).c]:=by rw[dv hy,pA,pA];rfl
   have l2:(((s.out.take j).map (aC x)).map A3.c).length=j:=by simp;omega
   have k2: ∀e∈((s.out.take j).map (aC x)).map A3.c,e.length=3:=fun e he=>by obtain⟨y,_,rfl⟩:=mM he;rfl
   generalize aC x e=v at*
   generalize ((s.out.take j).map (aC x)).map A3.c=vs at*
   clear hK n1 l1 k1;(repeat' first|intro hb hp|(refine LW.is ?_;first|apply bJ;rfl;rfl;rfl;rfl;exact k2;(first|exact a4 rfl|exact bB rfl bV);(simp[maxLen,ah,l2];omega);(simp[ah,l2];omega);rfl;rfl)|refine am ?_|refine al ?_ ?_|fail)
   refine L.onlyS [131,130,129,18,17,124,123,122,15,3] [1012,1010] rfl ?_;refine L.retok 18 140 18 rfl rfl rfl rfl ?_;refine a5 _ (j+1) trivial C (Wk.mk' kK (wF (wF (wF (.cons rfl (Sub.of_eq (congrArg (AV.row 18) n2.symm)) F6)))) B2 (.cons rfl (.cons rfl .nil)))
structure H7 (c:B0):Prop where
 il:c.is.length<=1000
 inn: ∀x∈c.is,x.n.length<=140737488355328
structure G9 (t:A4):Prop where
 tn:t.n.length<=140737488355328
 tl:t.cols.length<=1000
def nD(t:A4)(row:List A3)(i:Nat):Bool:=match t.cols[i]? with
 |some c=>c.m && (row.getD i af).k==0
 |none=>false
def zn(t:A4)(row:List A3):Bool:=(List.range t.cols.length).all (fun i=> !nD t row i)
def Le{t:A4}{row:List A3}{i:Nat}(h:nD t row i=true):zn t row=false:=by
 have hi:i<t.cols.length:=by
  refine Nat.lt_of_not_le (fun h2=> ?_);rw[nD,List.getElem?_eq_none_iff.2 h2] at h;cases h
 rw[zn,List.all_eq_false];exact⟨i,List.mem_range.2 hi,by rw[h];decide⟩
def MH{t:A4}{row:List A3}{i:Nat}(h: ∀j,j<i->nD t row j=false)(hi:t.cols[i]?=none):zn t row=true:=by
 have hi:=gO hi;rw[zn,List.all_eq_true];intro j T;have:=List.mem_range.1 T;rw[h j C];rfl
def Ki(t:A4)(row:List A3)(ht:G9 t)(aR:row.length=t.cols.length):CallA prog 170 [.agg (t.c.map .iv),.iv (.sl (row.map A3.c))] [] [] [] (aB (zn t row)):=by
 have a0:=ht.tl;refine iA func170 ntmps170 (fun w0 E0=> ?_);refine wz ?_;refine ae (ι:=Nat) (fun i=>⟨[(10,aI (i:Int)),(9,aI ((t.cols.map B8.c).length:Int)),(8,.iv (.sl (t.cols.map B8.c))),(1,.iv (.sl (row.map A3.c)))],[],[]⟩) (fun i=>t.cols.length - i) (fun i=> ∀j,j<i->nD t row j=false) (i0:=0) ?_ (fun j h=>absurd h (Nat.not_lt_zero _)) ?_
 · exact df
 intro i hI K hK;cases hx:t.cols[i]? with
 |none=>
  have ad:=gc (l:=t.cols.map B8.c) (bz hx);rw[MH hI hx];clear hK;refine wz ?_;all_goals refine aU ?_
  all_goals rfl
 |some x=>
  have ad:=fZ (l:=t.cols.map B8.c) (cM (f:=B8.c) hx);have ar:=fM hx;have g1:(t.cols.map B8.c)[((i:Nat):Int).toNat]?=some [S x.n,I x.t,.im (.bool x.m)]:=by rw[iN,gP,hx];rfl
  have g2:(row.map A3.c)[((i:Nat):Int).toNat]?=some [I (row.getD i af).k,I (row.getD i af).n,S (row.getD i af).s]:=by rw[iN,gP,cV af (show i<row.length by omega)];rfl
  have T:nD t row i=(x.m && (row.getD i af).k==0):=by rw[nD,hx]
  generalize row.getD i af=v at*
  have step:nD t row i=false-> ∀j,j<i+1->nD t row j=false:=fun h j hj=>by
   rcases Nat.lt_or_eq_of_le (Nat.le_of_lt_succ hj) with h'|h'
   · exact hI j h'
   · rw[h'];exact h
  clear hI;cases hm:x.m with
  |false=>
   rw[hm] at g1 T;have hs:=step (by rw[T];rfl);clear step T;refine wz ?_;refine hK _ (i+1) hs C ?_;exact df
  |true=>
   rw[hm] at g1 T;by_cases hv:v.k=0
   · have q1:(v.k==0)=true:=by simpa using hv
     rw[Le (t:=t) (row:=row) (i:=i) (by rw[T,q1];rfl)];clear hK step T;refine wz ?_;all_goals refine aU ?_
     all_goals rfl
   · have q1:(v.k==0)=false:=by simpa using hv
     have hs:=step (by rw[T,q1];rfl);clear step T;refine wz ?_;refine hK _ (i+1) hs C ?_;exact df
def jG(c:B0)(ps:List Pg)(t:A4)(row:List A3):List Pg×Int:=
 if zn t row=false then(ps,7) else if(getM ps (ap t.n (row.getD 0 af))).2=true then(ps,4) else if 30<=(ci ps t (eh t.n)).length then(ps,8) else(lp ps c t row,0)
def EP{gs:aw}(c:B0)(ps:List Pg)(n:Int)(t:A4)(row:List A3)(hc:H7 c)(ht:G9 t)(aR:ps.length<=1000000)(ad:sF ps)(ar:row.length=t.cols.length)(h1:row≠ []):
 CallG gs prog 120 [.ptr 1010 0,.agg (t.c.map .iv),.iv (.sl (row.map A3.c))] [(1010,ca c ps n)] [(1010,ca c (jG c ps t row).1 n)] [] (aI (jG c ps t row).2):=by
 have a0:=ht.tl;have a1:=hc.il;have kf:=Ki t row ht ar;have kk:=ja t.n (row.getD 0 af) ht.tn;have kg:=zj ps (ap t.n (row.getD 0 af)) C;have ka:=oR t.n ht.tn;have kr:=pb ps t (eh t.n) C ad ht.tn (by simp[eh]);have kp:=AA ps c t row C C ht.tn C C hc.inn;have g0:(row.map A3.c)[(0:Int).toNat]?=some [I (row.getD 0 af).k,I (row.getD 0 af).n,S (row.getD 0 af).s]:=by
  cases row with
  |nil=>exact absurd U h1
  |cons a l=>rfl
 unfold jG;generalize getM ps (ap t.n (row.getD 0 af))=gt at*
 generalize ap t.n (row.getD 0 af)=key at*
 generalize row.getD 0 af=v at*
 generalize ci ps t (eh t.n)=R at*
 generalize lp ps c t row=a2 at*
 generalize zn t row=fb at*
 obtain⟨a3,gb⟩:=gt;dsimp only at kg|-;refine iG func120 ntmps120 (fun w0 E0 hG=> ?_);cases fb with
 |false=>
  rw[if_pos U];refine wz ?_;all_goals exact L.ends U U sE wK
 |true=>
  rw[if_neg dD];cases gb with
  |true=>
   rw[if_pos U];refine wz ?_;all_goals exact L.ends U U sE wK
  |false=>
   rw[if_neg dD];by_cases T:30<=R.length
   · rw[if_pos T];have q:decide ((30:Int)<=((R.map ai).length:Int))=true:=decide_eq_true (by rw[lM];omega);refine wz ?_;all_goals exact L.ends U U sE wK
   · rw[if_neg T];have q:decide ((30:Int)<=((R.map ai).length:Int))=false:=decide_eq_false (by rw[lM];omega);refine wz ?_;all_goals exact L.ends U U sE wK
def iL(c:B0)(t:A4):List Pg->List (List A3)->List Pg×Int
 |ps,[] =>(ps,0)
 |ps,r::l=>if(jG c ps t r).2≠0 then jG c ps t r else iL c t (jG c ps t r).1 l
def BX{c:B0}{t:A4}{ps:List Pg}{r:List A3}{l:List (List A3)}(h:(jG c ps t r).2=0):iL c t ps (r::l)=iL c t (jG c ps t r).1 l:=by
 rw[iL,if_neg (fun k=>k h)]
def BY{c:B0}{t:A4}{ps:List Pg}{r:List A3}{l:List (List A3)}(h:(jG c ps t r).2≠0):iL c t ps (r::l)=jG c ps t r:=by
 rw[iL,if_pos h]
structure I8 (ps:List Pg):Prop where
 len:ps.length<=1000000
 sm:sF ps
abbrev wl(code n:Int):AV:= .agg [aI code,aI n,.iv (.sl [])]
def nH(c:B0)(ps:List Pg)(t:A4)(s:A9):List Pg×Int:=iL c t ps (s.rows.map fun r=>r.map (aC []))
def CV{gs:aw}(c:B0)(ps:List Pg)(n:Int)(t:A4)(s:A9)(I:List Pg->Prop)(h0:I ps)(hI: ∀ps,I ps->I8 ps)(a5: ∀ps,I ps-> ∀r∈s.rows,I (jG c ps t (r.map (aC []))).1)
 (hc:H7 c) (ht:G9 t) (hw:1<=t.cols.length) (bh:s.rows.length<=1000000) (hr: ∀r∈s.rows,r.length=t.cols.length/\ ∀e∈r,e.Ok):
 CallG gs prog 95 [.ptr 1010 0,.agg (s.cs.map .iv),.agg (t.c.map .iv)] [(1010,ca c ps n)] [(1010,ca c (nH c ps t s).1 n)] []
  (.tup [wl 0 (if(nH c ps t s).2=0 then(s.rows.length:Int) else 0),aI (nH c ps t s).2]):=by
 unfold nH;generalize hZ:iL c t ps (s.rows.map fun r=>r.map (aC []))=Z;have bi:=ht.tl;refine iG func95 ntmps95 (fun w0 E0 hG=> ?_);refine wz ?_;refine ae (ι:=Nat×List Pg) (fun i=>⟨[(17,aI (i.1:Int)),(16,aI ((s.rows.map bf).length:Int)),(15,.iv (.sl (s.rows.map bf))),(0,.ptr 1010 0),(4,.ptr 4 0),(5,.ptr 5 0),(6,.ptr 6 0)],
  [(1010,ca c i.2 n),(4,⟨80,.l (s.cs.map .iv)⟩),(5,⟨57,.l (t.c.map .iv)⟩),(6,⟨69,.l [aI 0,aI 0,.nils]⟩)],[]⟩) (fun i=>s.rows.length - i.1) (fun i=>I i.2/\iL c t i.2 ((s.rows.drop i.1).map fun r=>r.map (aC []))=Z) (i0:=(0,ps)) ?_ ⟨h0,hZ⟩ ?_
 · exact wL
 rintro ⟨i,qs⟩ ⟨hi,hJ⟩ K hK;dsimp only at hi hJ hK;cases hx:s.rows[i]? with
 |none=>
  have a6:=gc (l:=s.rows.map bf) (bz hx);have a1:((s.rows.map bf).length:Int)=(s.rows.length:Int):=by rw[lM]
  rw[dL (gO hx),List.map_nil] at hJ;subst hJ;clear hK;show L _ _ _;rw[show(iL c t qs []).2=0 from rfl,show(iL c t qs []).1=qs from rfl,if_pos U,<-a1];refine wz ?_;all_goals exact L.ends U U (Sub.tup (.cons (Sub.agg (.cons sE (.cons sE (.cons Sub.nils .nil)))) (.cons sE .nil))) wK
 |some r=>
  have a6:=fZ (l:=s.rows.map bf) (cM (f:=bf) hx);have ba:=fM hx;have ar:=gE hx;obtain⟨ad,a7⟩:=hr r ar;have g1:(s.rows.map bf)[((i:Nat):Int).toNat]?=some [.sl (r.map Ex.c)]:=by rw[iN,gP,hx];rfl
  have a8:s.rows.drop i=r::s.rows.drop (i+1):=fu hx;rw[a8,List.map_cons] at hJ;have a2:=hI qs hi;have aR:=a5 qs hi r ar;have T:=EP (gs:=gs) c qs n t (r.map (aC [])) hc ht a2.len a2.sm (by rw[lM];exact ad) (fun h=>by rw[List.map_eq_nil_iff] at h;rw[h] at ad;simp at ad;omega);refine wz ?_;refine L.adopt 10 (s:=10) (t:=41) (k:=3) U U U ?_;refine ae (ι:=Nat) (fun j=>⟨[(23,aI (j:Int)),(22,aI ((r.map Ex.c).length:Int)),(21,.iv (.sl (r.map Ex.c))),(10,.row 10 (((r.take j).map (aC [])).map A3.c)),(17,aI (i:Int)),(16,aI ((s.rows.map bf).length:Int)),(15,.iv (.sl (s.rows.map bf))),(0,.ptr 1010 0),(4,.ptr 4 0),(5,.ptr 5 0),(6,.ptr 6 0)],
   [(1010,ca c qs n),(4,⟨80,.l (s.cs.map .iv)⟩),(5,⟨57,.l (t.c.map .iv)⟩),(6,⟨69,.l [aI 0,aI 0,.nils]⟩)],[(10,⟨41,3⟩)]⟩) (fun j=>r.length - j) (fun j=>True) (i0:=0) ?_ trivial ?_
  · exact wL
  intro j _ K2 a3;cases hy:r[j]? with
  |none=>
   have a4:=gc (l:=r.map Ex.c) (bz hy);rw[br hy];clear a3;by_cases he:(jG c qs t (r.map (aC []))).2=0
   · rw[BX he] at hJ;rw[he] at T;have q:((0:Int) !=0)=false:=rfl;(repeat' first|intro hb hp|refine ac [] rfl hG T (.cons fR (.cons fR (.cons (Sub.row _ _) .nil))) B1 U U U U ?_|refine am ?_|refine al ?_ ?_|fail)
     exact hK _ (i+1,(jG c qs t (r.map (aC []))).1) ⟨aR,hJ⟩ oD wK
   · rw[BY he] at hJ;subst hJ;rw[if_neg he];have q:((jG c qs t (r.map (aC []))).2 !=0)=true:=by simpa using he
     clear hK;generalize jG c qs t (r.map (aC []))=A at*
     obtain⟨A1,A2⟩:=A;dsimp only at T q|-;(repeat' first|intro hb hp|refine ac [] rfl hG T (.cons fR (.cons fR (.cons (Sub.row _ _) .nil))) B1 U U U U ?_|refine am ?_|refine al ?_ ?_|fail)
     all_goals exact L.ends U U (Sub.tup (.cons (Sub.agg (.cons sE (.cons sE (.cons Sub.nils .nil)))) (.cons sE .nil))) wK
  |some e=>
   have a4:=fZ (l:=r.map Ex.c) (cM (f:=Ex.c) hy);have a9:=fM hy;have g2:(r.map Ex.c)[((j:Nat):Int).toNat]?=some e.cs:=by rw[iN,gP,hy,<-aN];rfl
   have kv:=kZ [] e (a7 e (gE hy));rw[aN] at kv;have n2:((r.take (j+1)).map (aC [])).map A3.c=((r.take j).map (aC [])).map A3.c++ [(aC [] e).c]:=by rw[dv hy,pA,pA];rfl
   have l2:(((r.take j).map (aC [])).map A3.c).length=j:=by simp;omega
   have k2: ∀e∈((r.take j).map (aC [])).map A3.c,e.length=3:=fun e he=>by obtain⟨y,_,rfl⟩:=mM he;rfl
   clear T aR hJ hK;generalize aC [] e=v at*
   generalize ((r.take j).map (aC [])).map A3.c=vs at*
   (repeat' first|intro hb hp|(refine LW.is ?_;first|refine bJ U U U U k2 (by first|exact a0 U|exact bB U bV) (by simp[maxLen,ah,l2];omega) (by simp[ah,l2];omega) U U ?_)|refine am ?_|refine al ?_ ?_|fail)
   refine L.onlyS [23,22,21,10,17,16,15,0,4,5,6] [1010,4,5,6] U ?_;refine L.retok 10 31 10 U U U U ?_;refine a3 _ (j+1) trivial C (Wk.mk' kK (wF (wF (wF (.cons U (Sub.of_eq (congrArg (AV.row 10) n2.symm)) F7)))) B4 (.cons U .nil))
def kJ(c:B0)(t:A4)(R:List (List A3))(ps:List Pg):List Pg:=R.foldl (fun q row=>lp q c t row) ps
def cg(c:B0)(t:A4)(R:List (List A3))(ps:List Pg):List Pg:=R.foldl (fun q row=>gZ q c t row) ps
def mQ{α β:Type}(f:β->α->β){l:List α}{i:Nat}{x:α}(h:l[i]?=some x)(b:β):(l.take (i+1)).foldl f b=f ((l.take i).foldl f b) x:=by
 rw[dv h,List.foldl_append];rfl
def vc3(l:List A3): ∀e∈l.map A3.c,e.length=3:=fun e he=>by obtain⟨y,_,rfl⟩:=mM he;rfl
def Do(es:List (List IV))(hk: ∀e∈es,e.length=3)(T:es≠ [])(hm:es.length<=maxLen)(hl:es.length*32<=140737488355328):
 CallA prog 125 [.iv (.sl es)] [] [(1000,⟨41,.r es.flatten 0⟩)] [] (.bsh 1000 0 es.length 3):=by
 refine iA func125 ntmps125 (fun w0 E0=> ?_);(repeat' first|intro hb hp|(refine LW.is ?_;first|apply ag;rfl;apply jZ;rfl;rfl;exact T|apply eA;rfl;rfl;rfl;rfl;rfl|apply kC 1000;rfl;rfl;rfl;exact hk;exact T;exact hm;exact hl;rfl)|refine am ?_|refine al ?_ ?_|fail)
 all_goals(apply L.ends;rfl;rfl;exact fR;exact Wk.mk' kK .nil B1 .nil)
def IQ{L:List Nat}{us:List IV}{id:Nat}{ty:TypeId}: [(id,(⟨ty,.r us 0⟩:A5))].all (fun p=>AV.mentsIn L p.2.cs)=true:=by
 simp only[List.all_cons,List.all_nil,Bool.and_true,A5.cs_r,List.replicate_zero,List.append_nil];exact AV.mentsIn_iv _ _
def AN(d:B0)(ps:List Pg)(t:A4):List Pg:=kJ d t (ci ps t (eh t.n)) ps
def HK{gs:aw}(c d:B0)(ps:List Pg)(n:Int)(t:A4)(s:A9)(hc:H7 d)(ht:G9 t)(a1:ps.length<=1000000)(ar:sF ps)
 (kw:CallG gs prog 99 [.agg (c.c.map .iv),.agg (s.cs.map .iv)] [] [] [] (.agg (d.c.map .iv)))
 (ad: ∀i,(kJ d t ((ci ps t (eh t.n)).take i) ps).length<=1000000) (hR: ∀r∈ci ps t (eh t.n),r.length<=1000000) (a2:(ci ps t (eh t.n)).length<=1000000):
 CallG gs prog 93 [.ptr 1010 0,.agg (s.cs.map .iv),.agg (t.c.map .iv)] [(1010,ca c ps n)] [(1010,ca c (AN d ps t) n)] [] (.tup []):=by
 have a3:=ht.tl;have a4:=hc.il;have ka:=oR t.n ht.tn;have kr:=pb ps t (eh t.n) C ar ht.tn (by simp[eh]);unfold AN;generalize ci ps t (eh t.n)=R at*
 generalize hZ:kJ d t R ps=Z;refine iG func93 ntmps93 (fun w0 E0 hG=> ?_);refine wz ?_;refine ae (ι:=Nat) (fun i=>⟨[(25,aI (i:Int)),(24,aI ((R.map ai).length:Int)),(23,.iv (.sl (R.map ai))),(0,.ptr 1010 0),(5,.ptr 5 0),(6,.ptr 6 0)],
  [(1010,ca c (kJ d t (R.take i) ps) n),(5,⟨57,.l (t.c.map .iv)⟩),(6,⟨47,.l (d.c.map .iv)⟩)],[]⟩) (fun i=>R.length - i) (fun i=>True) (i0:=0) ?_ trivial ?_
 · exact wL
 intro i _ K hK;cases hx:R[i]? with
 |none=>
  have aR:=gc (l:=R.map ai) (bz hx);rw[br hx,hZ];clear hK;refine wz ?_;all_goals(apply aM;rfl;rfl;exact Wk.mk' kK .nil B1 .nil;rfl)
 |some r=>
  have aR:=fZ (l:=R.map ai) (cM (f:=ai) hx);have a0:=fM hx;have hi:=ad i;have hr:=hR r (gE hx);have g1:(R.map ai)[((i:Nat):Int).toNat]?=some [.sl (r.map A3.c)]:=by rw[iN,gP,hx];rfl
  have T:kJ d t (R.take (i+1)) ps=lp (kJ d t (R.take i) ps) d t r:=mQ _ hx ps;generalize kJ d t (R.take i) ps=q at*
  have kp:=AA q d t r C C ht.tn C C hc.inn;rw[<-T] at kp;clear ad hR kw kr ka hZ T;refine wz ?_;refine hK _ (i+1) trivial C ?_;exact wL
def cP(t:A4)(l:List D4)(row:List A3):List A3:=l.foldl (fun own x=>own.set (aV t x.co).toNat (aC row x.e)) row
def DQ{t:A4}{row:List A3}: ∀(l:List D4) (own:List A3),(l.foldl (fun own x=>own.set (aV t x.co).toNat (aC row x.e)) own).length=own.length
 | [],_=>rfl
 |x::l,own=>by rw[List.foldl_cons,DQ l];simp
def kj{t:A4}{l:List D4}{row:List A3}:(cP t l row).length=row.length:=DQ l row
def ru(c:B0)(ps:List Pg)(t:A4)(s:A9)(R:List (List A3)):List Pg×Int:=iL c t (cg c t R ps) (R.map (cP t s.sets))
def Cm{gs:aw}(c:B0)(ps:List Pg)(n:Int)(t:A4)(s:A9)(R:List (List A3))(IP:List Pg->Prop)(h0:IP (cg c t R ps))(hI: ∀ps,IP ps->I8 ps)
 (a6: ∀ps,IP ps-> ∀r∈R,IP (jG c ps t (cP t s.sets r)).1) (hD: ∀i,(cg c t (R.take i) ps).length<=1000000)
 (hc:H7 c) (ht:G9 t) (hw:1<=t.cols.length) (bW:R.length<=1000000) (hr: ∀r∈R,r.length=t.cols.length) (ch:s.sets.length<=1000000)
 (aR: ∀x∈s.sets,0<=aV t x.co/\aV t x.co<(t.cols.length:Int)/\x.e.Ok)
 (kc:CallG gs prog 96 [.ptr 1010 0,.agg (t.c.map .iv),.agg (s.wh.cs.map .iv)] [(1010,ca c ps n)] ((1010,ca c ps n)::Cd 1000 R) [] (EC 1000 R)):
 CallG gs prog 97 [.ptr 1010 0,.agg (s.cs.map .iv),.agg (t.c.map .iv)] [(1010,ca c ps n)] [(1010,ca c (ru c ps t s R).1 n)] []
  (.tup [wl 0 (if(ru c ps t s R).2=0 then(R.length:Int) else 0),aI (ru c ps t s R).2]):=by
 unfold ru;generalize hZ:iL c t (cg c t R ps) (R.map (cP t s.sets))=Z;have cR:=ht.tl;have cS:=hc.il;refine iG func97 ntmps97 (fun w0 E0 hG=> ?_);apply L.tail (ι:=Unit) (fun _=>⟨[(25,aI 0),(24,aI (R.length:Int)),(23,.iv (.sl (R.map ai))),(8,.iv (.sl (R.map ai))),(9,.nils),(0,.ptr 1010 0),(4,.ptr 4 0),(5,.ptr 5 0),(6,.ptr 6 0)],
  [(1010,ca c ps n),(4,⟨80,.l (s.cs.map .iv)⟩),(5,⟨57,.l (t.c.map .iv)⟩),(6,⟨69,.l [aI 0,aI 0,.nils]⟩)],[]⟩) (fun _=>True)
 · intro a0;by_cases T:R= []
   · rw[T] at kc;(repeat' first|intro hb hp|refine ac [] rfl hG kc fS B1 rfl rfl rfl rfl ?_|refine am ?_|refine al ?_ ?_|fail)
     exact a0 () _ trivial (Wk.mk' kK (wG (.cons U (Sub.of_eq (by rw[T];rfl)) (.cons U (by rw[T];exact Sub.nils) (.cons U (by rw[T];exact Sub.nils) F5)))) B4 .nil)
   · rw[ou T,md T] at kc;have a8:R.map ai≠ []:=fun h=>T (List.map_eq_nil_iff.1 h)
     have rR:=jB R;have a4:(R.map ai).length=R.length:=lM _;have b1:((1010,ca c ps n):: [(1000,bu R)]).all (fun p=>AV.mentsIn ([1000] ++ [1010]) p.2.cs)=true:=by
      have:=cZ (L:= [1000] ++ [1010]) (l:=R) (id:=1000);simp only[List.all_cons,List.all_nil,Bool.and_true] at this;simp only[List.all_cons,List.all_nil,Bool.and_true,this,Bool.and_true];rfl
     (repeat' first|intro hb hp|apply ac [1000];rfl;exact hG;exact kc;exact fS;exact B1;rfl;rfl;exact b1;rfl;refine LW.mk ?_;refine L.pubS 1000 22 (es:=R.map ai) (k:=1) U U rR dD a8 a4 U .here ?_;refine LW.out ?_|refine am ?_|refine al ?_ ?_|fail)
     exact a0 () _ trivial (Wk.mk' kK (wG (.cons U (Sub.of_eq (congrArg (fun k:Nat=>aI (k:Int)) a4)) (wG (wG F5)))) B4 .nil)
 intro _ _;clear kc;refine L.adopt 9 (s:=9) (t:=35) (k:=1) U U U ?_;refine ae (ι:=Nat) (fun i=>⟨[(25,aI (i:Int)),(24,aI (R.length:Int)),(23,.iv (.sl (R.map ai))),(8,.iv (.sl (R.map ai))),(9,.row 9 (((R.take i).map (cP t s.sets)).map ai)),(0,.ptr 1010 0),(4,.ptr 4 0),(5,.ptr 5 0),(6,.ptr 6 0)],
  [(1010,ca c (cg c t (R.take i) ps) n),(4,⟨80,.l (s.cs.map .iv)⟩),(5,⟨57,.l (t.c.map .iv)⟩),(6,⟨69,.l [aI 0,aI 0,.nils]⟩)],[(9,⟨35,1⟩)]⟩) (fun i=>R.length - i) (fun i=>True) (i0:=0) ?_ trivial ?_
 · exact wL
 intro i _ K hK;cases hx:R[i]? with
 |none=>
  have q:decide ((i:Int)<(R.length:Int))=false:=decide_eq_false (by have:=gO hx;omega);rw[br hx];clear hK hD;have cX:(R.map (cP t s.sets)).length<=1000000:=by rw[lM];exact bW
  have a9: ∀q,IP q-> ∀r∈R.map (cP t s.sets),CallG gs prog 120 [.ptr 1010 0,.agg (t.c.map .iv),.iv (.sl (r.map A3.c))] [(1010,ca c q n)] [(1010,ca c (jG c q t r).1 n)] [] (aI (jG c q t r).2)/\IP (jG c q t r).1:=fun q hq r b2=>by
   obtain⟨r0,h1,rfl⟩:=mM b2;have hl:=hr r0 h1;exact⟨EP (gs:=gs) c q n t _ hc ht (hI q hq).len (hI q hq).sm (by rw[kj];exact hl) (fun h=>by have h2:=congrArg List.length h;rw[kj,hl,List.length_nil] at h2;omega),a6 q hq r0 h1⟩
  have b3:((R.map ai).length:Int)=(R.length:Int):=by rw[lM]
  generalize cg c t R ps=b4 at*
  generalize c3:R.map (cP t s.sets)=nx at*
  clear a6 hr aR hI;refine wz ?_;refine ae (ι:=Nat×List Pg) (fun i=>⟨[(70,aI (i.1:Int)),(69,aI ((nx.map ai).length:Int)),(68,.iv (.sl (nx.map ai))),(8,.iv (.sl (R.map ai))),(0,.ptr 1010 0),(5,.ptr 5 0),(6,.ptr 6 0)],
   [(1010,ca c i.2 n),(5,⟨57,.l (t.c.map .iv)⟩),(6,⟨69,.l [aI 0,aI 0,.nils]⟩)],[]⟩) (fun i=>nx.length - i.1) (fun i=>IP i.2/\iL c t i.2 (nx.drop i.1)=Z) (i0:=(0,b4)) ?_ ⟨h0,hZ⟩ ?_
  · exact(Wk.mk' kK (wG (wG (.cons U (Sub.row _ _) F4))) B3 .nil)
  rintro ⟨i,qs⟩ ⟨hi,hJ⟩ K hK;dsimp only at hi hJ hK;cases hy:nx[i]? with
  |none=>
   have b5:=gc (l:=nx.map ai) (bz hy);rw[dL (gO hy)] at hJ;subst hJ;clear hK;show L _ _ _;rw[show(iL c t qs []).2=0 from rfl,show(iL c t qs []).1=qs from rfl,if_pos U,<-b3];refine wz ?_;all_goals exact L.ends U U (Sub.tup (.cons (Sub.agg (.cons sE (.cons sE (.cons Sub.nils .nil)))) (.cons sE .nil))) wK
  |some r=>
   have b5:=fZ (l:=nx.map ai) (cM (f:=ai) hy);have ba:=fM hy;have g1:(nx.map ai)[((i:Nat):Int).toNat]?=some [.sl (r.map A3.c)]:=by rw[iN,gP,hy];rfl
   obtain⟨ad,bh⟩:=a9 qs hi r (gE hy);have b6:nx.drop i=r::nx.drop (i+1):=fu hy;rw[b6] at hJ;by_cases he:(jG c qs t r).2=0
   · rw[BX he] at hJ;rw[he] at ad;have q:((0:Int) !=0)=false:=rfl;(repeat' first|intro hb hp|refine ac [] rfl hG ad fS B1 rfl rfl rfl rfl ?_|refine am ?_|refine al ?_ ?_|fail)
     exact hK _ (i+1,(jG c qs t r).1) ⟨bh,hJ⟩ oD wK
   · rw[BY he] at hJ;subst hJ;rw[if_neg he];have q:((jG c qs t r).2 !=0)=true:=by simpa using he
     clear hK;generalize jG c qs t r=A at*
     obtain⟨A1,A2⟩:=A;dsimp only at ad q|-;(repeat' first|intro hb hp|refine ac [] rfl hG ad fS B1 rfl rfl rfl rfl ?_|refine am ?_|refine al ?_ ?_|fail)
     all_goals exact L.ends U U (Sub.tup (.cons (Sub.agg (.cons sE (.cons sE (.cons Sub.nils .nil)))) (.cons sE .nil))) wK
 |some r=>
  have ba:=fM hx;have q:decide ((i:Int)<(R.length:Int))=true:=decide_eq_true C;have hm:=gE hx;have c4:=hr r hm;have hi:=hD i;have g1:(R.map ai)[((i:Nat):Int).toNat]?=some [.sl (r.map A3.c)]:=by rw[iN,gP,hx];rfl
  have a1:cg c t (R.take (i+1)) ps=gZ (cg c t (R.take i) ps) c t r:=mQ _ hx ps;have n1:((R.take (i+1)).map (cP t s.sets)).map ai=((R.take i).map (cP t s.sets)).map ai++ [[.sl ((cP t s.sets r).map A3.c)]]:=by rw[dv hx,pA,pA];rfl
  have l1:(((R.take i).map (cP t s.sets)).map ai).length=i:=by simp;omega
  have k1: ∀e∈((R.take i).map (cP t s.sets)).map ai,e.length=1:=jB _;generalize cg c t (R.take i) ps=q1 at*
  generalize ((R.take i).map (cP t s.sets)).map ai=es at*
  have kd:=so q1 c t r C C ht.tn C C hc.inn;rw[<-a1] at kd;have a2:(r.map A3.c).length=r.length:=lM _;have bi:r.map A3.c≠ []:=fun h=>by rw[h] at a2;simp at a2;omega
  have bl:=Do (r.map A3.c) (vc3 r) bi (by rw[a2,maxLen];omega) (by rw[a2];omega);rw[a2] at bl;have b7: [(1000,(⟨41,.r (r.map A3.c).flatten 0⟩:A5))].all (fun p=>AV.mentsIn [1000] p.2.cs)=true:=IQ;clear hD a6 h0 hI;(repeat' first|intro hb hp|refine ac [1000] rfl hG bl.toG fS .nil rfl rfl b7 rfl ?_|refine am ?_|refine al ?_ ?_|fail)
  refine ae (ι:=Nat) (fun j=>⟨[(48,aI (j:Int)),(47,aI ((s.sets.map D4.c).length:Int)),(46,.iv (.sl (s.sets.map D4.c))),(12,.bsh 1000 0 r.length 3),(11,.iv (.sl (r.map A3.c))),(25,aI (i:Int)),(24,aI (R.length:Int)),(23,.iv (.sl (R.map ai))),(8,.iv (.sl (R.map ai))),(9,.row 9 es),(0,.ptr 1010 0),(4,.ptr 4 0),(5,.ptr 5 0),(6,.ptr 6 0)],
   [(1010,ca c (cg c t (R.take (i+1)) ps) n),(4,⟨80,.l (s.cs.map .iv)⟩),(5,⟨57,.l (t.c.map .iv)⟩),(6,⟨69,.l [aI 0,aI 0,.nils]⟩),(1000,⟨41,.r ((cP t (s.sets.take j) r).map A3.c).flatten 0⟩)],[(9,⟨35,1⟩)]⟩) (fun j=>s.sets.length - j) (fun j=>True) (i0:=0) ?_ trivial ?_
  · exact(Wk.mk' kK (wG (wG (wF (wF (wF (wF (wF F7))))))) B5 (.cons U .nil))
  intro j _ K2 bm;cases hy:s.sets[j]? with
  |none=>
   have bp:=gc (l:=s.sets.map D4.c) (bz hy);rw[br hy];have ar:((cP t s.sets r).map A3.c).length=r.length:=by rw[lM,kj]
   have bP:(cP t s.sets r).map A3.c≠ []:=fun h=>by rw[h] at ar;simp at ar;omega
   clear bm;refine L.pubS 1000 12 (es:=(cP t s.sets r).map A3.c) (k:=3) U U (vc3 _) dD bP ar U .here ?_;generalize (cP t s.sets r).map A3.c=us at*
   (repeat' first|intro hb hp|(refine LW.is ?_;first|refine bJ U U U U k1 (by first|exact a5 U|exact bB U bV) (by simp[maxLen,ah,l1];omega) (by simp[ah,l1];omega) U U ?_)|refine am ?_|refine al ?_ ?_|fail)
   refine L.onlyS [25,24,23,8,9,0,4,5,6] [1010,4,5,6] U ?_;refine L.retok 9 66 9 U U U U ?_;exact hK _ (i+1) trivial C (Wk.mk' kK (wF (wF (wF (wF (.cons U (Sub.of_eq (congrArg (AV.row 9) n1.symm)) F4))))) B4 (.cons U .nil))
  |some x=>
   have bp:=fZ (l:=s.sets.map D4.c) (cM (f:=D4.c) hy);have b8:=fM hy;obtain⟨b9,c5,cb⟩:=aR x (gE hy);have g2:(s.sets.map D4.c)[((j:Nat):Int).toNat]?=some (S x.co::x.e.cs):=by rw[iN,gP,hy];rfl
   have kv:=kZ r x.e cb;rw[aN] at kv;have kf:=eI t x.co C;have bR:cP t (s.sets.take (j+1)) r=(cP t (s.sets.take j) r).set (aV t x.co).toNat (aC r x.e):=mQ _ hy r;have ar:(cP t (s.sets.take j) r).length=r.length:=kj;have a7:(aV t x.co).toNat<r.length:=C;have cc:aV t x.co<(r.length:Int):=C;have ho:(0+(aV t x.co).toNat)*3=(aV t x.co).toNat*3:=by rw[Nat.zero_add]
   rw[<-ar] at a7;have a3:((cP t (s.sets.take j) r).map A3.c).set (aV t x.co).toNat [I (aC r x.e).k,I (aC r x.e).n,S (aC r x.e).s] =((cP t (s.sets.take j) r).set (aV t x.co).toNat (aC r x.e)).map A3.c:=by rw[List.map_set];rfl
   rw[<-bR] at a3;have bS:(aV t x.co).toNat<((cP t (s.sets.take j) r).map A3.c).length:=by rw[lM];exact a7
   generalize aC r x.e=v at*
   generalize aV t x.co=k at*
   have v3:=vc3 (cP t (s.sets.take j) r);generalize (cP t (s.sets.take j) r).map A3.c=us at*
   clear hK n1 l1 k1 bR ar a7 aR a1;(repeat' first|intro hb hp|(refine DR.is ?_;first|refine bg U (ay U U b9 cc ho) ?_|refine dU (es:=us) (i:=k.toNat) (e:= [I v.k,I v.n,S v.s]) (er:=(cP t (s.sets.take (j+1)) r).map A3.c) U U U U U U v3 U bS a3 ?_)|refine am ?_|refine al ?_ ?_|fail)
   exact bm _ (j+1) trivial C (Wk.mk' kK (wF (wF (wF (wF (wF (wF (wF F7))))))) B5 (.cons U .nil))
end Go.Proofs.Y
namespace Go.Proofs.Y
open Go.Abs
structure Rk (r:Rd):Prop where
 ok:C6 r
 n:r.l.length<=1500
def Rk.sf{r r':Rd}(h:Rk r)(k:Sf r r'):Rk r':=⟨k.ok h.ok,Nat.le_trans k.le h.n⟩
def Rk.name{r:Rd}(h:Rk r):(aq r).1.length<=1000000:=uV h.ok
def GE(f:Rd->Ex×Rd):Prop:= ∀r,Rk r->(f r).1.OkS
def JJ(v:A3):(Ex.mk 1 v [] [] 0 []).OkS:= .mk sP sP sP sP
def yR:nilE.OkS:= .mk sP sP sP sP
def AK{op:Int}{a b:Ex}(ha:a.OkS)(hb:b.OkS):(Bm op a b).OkS:= .mk sP sP sP (fun x T=>by
 rcases List.mem_cons.1 T with rfl|T
 · exact ha
 · rw[List.mem_singleton.1 T];exact hb)
def KZ{op:Int}{a:Ex}(ha:a.OkS):(ex1 op a).OkS:= .mk sP sP sP (fun x T=>by rw[List.mem_singleton.1 T];exact ha)
def CZ:GE xp:=fun r h=>yR
def LS:GE qD:=fun r h=>by
 have h1:=h.name;have h2:=((h.sf (bw r)).sf (aW _ [[46]])).name;unfold qD;split
 · exact .mk sP C C sP
 · exact .mk sP sP C sP
def Kd{o:Rd->Ex×Rd}(ho:GE o):GE (qe o):=fun r h=>by
 unfold qe;split
 · exact CZ r h
 split
 · exact ho _ (h.sf (aW r _))
 split
 · exact JJ _
 · exact LS r h
def zk{a:Rd->Ex×Rd}(T:jH a)(ha:GE a): ∀(n:Nat) (e:Ex) (r:Rd),Rk r->e.OkS->(lZ a n e r).1.OkS
 |0,e,r,_,he=>he
 |n+1,e,r,h,he=>by
  unfold lZ;split
  · exact he
  split
  · exact zk T ha n _ _ ((h.sf (aW r _)).sf (T _)) (AK he (ha _ (h.sf (aW r _))))
  split
  · exact zk T ha n _ _ ((h.sf (aW r _)).sf (T _)) (AK he (ha _ (h.sf (aW r _))))
  · exact he
def LR{a:Rd->Ex×Rd}(T:jH a)(ha:GE a):GE (AC a):=fun r h=>zk T ha _ _ _ (h.sf (T r)) (ha r h)
def Kc{t s:Rd->Ex×Rd}(et:jH t)(es:jH s)(ht:GE t)(hs:GE s):GE (pZ t s):=fun r h=>by
 unfold pZ;split
 · exact CZ r h
 split
 · exact KZ (ht _ (h.sf (aW r _)))
 split
 · exact KZ (hs r h)
 split
 · exact AK (hs r h) (hs _ ((h.sf (es r)).sf (aW _ _)))
 split
 · exact AK (hs r h) (hs _ ((h.sf (es r)).sf (aW _ _)))
 · exact hs r h
def Bh{op:Int}{w:Str}{s:Rd->Ex×Rd}(es:jH s)(hs:GE s): ∀(n:Nat) (e:Ex) (r:Rd),Rk r->e.OkS->(gw op w s n e r).1.OkS
 |0,e,r,_,he=>he
 |n+1,e,r,h,he=>by
  unfold gw;split
  · exact he
  split
  · exact Bh es hs n _ _ ((h.sf (aW r _)).sf (es _)) (AK he (hs _ (h.sf (aW r _))))
  · exact he
def tV{op:Int}{w:Str}{s:Rd->Ex×Rd}(es:jH s)(hs:GE s):GE (nY op w s):=fun r h=>Bh es hs _ _ _ (h.sf (es r)) (hs r h)
def LT: ∀k,GE (Lv k)
 |0=>CZ
 |k+1=>Kc (jF k) (vE (mU (dQ (dQ (jF k))))) (LT k) (LR (mU (dQ (dQ (jF k)))) (Kd (tV (dQ (jF k)) (tV (jF k) (LT k)))))
def HZ(k:Nat):GE (ma k):=tV (dQ (jF k)) (tV (jF k) (LT k))
def xE{α:Type}{P:α->Prop}{step:Rd->α×Rd}(hs: ∀r,Sf r (step r).2)(hp: ∀r,Rk r->P (step r).1): ∀(n:Nat) (l:List α) (r:Rd),Rk r->(∀x∈l,P x)-> ∀x∈(dM step n l r).1,P x
 |0,l,r,_,hl=>hl
 |n+1,l,r,h,hl=>by
  unfold dM;have T: ∀x∈l++ [(step r).1],P x:=fun x hx=>by
   rcases mA hx with hx|hx
   · exact hl x hx
   · rw[List.mem_singleton.1 hx];exact hp r h
  split
  · exact hl
  split
  · exact xE hs hp n _ _ ((h.sf (hs r)).sf (aW _ _)) T
  · exact T
def od{α:Type}{P:α->Prop}{step:Rd->α×Rd}(hs: ∀r,Sf r (step r).2)(T: ∀r,Rk r->P (step r).1){r:Rd}(h:Rk r): ∀x∈(aP step r).1,P x:=xE hs T _ _ _ h sP
def pq{α:Type}{step:Rd->α×Rd}(hs: ∀r,Sf r (step r).2){r:Rd}(h:Rk r):(aP step r).1.length<=1501:=Nat.le_trans (HM hs r) (by have:=h.n;omega)
structure D8 (s:A9):Prop where
 rows:s.rows.length<=1501
 row: ∀r∈s.rows,r.length<=1501/\ ∀e∈r,e.OkS
 sets:s.sets.length<=1501
 set: ∀x∈s.sets,x.e.OkS
 cols:s.cols.length<=1501
 frm:s.frm.length<=1501
 out:s.out.length<=1501
 outs: ∀e∈s.out,e.OkS
 ord:s.ord.length<=1
 ords: ∀e∈s.ord,e.OkS
 wh:s.wh.OkS
 name:s.name.length<=1000000
 table:s.table.length<=1000000
 col:s.col.length<=1000000
 cn: ∀c∈s.cols,c.n.length<=1000000
def vB{α:Type}{k:Nat}: ∀{l:List (List α)},(∀x∈l,x.length<=k)->l.flatten.length<=l.length*k
 | [],_=>by simp
 |x::l,h=>by
  have h1:=h x (List.mem_cons_self ..);have h2:=vB (k:=k) (l:=l) (fun y T=>h y (List.mem_cons_of_mem _ T));rw[List.flatten_cons,gV,lC,Nat.add_mul];omega
def D8.ok{s:A9}(h:D8 s):s.Ok where
 tot:=by
  have h1:=vB (k:=1501) (fun r hr=>(h.row r hr).1);have h2:=h.rows;have h3:=h.out;have h4:=h.ord;have h5:=h.sets;have h6:=mR 1501 h2;omega
 rows:=by have:=h.rows;omega
 sets:=by have:=h.sets;omega
 cols:=by have:=h.cols;omega
 frm:=by have:=h.frm;omega
 all e he:=by
  simp only[dq,List.mem_append,List.mem_map] at he;rcases he with(((he|he)|he)|⟨x,T,rfl⟩)|he
  · exact h.outs e he
  · exact h.ords e he
  · obtain⟨r,hr,he⟩:=List.mem_flatten.1 he;exact(h.row r hr).2 e he
  · exact h.set x T
  · split at he
    · cases he
    · rw[List.mem_singleton.1 he];exact h.wh
 wh:=h.wh
 name:=by have:=h.name;omega
 table:=by have:=h.table;omega
 col:=by have:=h.col;omega
 cn c hc:=by have:=h.cn c hc;omega
def sI:D8 ia:=⟨by simp[ia],by simp[ia],by simp[ia],by simp[ia],by simp[ia],by simp[ia],by simp[ia],by simp[ia],by simp[ia],by simp[ia],yR,by simp[ia],by simp[ia],by simp[ia],by simp[ia]⟩
def vz{r:Rd}(h:Rk r):(dh r).1.OkS:=by
 unfold dh;split
 · exact HZ 6 _ (h.sf (aW r _))
 · exact yR
def Kw(r:Rd)(h:Rk r):(iq r).1.n.length<=1000000:=by
 have:=h.name;unfold iq;split
 · exact this
 split
 · exact this
 · exact this
def KX{r:Rd}(h:Rk r):(io r).1.length<=1501/\ ∀e∈(io r).1,e.OkS:=by
 unfold io;split
 · simp
 · exact⟨pq (ff 6) h,od (ff 6) (HZ 6) h⟩
def LU{r:Rd}(h:Rk r):(kP r).1.length<=1501:=pq bw (h.sf (bI _ _))
def KY{r:Rd}(h:Rk r):(jJ r).1.1.length<=1/\ ∀e∈(jJ r).1.1,e.OkS:=by
 unfold jJ;split
 · refine⟨by simp,fun e he=> ?_⟩;rw[List.mem_singleton.1 he];exact HZ 6 _ (h.sf (aW _ _))
 · simp
def Mu{r:Rd}(h:Rk r):(mE r).1.length<=1501/\ ∀e∈(mE r).1,e.OkS:=⟨pq (ff 6) (h.sf (bI _ _)),od (ff 6) (HZ 6) (h.sf (bI _ _))⟩
def Mp{r:Rd}(h:Rk r):(mB r).1.e.OkS:=HZ 6 _ ((h.sf (bw _)).sf (bI _ _))
def GI{r:Rd}(h:Rk r):(nf r).1.length<=1501/\ ∀x∈(nf r).1,x.e.OkS:=by
 have h2:=(h.sf (bw _)).sf (bI _ [tq]);exact⟨pq uo h2,od (P:=fun x:D4=>x.e.OkS) uo (fun r hr=>Mp hr) h2⟩
attribute [local irreducible] io kP dh jJ ip aP ma aq aL ak iq mE mB nf
def IH{r:Rd}(h:Rk r):D8 (mH r).1:=by
 have h2:=(h.sf (bw _)).sf (bI _ [[40]]);exact{sI with name:=h.name,cols:=pq up h2,cn:=od (P:=fun c:B8=>c.n.length<=1000000) up Kw h2}
def LC{r:Rd}(h:Rk r):D8 (rH r).1:=by
 have h2:=(h.sf (bw _)).sf (bI _ [wON]);have h3:=(h2.sf (bw _)).sf (bI _ [[40]]);exact{sI with name:=h.name,table:=h2.name,col:=h3.name}
def Mc{r:Rd}(h:Rk r):D8 (uK r).1:={sI with name:=h.name}
def HT{r:Rd}(h:Rk r):D8 (mF r).1:=by
 have h2:=(h.sf (bw _)).sf (bI _ [ic]);exact{sI with table:=h.name,rows:=pq yG h2,row:=od (P:=fun r:List Ex=>r.length<=1501/\ ∀e∈r,e.OkS) yG (fun r hr=>Mu hr) h2}
def Iz{r:Rd}(h:Rk r):D8 (mG r).1:={sI with table:=h.name,wh:=vz (h.sf (bw _))}
def GH{r:Rd}(h:Rk r):D8 (mz r).1:={sI with table:=h.name,sets:=(GI h).1,set:=(GI h).2,wh:=vz (h.sf (DY _))}
def Hd{r:Rd}(h:Rk r):D8 (mC r).1:=by
 have h2:=h.sf (Cz _);have h3:=h2.sf (Ea _);have h4:=h3.sf (nS _);exact{sI with out:=(KX h).1,outs:=(KX h).2,frm:=LU h2,wh:=vz h3,ord:=(KY h4).1,ords:=(KY h4).2}
def Mn(r:Rd)(h:Rk r):D8 (fe r).1:=by
 unfold fe;split
 · exact IH (h.sf (aW _ _))
 split
 · exact LC (h.sf (aW _ _))
 split
 · exact Mc (h.sf (aW _ _))
 split
 · exact HT (h.sf (aW _ _))
 split
 · exact Iz (h.sf (aW _ _))
 split
 · exact GH (h.sf (aW _ _))
 split
 · exact Hd (h.sf (aW _ _))
 · exact sI
def xd: ∀(n:Nat) (l:List A9) (r:Rd),Rk r->(∀s∈l,D8 s)-> ∀s∈(fH n l r).1,D8 s
 |0,l,r,_,hl=>hl
 |n+1,l,r,h,hl=>by
  unfold fH;split
  · exact hl
  · refine xd n _ _ ((h.sf (yF r)).sf (bI _ _)) (fun s hs=> ?_);rcases mA hs with hs|hs
    · exact hl s hs
    · rw[List.mem_singleton.1 hs];exact Mn r h
def ut(x:Str): ∀s∈(cj x).1,D8 s:=by
 unfold cj;split
 · simp
 rename_i T;obtain⟨h1,h2⟩:=KW x C;have hk:Rk (nF x):=⟨h1,by omega⟩
 split
 · simp
 split
 · simp
 · exact xd _ _ _ hk sP
end Go.Proofs.Y
namespace Go.Proofs.Y
open Go.Abs
def oV{ps:List Pg}(h:aG ps=true):BZ (az ps):=(mP ((eO ps).1 h).1).1 h
def Ek{ps:List Pg}{k v:Str}(h:aG ps=true)(a b:Str):(a,b)∈az (iO ps k v)↔(a=k/\b=v)\/(a≠k/\(a,b)∈az ps):=by
 rw[Ay h];simp only[yN,List.mem_append,List.mem_cons,List.mem_filter,decide_eq_true_eq,Prod.mk.injEq];constructor
 · rintro (⟨h1,h2⟩|h1|⟨h1,h2⟩)
   · exact .inr ⟨fun e=>by rw[e] at h2;exact List.lt_irrefl _ h2,h1⟩
   · exact .inl h1
   · exact .inr ⟨fun e=>by rw[e] at h2;exact List.lt_irrefl _ h2,h1⟩
 · rintro (h1|⟨h1,h2⟩)
   · exact .inr (.inl h1)
   · rcases LD a k with h3|h3|h3
     · exact .inl ⟨h2,h3⟩
     · exact absurd h3 h1
     · exact .inr (.inr ⟨h2,h3⟩)
def Bq{ps:List Pg}{k:Str}(h:aG ps=true)(a b:Str):(a,b)∈az (fq ps k)↔a≠k/\(a,b)∈az ps:=by
 rw[ya h,yb,List.mem_filter];constructor
 · exact fun h=>⟨by simpa using h.2,h.1⟩
 · exact fun h=>⟨h.2,by simpa using h.1⟩
def Ig{ps:List Pg}{k:Str}(h:aG ps=true):(getM ps k).2=true↔ ∃v,(k,v)∈az ps:=by
 rw[vw h];constructor
 · intro e;by_cases T: ∃w,(k,w)∈az ps
   · exact T
   · rw[Km (fun w hw=>T ⟨w,hw⟩)] at e;cases e
 · rintro ⟨v,hv⟩;rw[xV (oV h) hv]
def wo(t:A4)(x:A7):Bool:=x.tb==t.n && decide (0<=aV t x.co)
def iz(t:A4)(row:List A3)(x:A7):Str:=eE x.n (row.getD (aV t x.co).toNat af) (row.getD 0 af)
def cE(t:A4)(row:List A3)(l:List A7):List Str:=(l.filter (wo t)).map (iz t row)
def sO(t:A4)(row:List A3)(x:A7)(l:List A7):cE t row (x::l)=if wo t x then iz t row x::cE t row l else cE t row l:=by
 unfold cE;rw[List.filter_cons];split<;>simp
def pX(t:A4)(row:List A3): ∀(l:List A7) (ps:List Pg),aG ps=true->aG (l.foldl (iR t row) ps)=true/\ ∀a b,(a,b)∈az (l.foldl (iR t row) ps)↔(a∈cE t row l/\b= [])\/(a∉cE t row l/\(a,b)∈az ps)
 | [],ps,h=>⟨h,fun a b=>by simp[cE]⟩
 |x::l,ps,h=>by
  have hx:iR t row ps x=if wo t x then iO ps (iz t row x) [] else ps:=rfl
  rw[List.foldl_cons,hx,sO];cases ad:wo t x with
  |false=>simpa using pX t row l ps h
  |true=>
   simp only[if_true];have T:=pX t row l (iO ps (iz t row x) []) (Ax h);refine⟨T.1,fun a b=> ?_⟩;rw[T.2,Ek h];simp only[List.mem_cons];constructor
   · rintro (⟨h1,h2⟩|⟨h1,⟨h2,h3⟩|⟨h2,h3⟩⟩)
     · exact .inl ⟨.inr h1,h2⟩
     · exact .inl ⟨.inl h2,h3⟩
     · exact .inr ⟨fun e=>e.elim h2 h1,h3⟩
   · rintro (⟨h1|h1,h2⟩|⟨h1,h2⟩)
     · by_cases hm:a∈cE t row l
       · exact .inl ⟨hm,h2⟩
       · exact .inr ⟨hm,.inl ⟨h1,h2⟩⟩
     · exact .inl ⟨h1,h2⟩
     · exact .inr ⟨fun e=>h1 (.inr e),.inr ⟨fun e=>h1 (.inl e),h2⟩⟩
def oG(t:A4)(row:List A3): ∀(l:List A7) (ps:List Pg),aG ps=true->aG (l.foldl (fg t row) ps)=true/\ ∀a b,(a,b)∈az (l.foldl (fg t row) ps)↔(a∉cE t row l/\(a,b)∈az ps)
 | [],ps,h=>⟨h,fun a b=>by simp[cE]⟩
 |x::l,ps,h=>by
  have hx:fg t row ps x=if wo t x then fq ps (iz t row x) else ps:=rfl
  rw[List.foldl_cons,hx,sO];cases ad:wo t x with
  |false=>simpa using oG t row l ps h
  |true=>
   simp only[if_true];have T:=oG t row l (fq ps (iz t row x)) (xZ h);refine⟨T.1,fun a b=> ?_⟩;rw[T.2,Bq h];simp only[List.mem_cons];constructor
   · rintro ⟨h1,h2,h3⟩;exact⟨fun e=>e.elim h2 h1,h3⟩
   · rintro ⟨h1,h2⟩;exact⟨fun e=>h1 (.inr e),fun e=>h1 (.inl e),h2⟩
def jD(t:A4)(row:List A3):Str:=ap t.n (row.getD 0 af)
def Az{ps:List Pg}{c:B0}{t:A4}{row:List A3}(h:aG ps=true)(h0:row.length≠0)(hl:row.length=t.cols.length):aG (lp ps c t row)=true/\ ∀a b,(a,b)∈az (lp ps c t row)↔
 (a∈cE t row c.is/\b= [])\/(a∉cE t row c.is/\((a=jD t row/\b=de row)\/(a≠jD t row/\(a,b)∈az ps))):=by
 rw[lp,if_neg C];have T:=pX t row c.is (iO ps (ap t.n (row.getD 0 af)) (de row)) (Ax h);refine⟨T.1,fun a b=> ?_⟩;rw[T.2,Ek h];rfl
def FJ{ps:List Pg}{c:B0}{t:A4}{row:List A3}(h:aG ps=true)(h0:row.length≠0)(hl:row.length=t.cols.length):aG (gZ ps c t row)=true/\ ∀a b,(a,b)∈az (gZ ps c t row)↔
 (a∉cE t row c.is/\a≠jD t row/\(a,b)∈az ps):=by
 rw[gZ,if_neg C];have T:=oG t row c.is (fq ps (ap t.n (row.getD 0 af))) (xZ h);refine⟨T.1,fun a b=> ?_⟩;rw[T.2,Bq h];rfl
def Ey{t:A4}{row:List A3}{l:List A7}{a:Str}(h:a∈cE t row l): ∃s,a=120::s:=by
 obtain⟨x,_,rfl⟩:=mM h;exact⟨_,rfl⟩
def Hi(t:A4)(row:List A3): ∃s,jD t row=114::s:=⟨_,rfl⟩
def oh{t t':A4}{row T:List A3}{l:List A7}:jD t row∉cE t' T l:=fun h=>by
 obtain⟨s,hs⟩:=Ey h;obtain⟨u,hu⟩:=Hi t row;rw[hu] at hs;cases hs
def mN{vs:List A3}(h:vs.all au=true):de vs=vs.flatMap bZ:=by rw[de,CR,if_pos h]
def pr{vs:List A3}(h:vs.all au=true):dz (de vs)=some vs:=by rw[mN h,wQ h]
def AS{v w:A3}(T:au v=true)(hw:au w=true)(h:de [v] =de [w]):v=w:=by
 have h1:=pr (vs:= [v]) (by simp[T]);have h2:=pr (vs:= [w]) (by simp[hw]);rw[h,h2] at h1;simpa using h1.symm
def mh(z x y:Str):z++x<z++y↔x<y:=by
 have:=HN z (x:=x) (y:=y);rw[LE,LE] at this;simpa using this
def Ev{v w:A3}(hv:au v=true)(hw:au w=true):de [v] <de [w] ↔cA v w= -1:=by
 have e1:de [v] =bZ v:=by rw[mN (by simp[hv])];simp
 have e2:de [w] =bZ w:=by rw[mN (by simp[hw])];simp
 rw[e1,e2];rcases zw hv hw with⟨rfl,h⟩|⟨h,hl⟩|⟨h,hl⟩
 · rw[h];simp[List.lt_irrefl]
 · have:=hl [] [];rw[List.append_nil,List.append_nil,LE] at this;rw[h];simpa using this
 · have:=hl [] [];rw[List.append_nil,List.append_nil,LE] at this;have T:bZ w<bZ v:=by simpa using this
   rw[h];constructor
   · intro h2;exact absurd h2 (List.lt_asymm T)
   · intro h2;cases h2
def qS{row:List A3}: ∀{cs:List B8} {i:Nat},oz row i cs=true-> ∀j,j<cs.length->au (row.getD (i+j) af)=true
 | [],i,h,j,T=>by simp at T
 |c::cs,i,h,j,T=>by
  rw[oz,List.zipIdx_cons,List.all_cons,aE] at h;cases j with
  |zero=>
   have h1:=h.1;simp only[De] at h1;cases hg:au (row.getD i af) with
   |true=>simp
   |false=>simp only[List.getD_eq_getElem?_getD] at hg h1;simp[hg] at h1
  |succ j=>
   have:=qS (row:=row) (cs:=cs) (i:=i+1) h.2 j (by simpa using T);rw[show i+1+j=i+(j+1) by omega] at this;exact this
def sh{t:A4}{row:List A3}(h:jK t row=true):row.length=t.cols.length/\row.all au=true:=by
 simp only[jK,aE,beq_iff_eq] at h;refine⟨h.1,List.all_eq_true.2 (fun v T=> ?_)⟩;obtain⟨i,hi,rfl⟩:=List.mem_iff_getElem.1 T;have:=qS h.2 i C;rw[Nat.zero_add,List.getD_eq_getElem?_getD,gG hi] at this;exact this
def bC{row:List A3}(h:row.all au=true)(i:Nat):au (row.getD i af)=true:=by
 rw[List.getD_eq_getElem?_getD];cases T:row[i]? with
 |none=>rfl
 |some v=>exact aT h v (gE T)
def lt_cons{a b:UInt8}{s u:Str}:(a::s)<(b::u)↔a<b\/a=b/\s<u:=List.cons_lt_cons_iff
def DH(n:Str)(s:Str): ¬(dm n++s<dm n)/\dm n++s<(eh n).hi:=by
 constructor
 · intro hc;have:=(mh (dm n) s []).1 (by rw[List.append_nil];exact hc);simp at this
 · show(([114] ++n)++ [0])++s<([114] ++n)++ [1];rw[List.append_assoc,mh];exact lt_cons.2 (.inl dD)
def KJ(n:Str)(s:Str): ¬((120:UInt8)::s<(eh n).hi):=by
 show¬((120:UInt8)::s<114::(n++ [1]));rw[lt_cons];rintro (h|⟨h,_⟩)
 · exact absurd h dD
 · exact absurd h dD
def pc{t:A4}{r:List A3}(h:r.length=t.cols.length/\r.all au=true):dg t (de r)=some r:=by
 rw[dg,pr h.2];exact if_pos h.1
def qn{l:List Pr}(h:BZ l):l.Nodup:=(List.pairwise_map.1 h).imp (fun h e=>by rw[e] at h;exact List.lt_irrefl _ h)
def xY{c:B0}{t:A4}(h0:t.cols.length≠0): ∀(l:List (List A3)) {ps:List Pg},aG ps=true->(∀r∈l,r.length=t.cols.length)->aG (l.foldl (fun ps r=>gZ ps c t r) ps)=true/\
 ∀a b,(a,b)∈az (l.foldl (fun ps r=>gZ ps c t r) ps)↔(∀r∈l,a∉cE t r c.is/\a≠jD t r)/\(a,b)∈az ps
 | [],ps,T,_=>⟨T,fun a b=>by simp⟩
 |r::l,ps,T,hl=>by
  have hr:=hl r sP;obtain⟨g1,m1⟩:=FJ (c:=c) T C hr;obtain⟨g2,m2⟩:=xY h0 l g1 (fun r hr=>hl r (by simp[hr]));refine⟨g2,fun a b=> ?_⟩;rw[List.foldl_cons,m2,m1];simp only[List.mem_cons,forall_eq_or_imp];constructor
  · rintro ⟨h1,h2,h3,h4⟩;exact⟨⟨⟨h2,h3⟩,h1⟩,h4⟩
  · rintro ⟨⟨⟨h2,h3⟩,h1⟩,h4⟩;exact⟨h1,h2,h3,h4⟩
def qh(s:Str): ¬s< []:=by simp
def EL{x y:UInt8}(T: ∀b:UInt8,b<y-> ¬b<x->b=x)(ad: ∀b:UInt8,b=y-> ¬b<y): ∀(p a:Str),¬a<p++ [x] ->a<p++ [y] -> ∃s,a=p++x::s
 | [],[],h1,_=>absurd sP h1
 | [],b::s,h1,h2=>by
   simp only[List.nil_append,lt_cons,qh,and_false,or_false] at h1 h2;exact⟨s,by rw[T b h2 h1];rfl⟩
 |q::p,[],h1,_=>absurd sP h1
 |q::p,b::s,h1,h2=>by
  simp only[List.cons_append,lt_cons,not_or,not_and] at h1 h2;rcases h2 with h2|⟨rfl,h2⟩
  · exact absurd h2 h1.1
  · obtain⟨u,hu⟩:=EL T ad p s (h1.2 U) h2;exact⟨u,by rw[hu];rfl⟩
def BT{n a:Str}(h1: ¬a<dm n)(h2:a<(eh n).hi): ∃s,a=dm n++s:=by
 have T: ¬a<([114] ++n)++ [0]:=h1;have ad:a<([114] ++n)++ [1]:=h2;obtain⟨s,hs⟩:=EL (x:=0) (y:=1) (fun b h1 h2=>by
  rw[UInt8.lt_iff_toNat_lt] at h1 h2;exact UInt8.toNat_inj.1 (by simp at h1 h2|-;omega)) (fun b e=>by rw[e];decide) ([114] ++n) a T ad
 exact⟨s,by rw[hs];simp[dm]⟩
def oQ: ∀(p a:Str),¬a<p->a<p++ [255] -> ∃s,a=p++s
 | [],a,_,_=>⟨a,rfl⟩
 |q::p,[],h1,_=>absurd sP h1
 |q::p,b::s,h1,h2=>by
  simp only[List.cons_append,lt_cons,not_or,not_and] at h1 h2;rcases h2 with h2|⟨rfl,h2⟩
  · exact absurd h2 h1.1
  · obtain⟨u,hu⟩:=oQ p s (h1.2 U) h2;exact⟨u,by rw[hu];rfl⟩
def EM(p s:Str): ¬p++s<p:=fun h=>by
 have:p++s<p++ []:=by rwa [List.append_nil]
 rw[mh] at this;exact qh s this
def DG(p s:Str)(hs: ∀b r,s=b::r->b<255):p++s<p++ [255]:=by
 rw[mh];cases s with
 |nil=>simp
 |cons b r=>rw[lt_cons];exact .inl (hs b r U)
def uR{p a:Str}(h1: ¬a<p)(h2:a<p++ [0]):a=p:=by
 have h3:a<p++ [255]:=by
  refine dn h2 ?_;rw[mh,lt_cons];exact .inl dD
 obtain⟨s,rfl⟩:=oQ p a h1 h3;rw[mh] at h2;cases s with
 |nil=>simp
 |cons b r=>
  rw[lt_cons] at h2;rcases h2 with h2|⟨_,h2⟩
  · rw[UInt8.lt_iff_toNat_lt] at h2;simp at h2
  · exact absurd h2 (qh r)
def Mf: ∀{n m s u:Str},(∀b∈n,b≠0)->(∀b∈m,b≠0)->n++0::s=m++0::u->n=m/\s=u
 | [],[],s,u,_,_,h=>⟨rfl,by simpa using h⟩
 | [],b::m,s,u,_,h2,h=>by
   simp only[List.nil_append,List.cons_append,List.cons.injEq] at h;exact absurd h.1.symm (h2 b sP)
 |b::n,[],s,u,h1,_,h=>by
  simp only[List.nil_append,List.cons_append,List.cons.injEq] at h;exact absurd h.1 (h1 b sP)
 |b::n,d::m,s,u,h1,h2,h=>by
  simp only[List.cons_append,List.cons.injEq] at h;obtain⟨e1,e2⟩:=Mf (fun b T=>h1 b (by simp[T])) (fun b T=>h2 b (by simp[T])) h.2;exact⟨by rw[h.1,e1],e2⟩
def po{n:Str}(h:bF n=true): ∀b∈n,b≠0:=by
 simp only[bF,aE] at h;intro b T e;have:=aT h.1 b T;rw[e] at this;simp[iP] at this
def xg{n m s u:Str}(hn:bF n=true)(hm:bF m=true)(h:dm n++s=dm m++u):n=m/\s=u:=by
 simp only[dm,List.append_assoc,List.cons_append,List.nil_append,List.cons.injEq,true_and] at h;exact Mf (po hn) (po hm) h
def qZ{n m s u:Str}(hn:bF n=true)(hm:bF m=true)(h:aO n++s=aO m++u):n=m/\s=u:=by
 simp only[aO,List.append_assoc,List.cons_append,List.nil_append,List.cons.injEq,true_and] at h;exact Mf (po hn) (po hm) h
def ql{v w:A3}{x y:Str}(T:au v=true)(hw:au w=true)(h:bZ v++x=bZ w++y):v=w/\x=y:=by
 have h1:=pR T x;rw[h,pR hw y] at h1;simp only[Option.some.injEq,Prod.mk.injEq] at h1;exact⟨h1.1.symm,h1.2.symm⟩
def Lc{v:A3}(h:au v=true):de [v] =bZ v:=by rw[mN (by simp[h])];simp
def AT{v w:A3}(h:au v=true)(k:au w=true):de [v,w] =bZ v++bZ w:=by rw[mN (by simp[h,k])];simp
def AU{v:A3}(h:au v=true): ∀b r,bZ v=b::r->b<255:=by
 intro b r e;rcases no h with rfl|⟨n,rfl,_,_⟩|⟨s,rfl,_,_⟩
 · rw[pt] at e;cases e;decide
 · rw[lH] at e;cases e;decide
 · rw[lG] at e;cases e;decide
def vEq(a b:A3):Bool:=a.k==b.k && (a.n==b.n && a.s==b.s)
def vEq_iff{a b:A3}:vEq a b=true↔a=b:=by
 obtain⟨k,n,s⟩:=a;obtain⟨T,n',s'⟩:=b;simp[vEq]
structure DB (c:B0) (ps:List Pg) (D:Str->List (List A3)):Prop where
 cat:C5 c
 good:aG ps=true
 fit: ∀t∈c.ts,∀r∈D t.n,r.length=t.cols.length/\r.all au=true
 dis: ∀t∈c.ts,(D t.n).Pairwise (fun r r'=>r.getD 0 af≠r'.getD 0 af)
 mem: ∀a b,(a,b)∈az ps↔ ∃t∈c.ts,∃r∈D t.n,(a=jD t r/\b=de r)\/(a∈cE t r c.is/\b= [])
def C5.tname{c:B0}(h:C5 c){t:A4}(ht:t∈c.ts):bF t.n=true:=by
 have:=h.tabs t ht;simp only[cv,aE] at this;exact this.2.1
def C5.tinj{c:B0}(h:C5 c){t u:A4}(ht:t∈c.ts)(hu:u∈c.ts)(e:t.n=u.n):t=u:=pm h.tn t ht u hu e
def C5.xinj{c:B0}(h:C5 c){t u:A7}(ht:t∈c.is)(hu:u∈c.is)(e:t.n=u.n):t=u:=pm h.xn t ht u hu e
def C5.wide{c:B0}(h:C5 c){t:A4}(ht:t∈c.ts):1<=t.cols.length/\t.cols.length<=4:=by
 have:=h.tabs t ht;simp only[cv,aE,decide_eq_true_eq] at this;exact⟨this.2.2.1,this.2.2.2.1⟩
def FN{t:A4}(h:cv t=true){k:Nat}(hk:k<t.cols.length):aV t (tj t k)=k:=by
 simp only[cv,aE] at h;have h1:t.cols[k]?=some (t.cols.getD k ⟨[],0,false⟩):=cV _ hk;have:=zip_all.1 h.1 k _ h1;simp only[ti,Bool.not_eq_true',Bool.or_eq_false_iff,bne_eq_false_iff_eq] at this;have e:tj t (k:Int)=(t.cols.getD k ⟨[],0,false⟩).n:=by rw[tj,iN]
 rw[e];exact this.2
def xr{α β:Type}{R:List β}{l:List α}(g:α->β)(f:β->Option α)(hR:R.Nodup)(hm: ∀x,x∈R↔ ∃r∈l,x=g r)(hf: ∀r∈l,f (g r)=some r)(hl:l.Nodup):(R.filterMap f).Perm l:=by
 have T: ∀m:List α,(∀r∈m,r∈l)->(m.map g).filterMap f=m:=fun m hm=>by
  induction m with
  |nil=>rfl
  |cons r m ih=>rw[List.map_cons,List.filterMap_cons,hf r (hm r sP),ih (fun r hr=>hm r (by simp[hr]))]
 have ar:(l.map g).Nodup:=by
  refine List.Pairwise.map _ (fun r r' h=>h) ?_;refine hl.imp_of_mem (fun{r r'} hr aR a0 e=>a0 ?_);have h1:=hf r hr;rw[e,hf r' aR] at h1;exact(Option.some.inj h1).symm
 have ad:R.Perm (l.map g):=by
  refine(List.perm_ext_iff_of_nodup hR ar).2 (fun x=> ?_);rw[hm,List.mem_map];exact⟨fun⟨r,hr,e⟩=>⟨r,hr,e.symm⟩,fun⟨r,hr,e⟩=>⟨r,hr,e.symm⟩⟩
 have:=ad.filterMap f
 rwa [T l (fun r hr=>hr)] at this
def DB.nodup{c:B0}{ps:List Pg}{D:Str->List (List A3)}(h:DB c ps D){t:A4}(ht:t∈c.ts):(D t.n).Nodup:=(h.dis t ht).imp (fun{a b} T e=>T (by rw[e]))
def pW{ps:List Pg}(h:aG ps=true)(lo hi:Str):BZ (dG ps lo hi):=by
 rw[xk _ _ h];exact(oV h).sublist (List.Sublist.map _ List.filter_sublist)
def xl{ps:List Pg}(h:aG ps=true)(lo hi a b:Str):(a,b)∈dG ps lo hi↔(a,b)∈az ps/\ ¬a<lo/\a<hi:=by
 rw[xk _ _ h,List.mem_filter];simp
def jb{c:B0}{ps:List Pg}{D:Str->List (List A3)}(h:DB c ps D){t:A4}(ht:t∈c.ts)(lo hi:Str)(P:List A3->Bool)(ar: ∀a,¬a<lo->a<hi-> ¬a<dm t.n/\a<(eh t.n).hi)
 (hP: ∀r∈D t.n,P r=true↔ ¬jD t r<lo/\jD t r<hi):
 (ci ps t ⟨[],lo,hi⟩).Perm ((D t.n).filter P)/\(ci ps t ⟨[],lo,hi⟩).Pairwise (fun r r'=>cA (r.getD 0 af) (r'.getD 0 af)= -1):=by
 have hp:ci ps t ⟨[],lo,hi⟩=(dG ps lo hi).filterMap (fun x=>dg t x.2):=by rw[ci];congr 1
 have hm: ∀x:Pr,x∈dG ps lo hi↔ ∃r∈(D t.n).filter P,x=(jD t r,de r):=by
  rintro ⟨a,b⟩;rw[xl h.good,h.mem];constructor
  · rintro ⟨⟨u,hu,r,hr,hx⟩,h1,h2⟩;obtain⟨g1,g2⟩:=ar a h1 h2;rcases hx with⟨rfl,rfl⟩|⟨hx,_⟩
    · obtain⟨s,hs⟩:=BT g1 g2;have e:=h.cat.tinj hu ht (xg (h.cat.tname hu) (h.cat.tname ht) hs).1;subst e;exact⟨r,List.mem_filter.2 ⟨hr,(hP r hr).2 ⟨h1,h2⟩⟩,rfl⟩
    · obtain⟨s,rfl⟩:=Ey hx;exact absurd g2 (KJ t.n s)
  · rintro ⟨r,hr,e⟩;obtain⟨hr,aR⟩:=List.mem_filter.1 hr;obtain⟨rfl,rfl⟩:=Prod.mk.inj e;obtain⟨h1,h2⟩:=(hP r hr).1 aR;exact⟨⟨t,ht,r,hr,.inl ⟨rfl,rfl⟩⟩,h1,h2⟩
 rw[hp];refine⟨xr (fun r=>(jD t r,de r)) _ (qn (pW h.good lo hi)) hm (fun r hr=>pc (h.fit t ht r (List.mem_filter.1 hr).1)) ((h.nodup ht).filter _),?_⟩;refine List.pairwise_filterMap.2 ?_;refine(List.pairwise_map.1 (pW h.good lo hi)).imp_of_mem (fun{x y} hx hy a0 r hr r' a1=> ?_);obtain⟨q,hq,rfl⟩:=(hm x).1 hx;obtain⟨q',T,rfl⟩:=(hm y).1 hy;have hq:=(List.mem_filter.1 hq).1;have T:=(List.mem_filter.1 T).1;have e1:=(pc (h.fit t ht q hq)).symm.trans hr;have e2:=(pc (h.fit t ht q' T)).symm.trans a1;cases e1;cases e2;have ad:de [r.getD 0 af] <de [r'.getD 0 af]:=(mh (dm t.n) _ _).1 a0;exact(Ev (bC (h.fit t ht r hq).2 0) (bC (h.fit t ht r' T).2 0)).1 ad
def Ho{c:B0}{ps:List Pg}{D:Str->List (List A3)}(h:DB c ps D){t:A4}(ht:t∈c.ts){x:A7}(hx:x∈c.is)(a1:x.tb=t.n){k:Nat}(hk:k<t.cols.length)(a6:x.co=tj t k){v:A3}(hv:au v=true):
 (ci ps t (oi x v)).Perm ((D t.n).filter (fun r=>vEq (r.getD k af) v)):=by
 have aR:=(h.cat.idx x hx).1;have ad:aV t x.co=k:=by rw[a6];exact FN (h.cat.tabs t ht) hk
 have ar: ∀r∈D t.n,iz t r x=aO x.n++(bZ (r.getD k af)++bZ (r.getD 0 af)):=fun r hr=>by
  have T:=(h.fit t ht r hr).2;rw[iz,ad,iN,eE,AT (bC T k) (bC T 0)]
 have hm: ∀z:Pr,z∈dG ps (oi x v).lo (oi x v).hi↔ ∃r∈(D t.n).filter (fun r=>vEq (r.getD k af) v),z=(iz t r x,[]):=by
  rintro ⟨a,b⟩;rw[xl h.good,h.mem];constructor
  · rintro ⟨⟨u,hu,r,hr,hy⟩,h1,h2⟩;obtain⟨s,hs⟩:=oQ (aO x.n++de [v]) a h1 h2;rw[List.append_assoc,Lc hv] at hs;rcases hy with⟨rfl,_⟩|⟨hy,rfl⟩
    · have:(114:UInt8)=120:=by
       have:=congrArg List.head? hs;simp[jD,ap,dm,aO] at this
      exact absurd this dD
    · obtain⟨x',a7,rfl⟩:=mM hy;obtain⟨a2,a3⟩:=List.mem_filter.1 a7;simp only[wo,aE,beq_iff_eq,decide_eq_true_eq] at a3;have T:=(h.fit u hu r hr).2;rw[iz,eE,AT (bC T _) (bC T 0)] at hs;obtain⟨e1,e2⟩:=qZ (h.cat.idx x' a2).1 aR hs;have e:=h.cat.xinj a2 hx e1;subst e;have e:=h.cat.tinj hu ht (a3.1.symm.trans a1);subst e;rw[ad,iN] at e2;obtain⟨e3,_⟩:=ql (bC T k) hv e2;exact⟨r,List.mem_filter.2 ⟨hr,vEq_iff.2 e3⟩,rfl⟩
  · rintro ⟨r,hr,e⟩;obtain⟨hr,a0⟩:=List.mem_filter.1 hr;have a0:=vEq_iff.1 a0;obtain⟨rfl,rfl⟩:=Prod.mk.inj e;have T:=(h.fit t ht r hr).2;refine⟨⟨t,ht,r,hr,.inr ⟨List.mem_map.2 ⟨x,List.mem_filter.2 ⟨hx,?_⟩,rfl⟩,rfl⟩⟩,?_⟩
    · simp only[wo,aE,beq_iff_eq,decide_eq_true_eq];exact⟨a1,by rw[ad];omega⟩
    · rw[ar r hr,a0];show¬_<aO x.n++de [v] /\_<(aO x.n++de [v])++ [255];rw[Lc hv,<-List.append_assoc];exact⟨EM _ _,DG _ _ (AU (bC T 0))⟩
 have hp:ci ps t (oi x v)=(dG ps (oi x v).lo (oi x v).hi).filterMap (fm ps t (oi x v)):=rfl;rw[hp];refine xr (fun r=>(iz t r x,[])) _ (qn (pW h.good _ _)) hm (fun r hr=> ?_) ((h.nodup ht).filter _);have hr:=(List.mem_filter.1 hr).1;have T:=(h.fit t ht r hr).2;have a8:(oi x v).i≠ []:=fun e=>by
  have e:x.n= []:=e;rw[e] at aR;simp[bF] at aR
 have a4:qo (oi x v) (iz t r x)=some [r.getD k af,r.getD 0 af]:=by
  unfold qo;have e1:((aO (oi x v).i).length:Int)<=((iz t r x).length:Int):=by
   rw[ar r hr];show((aO x.n).length:Int)<=_;rw[gV];omega
  rw[if_neg C,iN];show(match dz ((iz t r x).drop (aO x.n).length) with|some l=>_|none=>_)=_;rw[ar r hr,List.drop_left,<-AT (bC T k) (bC T 0),pr (by rw[List.all_cons,List.all_cons,bC T k,bC T 0];rfl)];rfl
 unfold fm;rw[if_neg a8,a4];have a5:(getM ps (ap t.n (r.getD 0 af))).1=de r:=by
  have:=xV (w:=de r) (oV h.good) ((h.mem (jD t r) _).2 ⟨t,ht,r,hr,.inl ⟨rfl,rfl⟩⟩);rw[vw h.good];exact congrArg Prod.fst this
 show dg t (getM ps (ap t.n (r.getD 0 af))).1=some r;rw[a5,pc (h.fit t ht r hr)]
def uS(n:Int):rm (dW n)=1↔n=1:=by
 unfold dW;split
 · rename_i h;rcases h with rfl|rfl<;>simp[rm]
 · rename_i h;constructor
   · intro e;simp[rm,af] at e
   · intro e;exact absurd (.inr e) h
def and_one{a b:Int}:BW a b=1↔a=1/\b=1:=by
 unfold BW;split
 · rename_i h;constructor
   · intro e;cases e
   · rintro ⟨rfl,rfl⟩;simp at h
 · split
   · rename_i h;simp[h]
   · rename_i h;constructor
     · intro e;cases e
     · intro e;exact absurd e h
def Jj(a b:A3):rm (pT 7 a b)=1↔rm a=1/\rm b=1:=by
 rw[pT,if_pos U,uS,and_one]
def qf(row:List A3): ∀e:Ex,rm (aC row e)=1-> ∀p∈cQ e,rm (aC row p)=1
 | .mk op v s name n l,h=>by
   by_cases h7:op=7/\l.length=2
   · obtain⟨rfl,h2⟩:=h7
     match l,h2 with
     | [a,b],_=>
     rw[pj];rw[eP,jO _ _ _ _ dD dD] at h;obtain⟨h1,h2⟩:=(Jj _ _).1 h;intro p T;rcases mA T with T|T
     · exact qf row a h1 p T
     · exact qf row b h2 p T
   · rw[gW v s name n h7];intro p T;rw[List.mem_singleton] at T;rw[T];exact h
structure H0 (v u:A3) (op:Int):Prop where
 gv:au v=true
 gu:au u=true
 v0:v.k≠0
 eq:op=5->u=v
 lt:op=6->cA u v= -1
 gt:op= -1->cA v u= -1
def Kx{v w:A3}(T:au v=true)(hw:au w=true)(h:cA v w<0):cA v w= -1:=by
 rcases zw T hw with⟨_,h1⟩|⟨h1,_⟩|⟨h1,_⟩<;>rw[h1] at h|-
 · exact absurd h dD
 · exact absurd h dD
def IJ{v w:A3}(T:au v=true)(hw:au w=true)(h:cA v w=0):v=w:=by
 rcases zw T hw with⟨h1,_⟩|⟨h1,_⟩|⟨h1,_⟩
 · exact h1
 · rw[h1] at h;cases h
 · rw[h1] at h;cases h
def Ep(b:Bool):yT b=1↔b=true:=by cases b<;>simp[yT]
def GK{op:Int}{a b:A3}(ad:op=5\/op=6)(h:rm (pT op a b)=1):au a=true/\au b=true/\a.k=b.k/\a.k≠0/\(op=5->a=b)/\(op=6->cA a b= -1):=by
 rw[pT,if_neg C,if_neg C] at h;split at h
 · simp[rm,af] at h
 · rename_i hn;simp only[not_or,Bool.not_eq_false,ne_eq,Decidable.not_not] at hn;obtain⟨n1,T,n3,n4⟩:=hn;refine⟨T,n3,n1,n4,fun e=> ?_,fun e=> ?_⟩
   · rw[if_pos e,uS,Ep,beq_iff_eq] at h;exact IJ T n3 h
   · rw[if_neg C,if_pos e,uS,Ep,decide_eq_true_eq] at h;exact Kx T n3 h
def yf(op:Int)(v:A3)(s name:Str)(n:Int)(a b:Ex):bk (.mk op v s name n [a,b])=if op≠5/\op≠6 then(-1,af,0) else if a.op=2/\b.op=1/\au b.v=true then(a.n,b.v,op) else if a.op=1/\b.op=2/\au a.v=true then(b.n,a.v,if op=5 then op else -1) else(-1,af,0):=by
 simp[bk,Ex.op_mk,Ex.l_mk];rfl
def yg{op:Int}{v:A3}{s name:Str}{n:Int}{l:List Ex}(h:l.length≠2):bk (.mk op v s name n l)=(-1,af,0):=by rw[bk,if_pos (.inr h)]
def Ej(row:List A3): ∀{x:Ex},x.op=2->0<=x.n->aC row x=row.getD x.n.toNat af
 | .mk o w s n i l,T,hn=>by
   have T:o=2:=T;have hi:0<=i:=hn;subst T;rw[eP,oC,uH,if_pos hi,List.getD_eq_getElem?_getD];rfl
def Et(row:List A3): ∀{x:Ex},x.op=1->aC row x=x.v
 | .mk o w s n i l,T=>by
   have T:o=1:=T;subst T;rw[eP,jo,if_pos U];rfl
def Dw{row:List A3}: ∀{e:Ex} (h:rm (aC row e)=1) (T:(bk e).2.2≠0) (h0:0<=(bk e).1),H0 (bk e).2.1 (row.getD (bk e).1.toNat af) (bk e).2.2
 | .mk op v s name n l,h,T,h0=>by
   by_cases h2:l.length=2
   · match l,h2 with
     | [a,b],_=>
     rw[yf] at T h0|-;split at T
     · exact absurd U T
     rename_i hc;rw[if_neg hc] at h0|-;have ad:op=5\/op=6:=C;rw[eP,jO _ _ _ _ C C] at h;obtain⟨g1,g2,g3,g4,g5,g6⟩:=GK ad h;split at T
     · rename_i c1;rw[if_pos c1] at h0|-;obtain⟨c1,c2,c3⟩:=c1;have ea:=Ej row c1 h0;have eb:=Et row c2;rw[ea,eb] at g5 g6;rw[ea] at g1 g3 g4;rw[eb] at g3;exact⟨c3,g1,fun e=>g4 (g3.trans e),g5,g6,fun e=>by have e:op= -1:=e;omega⟩
     · rename_i c1;rw[if_neg c1] at h0|-;split at T
       · rename_i c2;rw[if_pos c2] at h0|-;obtain⟨c2,c3,c4⟩:=c2;have ea:=Et row c2;have eb:=Ej row c3 h0;rw[ea,eb] at g5 g6;rw[eb] at g2 g3;rw[ea] at g3 g4;show H0 a.v (row.getD b.n.toNat af) (if op=5 then op else -1);rcases ad with h5|h6
         · rw[if_pos h5];exact⟨c4,g2,g4,fun e=>(g5 h5).symm,fun e=>by omega,fun e=>by omega⟩
         · rw[if_neg C];exact⟨c4,g2,g4,fun e=>absurd e dD,fun e=>absurd e dD,fun _=>g6 h6⟩
       · exact absurd U T
   · rw[yg h2] at T;exact absurd U T
def Dx: ∀{e:Ex},(bk e).2.2≠0->au (bk e).2.1=true
 | .mk op v s name n l,T=>by
   by_cases h2:l.length=2
   · match l,h2 with
     | [a,b],_=>
     rw[yf] at T|-;split at T
     · exact absurd U T
     rename_i c0;rw[if_neg c0];split at T
     · rename_i c1;rw[if_pos c1];exact c1.2.2
     rename_i c1;rw[if_neg c1];split at T
     · rename_i c2;rw[if_pos c2];exact c2.2.2
     · exact absurd U T
   · rw[yg h2] at T;exact absurd U T
def Bg(pre r:List A3)(i:Nat)(h:pre.length<=i):(pre++r).getD i af=r.getD (i - pre.length) af:=by
 rw[List.getD_eq_getElem?_getD,List.getD_eq_getElem?_getD,List.getElem?_append_right h]
def wH(t:A4)(rows:List (List A3))(ps:List Pg)(Hold:List A3->Prop)(W:Way):Prop:=
 W.i.length<=8/\ ∃P:List A3->Bool,(ci ps t W).Perm (rows.filter P)/\ ∀r∈rows,Hold r->P r=true
section
variable {c:B0}{ps:List Pg}{D:Str->List (List A3)}{t:A4}{Hold:List A3->Prop}
def Fn{a x y:Str}(h: ¬a<x)(k: ¬x<y): ¬a<y:=fun e=>by
 rcases Decidable.em (a=x) with rfl|T
 · exact k e
 · exact k (dn (tri h T) e)
def Bl(h:DB c ps D)(ht:t∈c.ts):wH t (D t.n) ps Hold (eh t.n):=by
 refine⟨by simp[eh],fun _=>true,?_,fun _ _ _=>rfl⟩;exact(jb h ht (dm t.n) (eh t.n).hi (fun _=>true) (fun a h1 h2=>⟨h1,h2⟩) (fun r hr=>⟨fun _=>DH t.n (de [r.getD 0 af]),fun _=>rfl⟩)).1
def FE(h:DB c ps D)(ht:t∈c.ts)(hn: ∀r∈D t.n,¬Hold r):wH t (D t.n) ps Hold ⟨[],dm t.n,dm t.n⟩:=by
 refine⟨by simp,fun _=>false,?_,fun r hr T=>absurd T (hn r hr)⟩;exact(jb h ht (dm t.n) (dm t.n) (fun _=>false) (fun a h1 h2=>absurd h2 h1) (fun r hr=>by simp)).1
def pf(n:Str)(v:A3): ¬ap n v<dm n/\ap n v<(eh n).hi:=DH n (de [v])
def Kl(h:DB c ps D)(ht:t∈c.ts){v:A3}(T:au v=true)(hh: ∀r∈D t.n,Hold r->r.getD 0 af=v):wH t (D t.n) ps Hold ⟨[],ap t.n v,ap t.n v++ [0]⟩:=by
 refine⟨by simp,fun r=>vEq (r.getD 0 af) v,?_,fun r hr k=>vEq_iff.2 (hh r hr k)⟩;refine(jb h ht _ _ _ (fun a h1 h2=> ?_) (fun r hr=> ?_)).1
 · rw[uR h1 h2];exact pf t.n v
 · rw[vEq_iff];constructor
   · intro e;rw[jD,e];exact⟨List.lt_irrefl _,by
      have:ap t.n v++ [] <ap t.n v++ [0]:=by rw[mh];simp
      rwa [List.append_nil] at this⟩
   · rintro ⟨h1,h2⟩;have e:=uR h1 h2;exact AS (bC (h.fit t ht r hr).2 0) T (List.append_cancel_left e)
def Eg{n:Str}{u v:A3}(hu:au u=true)(T:au v=true):ap n u<ap n v↔cA u v= -1:=by
 rw[ap,ap,mh];exact Ev hu T
def Kj(h:DB c ps D)(ht:t∈c.ts){v:A3}(T:au v=true)(hh: ∀r∈D t.n,Hold r->cA (r.getD 0 af) v= -1):wH t (D t.n) ps Hold ⟨[],dm t.n,ap t.n v⟩:=by
 refine⟨by simp,fun r=>decide (cA (r.getD 0 af) v= -1),?_,fun r hr k=>decide_eq_true (hh r hr k)⟩;refine(jb h ht _ _ _ (fun a h1 h2=>⟨h1,dn h2 (pf t.n v).2⟩) (fun r hr=> ?_)).1;rw[decide_eq_true_eq,<-Eg (n:=t.n) (bC (h.fit t ht r hr).2 0) T];exact⟨fun e=>⟨(pf t.n _).1,e⟩,fun e=>e.2⟩
def Kk(h:DB c ps D)(ht:t∈c.ts){v:A3}(hv:au v=true)(hh: ∀r∈D t.n,Hold r->cA v (r.getD 0 af)= -1):wH t (D t.n) ps Hold ⟨[],ap t.n v++ [0],(eh t.n).hi⟩:=by
 refine⟨by simp,fun r=>decide (cA v (r.getD 0 af)= -1),?_,fun r hr k=>decide_eq_true (hh r hr k)⟩;have T: ¬ap t.n v++ [0] <dm t.n:=by
  rw[ap,List.append_assoc];exact EM _ _
 refine(jb h ht _ _ _ (fun a h1 h2=>⟨Fn h1 T,h2⟩) (fun r hr=> ?_)).1;rw[decide_eq_true_eq,<-Eg (n:=t.n) hv (bC (h.fit t ht r hr).2 0)];constructor
 · intro e;refine⟨fun e2=> ?_,(pf t.n _).2⟩;have:=uR (List.lt_asymm e) e2;rw[this] at e;exact List.lt_irrefl _ e
 · rintro ⟨h1,_⟩;refine Decidable.byContradiction (fun hn=>h1 ?_);have h3:ap t.n v<ap t.n v++ [0]:=by
    have:ap t.n v++ [] <ap t.n v++ [0]:=by rw[mh];simp
    rwa [List.append_nil] at this
   rcases Decidable.em (jD t r=ap t.n v) with e|e
   · rw[e];exact h3
   · exact dn (tri hn (fun e2=>e e2.symm)) h3
def zo(h:DB c ps D)(ht:t∈c.ts){k:Nat}(hk:k<t.cols.length){v:A3}(T:au v=true)(hh: ∀r∈D t.n,Hold r->r.getD k af=v): ∀(l:List A7),(∀x∈l,x∈c.is)-> ∀(b:Way) (r:Int),wH t (D t.n) ps Hold b->wH t (D t.n) ps Hold (zb t k v l b r).1
 | [],_,b,r,hb=>hb
 |x::l,hl,b,r,hb=>by
  rw[zb];split
  · rename_i hc;simp only[aE,beq_iff_eq,decide_eq_true_eq] at hc;have hx:=hl x sP;refine zo h ht hk T hh l (fun y hy=>hl y (by simp[hy])) _ _ ⟨?_,fun r=>vEq (r.getD k af) v,Ho h ht hx hc.1 hk hc.2.1 T,fun r hr q=>vEq_iff.2 (hh r hr q)⟩;have:=(h.cat.idx x hx).1;simp only[bF,aE,decide_eq_true_eq] at this;exact this.2.2.1
  · exact zo h ht hk T hh l (fun y hy=>hl y (by simp[hy])) b r hb
end
def ye{c:B0}{ps:List Pg}{D:Str->List (List A3)}{t:A4}(h:DB c ps D)(ht:t∈c.ts)(pre:List A3){Hold:List A3->Prop}: ∀(l:List Ex),(∀p∈l,(bk p).2.2≠0-> ∀r∈D t.n,Hold r->rm (aC (pre++r) p)=1)->
 ∀(b:Way) (r:Int),wH t (D t.n) ps Hold b->wH t (D t.n) ps Hold (zy c t pre.length l b r)
 | [],_,b,_,hb=>hb
 |p::l,hl,b,rk,hb=>by
  rw[zy];have ih:=ye h ht pre l (fun q hq=>hl q (by simp[hq]));split
  · exact ih b rk hb
  rename_i hs;simp only[not_or,Int.not_lt,Int.not_le] at hs;obtain⟨s1,s2,s3⟩:=hs;have T: ∀r∈D t.n,Hold r->H0 (bk p).2.1 (r.getD ((bk p).1 - pre.length).toNat af) (bk p).2.2:=fun r hr hh=>by
   have ar:=(h.fit t ht r hr).1;have:=Dw (hl p sP s1 r hr hh) s1 C
   rwa [Bg _ _ _ C,show(bk p).1.toNat - pre.length=((bk p).1 - pre.length).toNat by omega] at this
  split
  · rename_i hv;exact FE h ht (fun r hr hh=>(T r hr hh).v0 hv)
  · refine ih _ _ ?_;have gv:=Dx s1;generalize aR:((bk p).1 - pre.length).toNat=k at T;have hk:(bk p).1 - (pre.length:Int)=(k:Int):=C;rw[hk] at s3|-;have ad:k<t.cols.length:=C;unfold gI;split
    · rename_i a;have k0:k=0:=C;subst k0;exact Kl h ht gv (fun r hr hh=>(T r hr hh).eq a.1.2)
    split
    · rename_i a;exact zo h ht ad gv (fun r hr hh=>(T r hr hh).eq a.1) c.is (fun x hx=>hx) b rk hb
    split
    · rename_i a;have k0:k=0:=C;subst k0;exact Kj h ht gv (fun r hr hh=>(T r hr hh).lt a.1.2)
    split
    · rename_i a;have k0:k=0:=C;subst k0;exact Kk h ht gv (fun r hr hh=>(T r hr hh).gt a.1.2)
    · exact hb
def HW(e:Ex)(row:List A3):Bool:=(e.op==0)||(rm (aC row e)==1)
def BL{c:B0}{ps:List Pg}{D:Str->List (List A3)}{t:A4}(h:DB c ps D)(ht:t∈c.ts)(pre:List A3)(e:Ex):wH t (D t.n) ps (fun r=>HW e (pre++r)=true) (bO c t pre.length e):=by
 refine ye h ht pre (cQ e) (fun p hp ad r hr T=> ?_) _ _ (Bl h ht);simp only[HW,Bool.or_eq_true,beq_iff_eq] at T;rcases T with h0|T
 · obtain⟨op,v,s,name,n,l⟩:=e;have h0:op=0:=h0;subst h0;rw[gW v s name n (fun e=>by have:=e.1;omega),List.mem_singleton] at hp;subst hp;exact absurd (by simp[bk,Ex.op_mk]) ad
 · exact qf _ e T p hp
inductive H1:Nat->Ex->Prop
 |mk {n:Nat} {op:Int} {v:A3} {s name:Str} {i:Int} {l:List Ex} (h: ∀x∈l,H1 n x):H1 (n+1) (.mk op v s name i l)
def pk: ∀{n:Nat} {e:Ex},H1 (n+1) e->(cQ e).length<=2 ^ n
 |n,.mk op v s name i l,h=>by
  by_cases T:op=7/\l.length=2
  · obtain⟨rfl,h2⟩:=T
    match l,h2 with
    | [a,b],_=>
    cases h with
    |mk h=>
     have ha:=h a sP;have hb:=h b sP;cases n with
     |zero=>cases ha
     |succ n=>
      rw[pj,gV,Nat.pow_succ];have:=pk ha;have:=pk hb;omega
  · rw[gW v s name i T];exact Nat.one_le_two_pow
def vq: ∀(n:Nat) {e:Ex},bX (41 - (n:Int)) e=true->H1 n e
 |0,.mk op v s name i l,h=>by
  rw[gD] at h;split at h
  · cases h
  · simp at h
 |n+1,.mk op v s name i l,h=>by
  rw[gD] at h;split at h
  · cases h
  · refine .mk (fun x T=>vq n ?_);simp only[aE,Bool.not_eq_true'] at h;have:=List.any_eq_false.1 h.2.2 x T;simp only[Bool.not_eq_true',Bool.not_eq_false] at this;rw[show(41 - ((n+1:Nat):Int))+1=41 - (n:Int) by omega] at this;exact this
def pN(ts:List A4)(op:Int)(v:A3)(s name:Str)(n f:Int)(es:List Ex)(T:List Int):(bQ ts op v s name n f es T).1=nilE\/(op=2/\(bQ ts op v s name n f es T).1= .mk op v s name (eF ts s name).1 es)\/(op≠2/\(bQ ts op v s name n f es T).1= .mk op v s name n es):=by
 unfold bQ;repeat' split
 all_goals first
  |exact .inl U
  |(refine .inr (.inl ⟨?_,rfl⟩);assumption)
  |(refine .inr (.inr ⟨?_,rfl⟩);omega)
def vY(ts:List A4): ∀(n:Nat) {e:Ex},H1 (n+1) e->H1 (n+1) (an ts e).1
 |n,.mk op v s name i l,h=>by
  cases h with
  |mk h=>
  rw[iJ];have hl: ∀x∈l.map (fun x=>(an ts x).1),H1 n x:=by
   intro x T;obtain⟨y,hy,rfl⟩:=mM T;cases n with
   |zero=>cases h y hy
   |succ n=>exact vY ts n (h y hy)
  rcases pN ts op v s name i (eG (l.map fun x=>(an ts x).2.2)) (l.map fun x=>(an ts x).1) (l.map fun x=>(an ts x).2.1) with e|⟨_,e⟩|⟨_,e⟩
  · rw[e];exact .mk (fun x T=>by cases T)
  · rw[e];exact .mk hl
  · rw[e];exact .mk hl
inductive F8 (m:Int):Ex->Prop
 |mk {op:Int} {v:A3} {s name:Str} {i:Int} {l:List Ex} (h0:op=2->0<=i/\i<=m) (h: ∀x∈l,F8 m x):F8 m (.mk op v s name i l)
def Mg(t:A4)(name:Str):aV t name<=t.cols.length:=(ze _ _).2.2
def sj(s name:Str): ∀(ts:List A4) (a p k:Int),0<=a->p<=a->0<=(iE s name ts a p k).1/\(iE s name ts a p k).1<=a+lU ts
 | [],a,p,k,h,T=>by
   rw[iE];split
   · simp[lU];omega
   · simp[lU];omega
 |t::ts,a,p,k,h,T=>by
  have e:(lU (t::ts):Int)=t.cols.length+lU ts:=by simp[lU]
  rw[iE];have:=Mg t name;split
  · split
    · simp only;omega
    · have:=sj s name ts (a+t.cols.length) (a+aV t name) (eQ t (aV t name)) C C;omega
  · have:=sj s name ts (a+t.cols.length) p k C C;omega
def Kn(ts:List A4)(s name:Str):0<=(eF ts s name).1/\(eF ts s name).1<=lU ts:=by
 have:=sj s name ts 0 (-1) 0 C C;rw[Int.zero_add] at this;exact this
def sC(ts:List A4): ∀e:Ex,F8 (lU ts) (an ts e).1
 | .mk op v s name i l=>by
   rw[iJ];have hl: ∀x∈l.map (fun x=>(an ts x).1),F8 (lU ts) x:=by
    intro x T;obtain⟨y,hy,rfl⟩:=mM T;exact sC ts y
   rcases pN ts op v s name i (eG (l.map fun x=>(an ts x).2.2)) (l.map fun x=>(an ts x).1) (l.map fun x=>(an ts x).2.1) with e|⟨_,e⟩|⟨h2,e⟩
   · rw[e];exact .mk (fun h=>by cases h) (fun x T=>by cases T)
   · rw[e];exact .mk (fun _=>Kn ts s name) hl
   · rw[e];exact .mk (fun h=>absurd h h2) hl
def ng{m:Int}: ∀{e:Ex},F8 m e-> ∀p∈cQ e,F8 m p
 | .mk op v s name i l,h=>by
   by_cases h7:op=7/\l.length=2
   · obtain⟨rfl,h2⟩:=h7
     match l,h2 with
     | [a,b],_=>
     cases h with
     |mk h0 h=>
      rw[pj];intro p T;rcases mA T with T|T
      · exact ng (h a sP) p T
      · exact ng (h b sP) p T
   · rw[gW v s name i h7];intro p T;rw[List.mem_singleton] at T;rw[T];exact h
def vV{m:Int}(hm:0<=m){e:Ex}(h:F8 m e): -1<=(bk e).1/\(bk e).1<=m:=by
 obtain⟨op,v,s,name,i,l⟩:=e;cases h with
 |mk h0 h=>
 have T: ∀x∈l,x.op=2->0<=x.n/\x.n<=m:=fun x hx h2=>by
  have:=h x hx;cases this with
  |mk k0 _=>exact k0 h2
 unfold bk;split
 · simp only;omega
 · rename_i hc;simp only[not_or,Decidable.not_not] at hc;have h2:l.length=2:=hc.2
   match l,h2 with
   | [a,b],_=>
   split
   · rename_i c1;have:=T a sP c1.1;simp only[Ex.l_mk,List.getD_cons_zero];omega
   · split
     · rename_i c2;have:=T b sP c2.2.1;simp only[Ex.l_mk,List.getD_cons_zero,List.getD_cons_succ];omega
     · simp only;omega
def zE{ts:List A4}{e b:Ex}(T:dN ts e=(b,0))(hg:e.op≠0->bX 1 e=true):(cQ b).length<=549755813888/\ ∀p∈cQ b,-1<=(bk p).1/\(bk p).1<=lU ts:=by
 unfold dN at T;split at T
 · rename_i h0;have e1:e=b:=(Prod.mk.inj T).1;subst e1;obtain⟨op,v,s,name,n,l⟩:=e;have h0:op=0:=h0;subst h0;rw[gW v s name n (fun e=>by have:=e.1;omega)];refine⟨by simp,fun p hp=> ?_⟩;rw[List.mem_singleton] at hp;rw[hp,bk,if_pos (.inl (by simp[Ex.op_mk]))];simp only;omega
 · rename_i h0;unfold dw at T;split at T
   · rename_i h1;exact absurd (Prod.mk.inj T).2 h1
   · split at T
     · exact absurd (Prod.mk.inj T).2 dD
     · have e1:(an ts e).1=b:=(Prod.mk.inj T).1;rw[<-e1];exact⟨pk (vY ts 39 (vq 40 (hg h0))),fun p hp=>vV C (ng (sC ts e) p hp)⟩
def yv(D:Str->List (List A3))(n:Str)(l:List (List A3)):Str->List (List A3):=fun m=>if m=n then l else D m
def cq(D:Str->List (List A3))(n:Str)(l:List (List A3)):yv D n l n=l:=if_pos U
def fk{D:Str->List (List A3)}{n m:Str}{l:List (List A3)}(h:m≠n):yv D n l m=D m:=if_neg h
def uD{t u:A4}(ht:bF t.n=true)(hu:bF u.n=true){r q:List A3}(hr:r.all au=true)(T:q.all au=true)(h:jD t r=jD u q):t.n=u.n/\r.getD 0 af=q.getD 0 af:=by
 obtain⟨h1,h2⟩:=xg ht hu h;exact⟨h1,AS (bC hr 0) (bC T 0) h2⟩
def Fx{t u:A4}{x y:A7}(hx:bF x.n=true)(hy:bF y.n=true){r q:List A3}(hr:r.all au=true)(T:q.all au=true)(h:iz t r x=iz u q y):x.n=y.n/\r.getD 0 af=q.getD 0 af:=by
 obtain⟨h1,h2⟩:=qZ hx hy h;rw[AT (bC hr _) (bC hr 0),AT (bC T _) (bC T 0)] at h2;obtain⟨_,h3⟩:=ql (bC hr _) (bC T _) h2;refine⟨h1,?_⟩;have:=ql (x:= []) (y:= []) (bC hr 0) (bC T 0) (by rw[List.append_nil,List.append_nil];exact h3);exact this.1
def ixKeys_mem{t:A4}{r:List A3}{l:List A7}{a:Str}:a∈cE t r l↔ ∃x∈l,x.tb=t.n/\0<=aV t x.co/\a=iz t r x:=by
 simp only[cE,List.mem_map,List.mem_filter,wo,aE,beq_iff_eq,decide_eq_true_eq];constructor
 · rintro ⟨x,⟨h1,h2,h3⟩,h4⟩;exact⟨x,h1,h2,h3,h4.symm⟩
 · rintro ⟨x,h1,h2,h3,h4⟩;exact⟨x,⟨h1,h2,h3⟩,h4.symm⟩
def CU{c:B0}(hc:C5 c){t u:A4}(ht:t∈c.ts)(hu:u∈c.ts){r q:List A3}(hr:r.all au=true)(hq:q.all au=true){a:Str}(h1:a∈cE t r c.is)(h2:a∈cE u q c.is):t=u/\r.getD 0 af=q.getD 0 af:=by
 obtain⟨x,T,e1,_,rfl⟩:=ixKeys_mem.1 h1;obtain⟨y,hy,e2,_,e3⟩:=ixKeys_mem.1 h2;obtain⟨e4,e5⟩:=Fx (hc.idx x T).1 (hc.idx y hy).1 hr hq e3;have:=hc.xinj T hy e4;subst this;exact⟨hc.tinj ht hu (e1.symm.trans e2),e5⟩
section
variable {c:B0}{ps:List Pg}{D:Str->List (List A3)}
def sq{l:List (List A3)}(h:l.Pairwise (fun r r'=>r.getD 0 af≠r'.getD 0 af)){r q:List A3}(hr:r∈l)(hq:q∈l)(e:r.getD 0 af=q.getD 0 af):r=q:=by
 induction h with
 |nil=>cases hr
 |cons h1 h2 ih=>
  rcases List.mem_cons.1 hr with rfl|ad
  · rcases List.mem_cons.1 hq with rfl|T
    · rfl
    · exact absurd e (h1 q T)
  · rcases List.mem_cons.1 hq with rfl|T
    · exact absurd e.symm (h1 r ad)
    · exact ih ad T
def DB.put(h:DB c ps D){t:A4}(ht:t∈c.ts){row:List A3}(hf:row.length=t.cols.length/\row.all au=true)(hn: ∀r∈D t.n,r.getD 0 af≠row.getD 0 af):DB c (lp ps c t row) (yv D t.n (D t.n++ [row])):=by
 have hw:=h.cat.wide ht;obtain⟨hg,hm⟩:=Az (c:=c) h.good C hf.1;refine⟨h.cat,hg,fun u hu r hr=> ?_,fun u hu=> ?_,fun a b=> ?_⟩
 · by_cases e:u.n=t.n
   · have T:=h.cat.tinj hu ht e;subst T;rw[cq] at hr;rcases mA hr with hr|hr
     · exact h.fit u hu r hr
     · rw[List.mem_singleton.1 hr];exact hf
   · rw[fk e] at hr;exact h.fit u hu r hr
 · by_cases e:u.n=t.n
   · have T:=h.cat.tinj hu ht e;subst T;rw[cq];refine List.pairwise_append.2 ⟨h.dis u hu,List.pairwise_singleton _ _,fun r hr q hq=> ?_⟩;rw[List.mem_singleton.1 hq];exact hn r hr
   · rw[fk e];exact h.dis u hu
 · rw[hm];constructor
   · rintro (⟨h1,h2⟩|⟨h1,⟨h2,h3⟩|⟨h2,h3⟩⟩)
     · exact⟨t,ht,row,by rw[cq];simp,.inr ⟨h1,h2⟩⟩
     · exact⟨t,ht,row,by rw[cq];simp,.inl ⟨h2,h3⟩⟩
     · obtain⟨u,hu,r,hr,hx⟩:=(h.mem a b).1 h3;refine⟨u,hu,r,?_,hx⟩;by_cases e:u.n=t.n
       · rw[e,cq];rw[e] at hr;exact List.mem_append_left _ hr
       · rw[fk e];exact hr
   · rintro ⟨u,hu,r,hr,hx⟩;have old:r∈D u.n->(a∈cE t row c.is/\b= [])\/(a∉cE t row c.is/\((a=jD t row/\b=de row)\/(a≠jD t row/\(a,b)∈az ps))):=fun hr=>by
      have ad:(a,b)∈az ps:=(h.mem a b).2 ⟨u,hu,r,hr,hx⟩;have ar:=h.fit u hu r hr;rcases hx with⟨h1,h2⟩|⟨h1,h2⟩
      · refine .inr ⟨by rw[h1];exact oh,.inr ⟨fun e=> ?_,ad⟩⟩;obtain⟨e1,e2⟩:=uD (h.cat.tname hu) (h.cat.tname ht) ar.2 hf.2 (h1.symm.trans e);rw[e1] at hr;exact hn r hr e2
      · by_cases hi:a∈cE t row c.is
        · exact .inl ⟨hi,h2⟩
        · exact .inr ⟨hi,.inr ⟨fun e=>by rw[e] at h1;exact oh h1,ad⟩⟩
     by_cases e:u.n=t.n
     · rw[e,cq] at hr;rcases mA hr with hr|hr
       · exact old (by rw[e];exact hr)
       · have:=List.mem_singleton.1 hr;subst this;have T:=h.cat.tinj hu ht e;subst T;rcases hx with⟨h1,h2⟩|⟨h1,h2⟩
         · exact .inr ⟨by rw[h1];exact oh,.inl ⟨h1,h2⟩⟩
         · exact .inl ⟨h1,h2⟩
     · rw[fk e] at hr;exact old hr
def DB.drops(h:DB c ps D){t:A4}(ht:t∈c.ts){R L':List (List A3)}(hR: ∀r∈R,r∈D t.n)(hL: ∀r,r∈L'↔r∈D t.n/\r∉R)(hs:L'.Pairwise (fun r r'=>r.getD 0 af≠r'.getD 0 af)):
 DB c (R.foldl (fun q r=>gZ q c t r) ps) (yv D t.n L'):=by
 have hw:=h.cat.wide ht;obtain⟨hg,hm⟩:=xY (c:=c) (t:=t) C R h.good (fun r hr=>(h.fit t ht r (hR r hr)).1);have sub: ∀u∈c.ts,∀r∈yv D t.n L' u.n,r∈D u.n:=fun u hu r hr=>by
  by_cases e:u.n=t.n
  · rw[e,cq] at hr;rw[e];exact((hL r).1 hr).1
  · rw[fk e] at hr;exact hr
 refine⟨h.cat,hg,fun u hu r hr=>h.fit u hu r (sub u hu r hr),fun u hu=> ?_,fun a b=> ?_⟩
 · by_cases e:u.n=t.n
   · rw[e,cq];exact hs
   · rw[fk e];exact h.dis u hu
 · rw[hm];constructor
   · rintro ⟨h1,h2⟩;obtain⟨u,hu,r,hr,hx⟩:=(h.mem a b).1 h2;refine⟨u,hu,r,?_,hx⟩;by_cases e:u.n=t.n
     · have e':=h.cat.tinj hu ht e;subst e';rw[cq];refine(hL r).2 ⟨hr,fun a0=> ?_⟩;obtain⟨h3,h4⟩:=h1 r a0;rcases hx with⟨h5,_⟩|⟨h5,_⟩
       · exact h4 h5
       · exact h3 h5
     · rw[fk e];exact hr
   · rintro ⟨u,hu,r,hr,hx⟩;have T:=sub u hu r hr;have ad:=h.fit u hu r T;refine⟨fun q hq=> ?_,(h.mem a b).2 ⟨u,hu,r,T,hx⟩⟩;have ar:=hR q hq;have aR:=h.fit t ht q ar;have oJ:u=t->r.getD 0 af=q.getD 0 af->False:=fun e e2=>by
      subst e;rw[cq] at hr;have:=sq (h.dis u hu) T ar e2;subst this;exact((hL r).1 hr).2 hq
     rcases hx with⟨h5,_⟩|⟨h5,_⟩
     · refine⟨fun hi=>by rw[h5] at hi;exact oh hi,fun e=> ?_⟩;obtain⟨e1,e2⟩:=uD (h.cat.tname hu) (h.cat.tname ht) ad.2 aR.2 (h5.symm.trans e);exact oJ (h.cat.tinj hu ht e1) e2
     · refine⟨fun hi=> ?_,fun e=>by rw[e] at h5;exact oh h5⟩;obtain⟨e1,e2⟩:=CU h.cat hu ht ad.2 aR.2 h5 hi;exact oJ e1 e2
def DB.create(h:DB c ps D){d:B0}(hd:C5 d){u:A4}(ad: ∀t,t∈d.ts↔t=u\/t∈c.ts)(ar:d.is=c.is)(hn: ∀t∈c.ts,t.n≠u.n):DB d ps (yv D u.n []):=by
 have same: ∀t∈c.ts,yv D u.n [] t.n=D t.n:=fun t ht=>fk (hn t ht)
 refine⟨hd,h.good,fun t ht r hr=> ?_,fun t ht=> ?_,fun a b=> ?_⟩
 · rcases(ad t).1 ht with rfl|T
   · rw[cq] at hr;cases hr
   · rw[same t T] at hr;exact h.fit t T r hr
 · rcases(ad t).1 ht with rfl|T
   · rw[cq];exact .nil
   · rw[same t T];exact h.dis t T
 · rw[h.mem,ar];constructor
   · rintro ⟨t,ht,r,hr,hx⟩;exact⟨t,(ad t).2 (.inr ht),r,by rw[same t ht];exact hr,hx⟩
   · rintro ⟨t,ht,r,hr,hx⟩;rcases(ad t).1 ht with rfl|T
     · rw[cq] at hr;cases hr
     · rw[same t T] at hr;exact⟨t,T,r,hr,hx⟩
def DB.drop(h:DB c ps D){d:B0}(hd:C5 d){n:Str}(T: ∀t,t∈d.ts↔t∈c.ts/\t.n≠n)(ad: ∀x,x∈d.is↔x∈c.is/\x.tb≠n)(hn:D n= []):DB d ps D:=by
 refine⟨hd,h.good,fun t ht r hr=>h.fit t ((T t).1 ht).1 r hr,fun t ht=>h.dis t ((T t).1 ht).1,fun a b=> ?_⟩;have ik: ∀t:A4,t.n≠n-> ∀r,a∈cE t r c.is↔a∈cE t r d.is:=fun t ht r=>by
  rw[ixKeys_mem,ixKeys_mem];constructor
  · rintro ⟨x,hx,e1,e2,e3⟩;exact⟨x,(ad x).2 ⟨hx,by rw[e1];exact ht⟩,e1,e2,e3⟩
  · rintro ⟨x,hx,e1,e2,e3⟩;exact⟨x,((ad x).1 hx).1,e1,e2,e3⟩
 rw[h.mem];constructor
 · rintro ⟨t,ht,r,hr,hx⟩;have ar:t.n≠n:=fun e=>by rw[e,hn] at hr;cases hr
   rw[ik t ar r] at hx;exact⟨t,(T t).2 ⟨ht,ar⟩,r,hr,hx⟩
 · rintro ⟨t,ht,r,hr,hx⟩;obtain⟨h1,h2⟩:=(T t).1 ht;rw[<-ik t h2 r] at hx;exact⟨t,h1,r,hr,hx⟩
def xC(h:DB c ps D){d:B0}{t:A4}(ht:t∈c.ts): ∀(R done:List (List A3)) {q:List Pg},aG q=true->(∀r∈R,r∈D t.n)->
 (∀a b,(a,b)∈az q↔(a,b)∈az ps\/ ∃r∈done,a∈cE t r d.is/\b= [])->
 aG (R.foldl (fun q r=>lp q d t r) q)=true/\ ∀a b,(a,b)∈az (R.foldl (fun q r=>lp q d t r) q)↔(a,b)∈az ps\/ ∃r∈done++R,a∈cE t r d.is/\b= []
 | [],done,q,hg,_,hq=>⟨hg,fun a b=>by rw[List.append_nil];exact hq a b⟩
 |r::R,done,q,hg,hR,hq=>by
  have hw:=h.cat.wide ht;have ad:=hR r (List.mem_cons_self ..);have ar:=h.fit t ht r ad;obtain⟨g1,m1⟩:=Az (c:=d) hg C ar.1;have:=xC h (d:=d) ht R (done++ [r]) g1 (fun r' T=>hR r' (List.mem_cons_of_mem _ T)) (fun a b=>by
   rw[m1,hq];constructor
   · rintro (⟨h1,h2⟩|⟨h1,⟨h2,h3⟩|⟨h2,h3⟩⟩)
     · exact .inr ⟨r,by simp,h1,h2⟩
     · exact .inl ((h.mem a b).2 ⟨t,ht,r,ad,.inl ⟨h2,h3⟩⟩)
     · rcases h3 with h3|⟨r',h3,h4⟩
       · exact .inl h3
       · exact .inr ⟨r',List.mem_append_left _ h3,h4⟩
   · rintro (h1|⟨r',h1,h2,h3⟩)
     · obtain⟨u,hu,r',T,hx⟩:=(h.mem a b).1 h1;have aR:=h.fit u hu r' T;rcases hx with⟨e1,e2⟩|⟨e1,e2⟩
       · refine .inr ⟨by rw[e1];exact oh,?_⟩;by_cases e:a=jD t r
         · obtain⟨e3,e4⟩:=uD (h.cat.tname hu) (h.cat.tname ht) aR.2 ar.2 (e1.symm.trans e);have:=h.cat.tinj hu ht e3;subst this;have:=sq (h.dis u hu) T ad e4;subst this;exact .inl ⟨e1,e2⟩
         · exact .inr ⟨e,.inl h1⟩
       · by_cases hi:a∈cE t r d.is
         · exact .inl ⟨hi,e2⟩
         · exact .inr ⟨hi,.inr ⟨fun e=>by rw[e] at e1;exact oh e1,.inl h1⟩⟩
     · by_cases hi:a∈cE t r d.is
       · exact .inl ⟨hi,h3⟩
       · rcases mA h1 with h1|h1
         · exact .inr ⟨hi,.inr ⟨fun e=>by rw[e] at h2;exact oh h2,.inr ⟨r',h1,h2,h3⟩⟩⟩
         · rw[List.mem_singleton.1 h1] at h2;exact absurd h2 hi)
  rw[List.append_assoc] at this;exact this
def DB.mark(h:DB c ps D){d:B0}(hd:C5 d){x:A7}(T:d.ts=c.ts)(ad: ∀y,y∈d.is↔y=x\/y∈c.is){t:A4}(ht:t∈c.ts)(hx:x.tb=t.n){R:List (List A3)}(hR: ∀r,r∈R↔r∈D t.n):
 DB d (R.foldl (fun q r=>lp q d t r) ps) D:=by
 obtain⟨g,m⟩:=xC h (d:=d) ht R [] h.good (fun r hr=>(hR r).1 hr) (fun a b=>by simp);refine⟨hd,g,fun u hu r hr=>h.fit u (T▸hu) r hr,fun u hu=>h.dis u (T▸hu),fun a b=> ?_⟩;rw[m,h.mem,List.nil_append,T];constructor
 · rintro (⟨u,hu,r,hr,hk⟩|⟨r,hr,h1,h2⟩)
   · refine⟨u,hu,r,hr,hk.imp id (fun hk=>⟨?_,hk.2⟩)⟩;obtain⟨y,hy,e1,e2,e3⟩:=ixKeys_mem.1 hk.1;exact ixKeys_mem.2 ⟨y,(ad y).2 (.inr hy),e1,e2,e3⟩
   · exact⟨t,ht,r,(hR r).1 hr,.inr ⟨h1,h2⟩⟩
 · rintro ⟨u,hu,r,hr,hk⟩;rcases hk with hk|⟨h1,h2⟩
   · exact .inl ⟨u,hu,r,hr,.inl hk⟩
   · obtain⟨y,hy,e1,e2,e3⟩:=ixKeys_mem.1 h1;rcases(ad y).1 hy with rfl|ar
     · have:u=t:=h.cat.tinj hu ht (e1.symm.trans hx);subst this;exact .inr ⟨r,(hR r).2 hr,h1,h2⟩
     · exact .inl ⟨u,hu,r,hr,.inr ⟨ixKeys_mem.2 ⟨y,ar,e1,e2,e3⟩,h2⟩⟩
end
structure EI (c:B0) (ps:List Pg) (D:Str->List (List A3)):Prop where
 db:DB c ps D
 few: ∀t∈c.ts,(D t.n).length<=30
 fits: ∀t∈c.ts,∀r∈D t.n,jK t r=true
def AL{α:Type}[DecidableEq α]: ∀(l m:List α),l.Nodup->(∀x∈l,x∈m)->l.length<=m.length
 | [],m,_,_=>Nat.zero_le _
 |x::l,m,h,hm=>by
  rw[List.nodup_cons] at h;have T:=hm x (List.mem_cons_self ..);have ih:=AL l (m.erase x) h.2 (fun y hy=>(List.mem_erase_of_ne (fun e=>h.1 (by rw[<-e];exact hy))).2 (hm y (List.mem_cons_of_mem _ hy)));rw[List.length_erase_of_mem T] at ih;have:=List.length_pos_of_mem T;rw[lC];omega
def kY{α β:Type}{f:α->List β}{k:Nat}: ∀{l:List α},(∀x∈l,(f x).length<=k)->(l.flatMap f).length<=l.length*k
 | [],_=>by simp
 |x::l,h=>by
  have h1:=h x (List.mem_cons_self ..);have h2:=kY (f:=f) (k:=k) (l:=l) (fun y T=>h y (List.mem_cons_of_mem _ T));rw[List.flatMap_cons,gV,lC,Nat.add_mul];omega
def AG: ∀{ps:List Pg},(∀p∈ps,Eo p)->ps.length<=(az ps).length
 | [],_=>Nat.zero_le _
 |p::ps,h=>by
  have T:=h p (List.mem_cons_self ..);have ih:=AG (ps:=ps) (fun q hq=>h q (List.mem_cons_of_mem _ hq));rw[kX,gV,lC,Pg.prs,List.length_zip];have h1:=T.1;have h2:=T.2.2;omega
def fw{n:Str}(h:bF n=true):n.length<=8:=by
 simp only[bF,aE,decide_eq_true_eq] at h;omega
def Hm{t:A4}(h:bF t.n=true)(r:List A3):(jD t r).length<=100:=by
 have:=fw h;have:=kV [r.getD 0 af];simp only[jD,ap,dm,gV,lC,List.length_nil] at*;omega
def Fw{t:A4}{x:A7}(h:bF x.n=true)(r:List A3):(iz t r x).length<=100:=by
 have:=fw h;have:=kV [r.getD (aV t x.co).toNat af,r.getD 0 af];simp only[iz,eE,aO,gV,lC,List.length_nil] at*;omega
section
variable {c:B0}{ps:List Pg}{D:Str->List (List A3)}
def DB.small(h:DB c ps D):sF ps:=fun x T=>by
 obtain⟨a,b⟩:=x;obtain⟨t,ht,r,hr,T⟩:=(h.mem a b).1 T;have hf:=h.fit t ht r hr;have hw:=h.cat.wide ht;have hk:=kV r;rcases T with⟨rfl,rfl⟩|⟨h1,rfl⟩
 · have:=Hm (h.cat.tname ht) r;dsimp only;omega
 · obtain⟨y,hy,_,_,rfl⟩:=ixKeys_mem.1 h1;have:=Fw (t:=t) (h.cat.idx y hy).1 r;dsimp only;simp only[List.length_nil];omega
def EI.pages(h:EI c ps D):ps.length<=1000:=by
 have hg:=(eO ps).1 h.db.good;refine Nat.le_trans (AG hg.1) ?_;refine Nat.le_trans (AL (az ps) (c.ts.flatMap (fun t=>(D t.n).flatMap (fun r=>(jD t r,de r)::(cE t r c.is).map (fun a=>(a,([]:Str)))))) (qn (oV h.db.good)) (fun x T=> ?_)) ?_
 · obtain⟨a,b⟩:=x;obtain⟨t,ht,r,hr,T⟩:=(h.db.mem a b).1 T;refine List.mem_flatMap.2 ⟨t,ht,List.mem_flatMap.2 ⟨r,hr,?_⟩⟩;rcases T with⟨rfl,rfl⟩|⟨h1,rfl⟩
   · exact List.mem_cons_self ..
   · exact List.mem_cons_of_mem _ (List.mem_map.2 ⟨a,h1,rfl⟩)
 · have h4:=h.db.cat.il;have h3:=h.db.cat.tl;have h1: ∀t∈c.ts,((D t.n).flatMap (fun r=>(jD t r,de r)::(cE t r c.is).map (fun a=>(a,([]:Str))))).length<=150:=fun t ht=>by
    have ad:=h.few t ht;refine Nat.le_trans (kY (k:=5) (fun r hr=> ?_)) C;rw[lC,lM,cE,lM];have:=List.length_filter_le (wo t) c.is;omega
   refine Nat.le_trans (kY (k:=150) h1) C
end
def yU:nilE.Ok:= .mk sP sP
def tY(ts:List A4): ∀e:Ex,e.Ok->(an ts e).1.Ok
 | .mk op v s name n l,ad=>by
   have hl:l.length*104<=140737488355328:=by cases ad with|mk hl _=>exact hl
   have ih: ∀x∈l,(an ts x).1.Ok:=fun x hx=>tY ts x (by cases ad with|mk _ h=>exact h x hx)
   have T: ∀n,(Ex.mk op v s name n (l.map fun x=>(an ts x).1)).Ok:=fun n=> .mk (by rw[lM];exact hl) (fun x hx=>by obtain⟨y,hy,rfl⟩:=mM hx;exact ih y hy)
   rw[iJ];generalize eG (l.map fun x=>(an ts x).2.2)=f at*
   generalize (l.map fun x=>(an ts x).1)=es at*
   generalize (l.map fun x=>(an ts x).2.1)=ar at*
   unfold bQ;by_cases hf:f≠0
   · rw[if_pos hf];exact yU
   rw[if_neg hf];by_cases h1:op=1
   · rw[if_pos h1];exact T n
   rw[if_neg h1];by_cases h2:op=2
   · rw[if_pos h2];exact T _
   rw[if_neg h2];repeat' split
   all_goals first|exact T n|exact yU
 termination_by e=>SizeOf.sizeOf e
 decreasing_by
  have:=List.sizeOf_lt_of_mem hx;simp;omega
def yV{ts:List A4}{e:Ex}(h:e.Ok)(k:Int):(dw ts e k).1.Ok:=by
 unfold dw;repeat' split
 all_goals first|exact yU|exact tY ts e h
def Gh{ts:List A4}{e:Ex}(h:e.Ok):(dN ts e).1.Ok:=by
 unfold dN;split
 · exact h
 · exact yV h 3
def ee{c:B0}{s b:A9}(h:aJ c s=(b,0)):C5 c/\(∀e∈dq s,bX 1 e=true)/\eL c s=(b,0):=by
 obtain⟨h1,h2⟩:=py h;obtain⟨h3,h4⟩:=se h1;exact⟨(sa c).1 h3,h4,h2⟩
structure Chg (c:B0) (s b:A9):Prop where
 tab:(ab c s.table).2=true
 rowsE:rowsE s (ab c s.table).1=0
 setsE:setsE s (ab c s.table).1=0
 whE:(dN [(ab c s.table).1] s.wh).2=0
 eq:b={s with rows:=s.rows.map fun r=>(eH (ab c s.table).1 r).1,sets:=s.sets.zipIdx.map fun p=>(lm (ab c s.table).1 s.sets p).1,wh:=(dN [(ab c s.table).1] s.wh).1}
def zx{c:B0}{s b:A9}(hk:s.kind=4\/s.kind=5\/s.kind=6)(h:eL c s=(b,0)):Chg c s b:=by
 rw[eL,if_neg C,if_neg C,if_neg C,if_neg C] at h;cases ht:(ab c s.table).2 with
 |false=>rw[ht,if_neg dD] at h;simp at h
 |true=>
  rw[ht,if_pos U] at h;unfold eN at h;by_cases he:Go.Proofs.Y.rowsE s (ab c s.table).1=0
  case neg=>rw[if_pos he] at h;exact absurd (Prod.mk.inj h).2 he
  rw[if_neg (by simp[he])] at h;by_cases hs:Go.Proofs.Y.setsE s (ab c s.table).1=0
  case neg=>rw[if_pos hs] at h;exact absurd (Prod.mk.inj h).2 hs
  rw[if_neg (by simp[hs])] at h;exact⟨ht,he,hs,(Prod.mk.inj h).2,(Prod.mk.inj h).1.symm⟩
def uL{c:B0}{s b:A9}(hk:s.kind=1\/s.kind=2\/s.kind=3)(h:eL c s=(b,0)):b=s:=by
 unfold eL at h;by_cases h1:s.kind=1
 · rw[if_pos h1] at h;exact(Prod.mk.inj h).1.symm
 rw[if_neg h1] at h;by_cases h2:s.kind=2
 · rw[if_pos h2] at h;exact(Prod.mk.inj h).1.symm
 rw[if_neg h2,if_pos C] at h;exact(Prod.mk.inj h).1.symm
structure Sel (c:B0) (s b:A9):Prop where
 len:s.frm.length=1\/s.frm.length=2
 frm:b.frm=s.frm
 tab: ∀(i:Nat) (n:Str),s.frm[i]?=some n->(ab c n).2=true
 out: ∀x∈b.out,x.op=2/\x.l= [] \/ ∃y∈s.out,x=(an (s.frm.map fun n=>(ab c n).1) y).1
 ord:b.ord=s.ord.map fun x=>(an (s.frm.map fun n=>(ab c n).1) x).1
 wh:dN (s.frm.map fun n=>(ab c n).1) s.wh=(b.wh,0)
 n:b.n=s.n
 down:b.down=s.down
 outL:b.out.length<=s.out.length+lU (s.frm.map fun n=>(ab c n).1)
def Ke{c:B0}{s:A9}:(s.frm.zipIdx.map fun p=>(ce c s.frm p).1)=s.frm.map fun n=>(ab c n).1:=by
 have e:(fun p:Str×Nat=>(ce c s.frm p).1)=(fun n=>(ab c n).1)∘Prod.fst:=by funext p;exact sW c s.frm p
 rw[e,<-List.map_map];simp
def we: ∀(ts:List A4) (a:Nat),∀x∈fh ts a,x.op=2/\x.l= []
 | [],_,x,h=>by cases h
 |t::ts,a,x,h=>by
  rcases mA h with h|h
  · obtain⟨p,_,rfl⟩:=mM h;exact⟨rfl,rfl⟩
  · exact we ts _ x h
def He{c:B0}{s b:A9}(hk:s.kind=7)(h:eL c s=(b,0)):Sel c s b:=by
 rw[eL,if_neg C,if_neg C,if_neg C,if_pos hk] at h;unfold iH at h;by_cases hl:s.frm.length<1\/2<s.frm.length
 · rw[if_pos hl] at h;simp at h
 rw[if_neg hl] at h;by_cases he:eG (s.frm.zipIdx.map fun p=>(ce c s.frm p).2)≠0
 · rw[if_pos he] at h;exact absurd (Prod.mk.inj h).2 he
 rw[if_neg he] at h;dsimp only at h;rw[Ke] at h;have he:=mS (Decidable.not_not.1 he);by_cases h1:eG (s.out.map fun x=>(an (s.frm.map fun n=>(ab c n).1) x).2.2)≠0
 · rw[if_pos h1] at h;exact absurd (Prod.mk.inj h).2 h1
 rw[if_neg h1] at h;by_cases h2:eG (s.ord.map fun x=>(an (s.frm.map fun n=>(ab c n).1) x).2.2)≠0
 · rw[if_pos h2] at h;exact absurd (Prod.mk.inj h).2 h2
 rw[if_neg h2] at h;obtain⟨e1,e2⟩:=Prod.mk.inj h;have hb:=e1.symm;subst hb;refine⟨by omega,rfl,fun i n hi=> ?_,fun x T=> ?_,rfl,Prod.ext U e2,rfl,rfl,?_⟩
 · have h3:=he _ (List.mem_map_of_mem (f:=fun p=>(ce c s.frm p).2) (gE (nL hi)));dsimp only[ce] at h3;cases hf:(ab c n).2 with
   |true=>rfl
   |false=>rw[hf,if_pos U] at h3;simp at h3
 · dsimp only at T;split at T
   · exact .inl (we _ _ x T)
   · obtain⟨y,hy,rfl⟩:=mM T;exact .inr ⟨y,hy,rfl⟩
 · dsimp only;split
   · rw[qq];omega
   · rw[lM];omega
def Hk(row:List A3):KL [] row:=fun s name p k h=>by
 unfold eF at h;simp[iE] at h
def Au{t:A4}{r:List Ex}(h:(eH t r).2=0)(hg: ∀e∈r,bX 1 e=true):(eH t r).1.length=t.cols.length/\ ∀(i:Nat) (c:B8),t.cols[i]?=some c->tQ c.t (((eH t r).1.map (aC [])).getD i af):=by
 unfold eH at h|-;by_cases hl:r.length≠t.cols.length
 · rw[if_pos hl] at h;simp at h
 rw[if_neg hl] at h|-;have hl:=Decidable.not_not.1 hl;have he:=mS h;refine⟨by simp[hl],fun i c hc=> ?_⟩;have hi:i<r.length:=by have:=(gS hc).1;omega
 have hx:r[i]?=some r[i]:=gG hi;have h1:=he _ (List.mem_map_of_mem (f:=fun p=>(jL t p).2) (gE (nL hx)));have e:((r.zipIdx.map fun p=>(jL t p).1).map (aC [])).getD i af=aC [] (jL t (r[i],i)).1:=by
  rw[List.getD_eq_getElem?_getD,gP,gP,nL hx];rfl
 rw[e];have T:eQ t (i:Int)=c.t:=by rw[eQ,iN,List.getD_eq_getElem?_getD,hc];rfl
 rw[<-T];exact xy (Hk []) (fun h=>vu (hg _ (List.getElem_mem hi)) h) (Prod.ext U h1)
def Jr{t:A4}{r:List Ex}(hr: ∀e∈r,e.Ok): ∀e∈(eH t r).1,e.Ok:=by
 unfold eH;split
 · simp
 · intro e he;obtain⟨p,T,rfl⟩:=mM he;obtain⟨x,i⟩:=p;exact yV (hr x (gE (List.mem_zipIdx_iff_getElem?.1 T))) _
end Go.Proofs.Y
