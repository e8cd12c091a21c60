/- Lemmas towards the law. Conditions: each one says its own. -/
import Derived.Test.YtnhmohbhgocbjaaGreatDoorZU6
import Derived.Shelf.Strconv.AtoiAll
import Derived.Shelf.Strconv.Itoa3
import Derived.Lib.AtoiAll
import Derived.Lib.AtoiErrMem
set_option linter.all false
set_option maxHeartbeats 64000000
set_option maxRecDepth 100000
namespace Go.Abs
open Go.RowKit (Below)
inductive G5 (bx:List (Nat×A5)):List (Nat×A5)->Prop
 |nil:G5 bx []
 |cons {id:Nat} {b:A5} {r:List (Nat×A5)} (h:bx.lookup id=some b) (t:G5 bx r):G5 bx ((id,b)::r)
def G5.b{bx l:List (Nat×A5)}(h:G5 bx l):E3 bx l:=by
 induction h with
 |nil=>exact .nil
 |cons h _ T=>exact .cons h U fS T
def G5.get{bx l:List (Nat×A5)}(h:G5 bx l): ∀id b,l.lookup id=some b->bx.lookup id=some b:=by
 induction h with
 |nil=>intro id b T;cases T
 | @cons i b' r h _ ih=>
   intro id b T;by_cases e:id=i
   · subst e;rw[aj] at T;cases T;exact h
   · rw[aa e] at T;exact ih id b T
def G5.of{bx bx' l:List (Nat×A5)}(h:G5 bx l)(k: ∀id∈keys l,bx'.lookup id=bx.lookup id):G5 bx' l:=by
 induction h with
 |nil=>exact .nil
 |cons h _ ih=>exact .cons ((k _ (by simp[keys])).trans h) (ih (fun id T=>k id (by simp only[keys,List.map_cons,List.mem_cons] at T|-;exact .inr T)))
section
variable {P:Program}{c:C7}{ops:Array Oper}{Q:Exit->Act->World->Prop}{rest:List Oper}
 {fr:List (Nat×AV)} {bx:List (Nat×A5)} {tk:List (Nat×C9)} {d:Nat} {ty:TypeId} {pos:String} {aft:Array Edge}
def iZ{gs:aw}{f:FuncId}{x:Operand}{args:Array Operand}{ad:Array TypeId}{avs caps:List AV}{bxi:List (Nat×A5)}{res:AV}(ar:Nat.ble (d+1) c.nt=true)(hG:Glob gs c.E0 c.w0)(hx:St.ev ⟨fr,bx,tk⟩ x= .fn f caps)[aR:A0 P f]
 (hc:CallG gs P f (avs++caps) bxi bxi [] res) (ha:AV.pub.pubs (args.toList.map (St.ev ⟨fr,bx,tk⟩))=avs) (T:G5 bx bxi) (a0:dV [] bxi bxi=true) (a1:bxi.all (fun p=>AV.mentsIn ([] ++keys bxi) p.2.cs)=true) (a2:AV.mentIn ([] ++keys bxi) res=true)
 (h:LW P c ⟨(d,res)::fr,bx,tk⟩ ops Q rest):
 LW P c ⟨fr,bx,tk⟩ ops Q (⟨some d,.call {callee:= .value x,args:=args,argTypes:=ad},ty,pos,aft,none⟩::rest):=by
 refine .mk (fun a w hr=> ?_);obtain⟨E,hi⟩:=id hr;refine yn [] (st:=⟨fr,bx,tk⟩) U U ar hG U hx aR.h hc (.of_pub ha) T.b U a0 a1 a2 (L.wk (st':=⟨(d,res)::fr,bx,tk⟩) ⟨fun id a3=>(hi.heap.ins id a3).2.2,fun s v hv=>⟨v,hv,Sub.refl _⟩,fun id b hb=> ?_,fun id t ht=>ht⟩ (LW.out h)) a w hr;cases hl:bxi.lookup id with
 |none=>exact⟨b,by show(bxi++bx).lookup id=some b;rw[List.lookup_append,hl];exact hb,rfl,Subs.refl _⟩
 |some b'=>
  have:=T.get id b' hl;rw[this] at hb;cases hb;exact⟨b,by show(bxi++bx).lookup id=some b;rw[List.lookup_append,hl];rfl,rfl,Subs.refl _⟩
def eY{ad:St}{done:List D5}{gs:aw}{f:FuncId}{x:Operand}{args:Array Operand}{ar:Array TypeId}{avs caps:List AV}{bxi:List (Nat×A5)}{res:AV}(aR:Nat.ble (d+1) c.nt=true)(hG:Glob gs c.E0 c.w0)(hx:St.ev ⟨fr,bx,tk⟩ x= .fn f caps)[a5:A0 P f]
 (hc:CallG gs P f (avs++caps) bxi bxi [] res) (ha:AV.pub.pubs (args.toList.map (St.ev ⟨fr,bx,tk⟩))=avs) (a0:G5 bx bxi) (a1:dV [] bxi bxi=true) (a2:bxi.all (fun p=>AV.mentsIn ([] ++keys bxi) p.2.cs)=true) (a3:AV.mentIn ([] ++keys bxi) res=true)
 (h:DR P c ops Q ad (⟨some (d,res),[],[],[],keys bxi,[],[]⟩::done) ⟨(d,res)::fr,bx,tk⟩ rest):DR P c ops Q ad done ⟨fr,bx,tk⟩ (⟨some d,.call {callee:= .value x,args:=args,argTypes:=ar},ty,pos,aft,none⟩::rest):=
 DR.cons (e:=⟨some (d,res),[],[],[],keys bxi,[],[]⟩) (fun st' T Q' hL=>LW.out (iZ (fr:=st'.fr) (bx:=st'.bx) (tk:=st'.tk) aR hG ((T.ev x oO).trans hx) hc ((by rw[IY T.ev (fun x hx=>by simp[Op.operands,Call.operands,hx])];exact ha)) (a0.of (fun id a4=>T.bx id a4)) a1 a2 a3 (Ec hL))) h
end
section
variable {P:Program}{c:C7}{ops:Array Oper}{Q:Exit->Act->World->Prop}{rest:List Oper}
 {fr:List (Nat×AV)} {bx:List (Nat×A5)} {tk:List (Nat×C9)} {d:Nat} {ty:TypeId} {pos:String} {aft:Array Edge}
def eW(N:List Nat){ad:St}{done:List D5}{gs:aw}{f:FuncId}{args:Array Operand}{aR:Array TypeId}{avs:List AV}{T:List (Nat×A5)}{res:AV}(a0:Nat.ble (d+1) c.nt=true)(hG:Glob gs c.E0 c.w0)[a5:A0 P f]
 (hc:CallG gs P f avs [] T [] res) (ha:AV.pub.pubs (args.toList.map (St.ev ⟨fr,bx,tk⟩))=avs) (hN:N.all (fun id=>St.fresh id ⟨fr,bx,tk⟩)=true) (a1:dV N [] T=true) (a2:T.all (fun p=>AV.mentsIn (N++keys ([]:List (Nat×A5))) p.2.cs)=true) (a3:AV.mentIn (N++keys ([]:List (Nat×A5))) res=true)
 (h:DR P c ops Q ad (⟨some (d,res),T,[],[],[],[],N⟩::done) ⟨(d,res)::fr,T++bx,tk⟩ rest):DR P c ops Q ad done ⟨fr,bx,tk⟩ (⟨some d,.call {callee:= .value (.func f),args:=args,argTypes:=aR},ty,pos,aft,none⟩::rest):=
 DR.cons (e:=⟨some (d,res),T,[],[],[],[],N⟩) (fun st' ar Q' hL=>LW.out (ac N (fr:=st'.fr) (bx:=st'.bx) (tk:=st'.tk) a0 hG hc (.of_pub ((by rw[IY ar.ev (fun x hx=>by simp[Op.operands,Call.operands,hx])];exact ha))) .nil (List.all_eq_true.2 (fun id a4=>ar.fs id (by simpa using a4))) a1 a2 a3 (Ec hL))) h
end
end Go.Abs
namespace Go.Proofs.Y
open Go.Abs Go.Proofs.Tryz
attribute [local irreducible] L Code.wp bodyPost Exit.then Exit.inBlock
def HV{α:Type}{p:α->Bool}{l:List α}(h:0<=iB p l):(iB p l).toNat<l.length:=by
 unfold iB at h|-;cases T:l.findIdx? p with
 |none=>rw[T] at h;simp only at h;omega
 |some i=>have:=(List.findIdx?_eq_some_iff_getElem.1 T).1;simpa using this
def vA{α β:Type}(f:β->α->β)(b:β){l:List α}{i:Nat}{x:α}(h:l[i]?=some x):(l.take (i+1)).foldl f b=f ((l.take i).foldl f b) x:=by
 rw[List.take_add_one,h,List.foldl_append];rfl
def iR(t:A4)(row:List A3)(ps:List Pg)(x:A7):List Pg:=
 if x.tb==t.n && decide (0<=aV t x.co) then iO ps (eE x.n (row.getD (aV t x.co).toNat af) (row.getD 0 af)) [] else ps
def lp(ps:List Pg)(c:B0)(t:A4)(row:List A3):List Pg:=
 if row.length=0\/row.length≠t.cols.length then ps else c.is.foldl (iR t row) (iO ps (ap t.n (row.getD 0 af)) (de row))
def fg(t:A4)(row:List A3)(ps:List Pg)(x:A7):List Pg:=
 if x.tb==t.n && decide (0<=aV t x.co) then fq ps (eE x.n (row.getD (aV t x.co).toNat af) (row.getD 0 af)) else ps
def gZ(ps:List Pg)(c:B0)(t:A4)(row:List A3):List Pg:=
 if row.length=0\/row.length≠t.cols.length then ps else c.is.foldl (fg t row) (fq ps (ap t.n (row.getD 0 af)))
def Fk(t:A4)(row:List A3)(ps:List Pg)(x:A7):(iR t row ps x).length<=ps.length+1:=by
 unfold iR;split
 · exact yM
 · omega
def Dh(t:A4)(row:List A3)(ps:List Pg)(x:A7):(fg t row ps x).length<=ps.length:=by
 unfold fg;split
 · exact vG
 · omega
def pY(t:A4)(row:List A3): ∀(l:List A7) (ps:List Pg),(l.foldl (iR t row) ps).length<=ps.length+l.length
 | [],ps=>by simp
 |x::l,ps=>by
  have:=pY t row l (iR t row ps x);have:=Fk t row ps x;simp only[List.foldl_cons,lC];omega
def oH(t:A4)(row:List A3): ∀(l:List A7) (ps:List Pg),(l.foldl (fg t row) ps).length<=ps.length
 | [],ps=>by simp
 |x::l,ps=>by
  have:=oH t row l (fg t row ps x);have:=Dh t row ps x;simp only[List.foldl_cons];omega
def Hp(ps:List Pg)(c:B0)(t:A4)(row:List A3):(lp ps c t row).length<=ps.length+c.is.length+1:=by
 unfold lp;split
 · omega
 · have:=pY t row c.is (iO ps (ap t.n (row.getD 0 af)) (de row));have:=yM (ps:=ps) (key:=ap t.n (row.getD 0 af)) (val:=de row);omega
def FK(ps:List Pg)(c:B0)(t:A4)(row:List A3):(gZ ps c t row).length<=ps.length:=by
 unfold gZ;split
 · omega
 · have:=oH t row c.is (fq ps (ap t.n (row.getD 0 af)));have:=vG (ps:=ps) (key:=ap t.n (row.getD 0 af));omega
def AA(ps:List Pg)(c:B0)(t:A4)(row:List A3)(a4:ps.length+c.is.length+2<=2932031007402)(a2:row.length<=14073748835532)(ad:t.n.length<=140737488355328)(ar:t.cols.length<=140737488355328)(a5:c.is.length<=140737488355328)(aR: ∀x∈c.is,x.n.length<=140737488355328):
 CallA prog 117 [.agg [.iv (.sl (ps.map Pg.c))],.agg (c.c.map .iv),.agg (t.c.map .iv),.iv (.sl (row.map A3.c))] [] [] [] (.agg [.iv (.sl ((lp ps c t row).map Pg.c))]):=by
 have er:((row.map A3.c).length:Int)=(row.length:Int):=by simp
 have ec:((t.cols.map B8.c).length:Int)=(t.cols.length:Int):=by simp
 by_cases hz:row.length=0
 · have b1:((((row.map A3.c).length:Nat):Int)==0)=true:=by rw[er];simp;exact List.length_eq_zero_iff.1 hz
   have e:lp ps c t row=ps:=by rw[lp,if_pos (.inl hz)]
   rw[e];refine iA func117 ntmps117 (fun w0 E0=> ?_);refine wz ?_;all_goals refine aU ?_
   all_goals rfl
 have b1:((((row.map A3.c).length:Nat):Int)==0)=false:=by rw[er];simp;intro h;rw[h] at hz;simp at hz
 by_cases hn:row.length≠t.cols.length
 · have b2:((((row.map A3.c).length:Nat):Int) !=(((t.cols.map B8.c).length:Nat):Int))=true:=by rw[er,ec];simp;omega
   have e:lp ps c t row=ps:=by rw[lp,if_pos (.inr hn)]
   rw[e];refine iA func117 ntmps117 (fun w0 E0=> ?_);refine wz ?_;all_goals refine aU ?_
   all_goals rfl
 have hn:row.length=t.cols.length:=Classical.not_not.1 hn;have b2:((((row.map A3.c).length:Nat):Int) !=(((t.cols.map B8.c).length:Nat):Int))=false:=by rw[er,ec,hn];simp
 have e:lp ps c t row=c.is.foldl (iR t row) (iO ps (ap t.n (row.getD 0 af)) (de row)):=by rw[lp,if_neg C]
 rw[e];have g0:(row.map A3.c)[(0:Int).toNat]?=some [I (row.getD 0 af).k,I (row.getD 0 af).n,S (row.getD 0 af).s]:=by rw[show(0:Int).toNat=0 from rfl,gP,cV af (show 0<row.length by omega)];rfl
 have kr:=ja t.n (row.getD 0 af) ad;have kk:=oe row C;have kp:=El ps (ap t.n (row.getD 0 af)) (de row) C;have a6:=yM (ps:=ps) (key:=ap t.n (row.getD 0 af)) (val:=de row);generalize (iO ps (ap t.n (row.getD 0 af)) (de row))=P0 at*
 refine iA func117 ntmps117 (fun w0 E0=> ?_);refine wz ?_;refine ae (ι:=Nat) (fun i=>⟨[(37,aI (i:Int)),(36,aI ((c.is.map A7.c).length:Int)),(35,.iv (.sl (c.is.map A7.c))),(3,.iv (.sl (row.map A3.c))),(4,.ptr 4 0),(6,.ptr 6 0),(8,.ptr 8 0)],[(4,⟨51,.l [.iv (.sl (((c.is.take i).foldl (iR t row) P0).map Pg.c))]⟩),(6,⟨57,.l [aS t.n,.iv (.sl (t.cols.map B8.c))]⟩),(8,⟨51,.l [.nils]⟩)],[]⟩) (fun i=>c.is.length - i) (fun i=>True) (i0:=0) ?_ trivial ?_
 · exact df
 intro i _ K hK;cases hx:c.is[i]? with
 |none=>
  have a0:=gc (l:=c.is.map A7.c) (bz hx);rw[br hx];refine wz ?_;all_goals refine aU ?_
  all_goals rfl
 |some x=>
  have a0:=fZ (l:=c.is.map A7.c) (cM (f:=A7.c) hx);have a3:=fM hx;have g1:(c.is.map A7.c)[((i:Nat):Int).toNat]?=some [S x.n,S x.tb,S x.co]:=by rw[iN,gP,hx];rfl
  have kf:=eI t x.co ar;have T:=vA (iR t row) P0 hx;have a7:=pY t row (c.is.take i) P0;have a8:(c.is.take i).length<=c.is.length:=by simp;omega
  generalize (c.is.take i).foldl (iR t row) P0=Q at*
  have a1:=aR x (gE hx);cases h1:(x.tb==t.n) with
  |false=>
   rw[show iR t row Q x=Q by rw[iR,h1];rfl] at T;refine wz ?_;refine hK _ (i+1) trivial C ?_;rw[T];exact df
  |true=>
   cases h2:decide ((0:Int)<=aV t x.co) with
   |false=>
    rw[show iR t row Q x=Q by rw[iR,h1,h2];rfl] at T;refine wz ?_;refine hK _ (i+1) trivial C ?_;rw[T];exact df
   |true=>
    have h0:0<=aV t x.co:=of_decide_eq_true h2;have a9:(aV t x.co).toNat<t.cols.length:=HV h0;have g2:(row.map A3.c)[(aV t x.co).toNat]?=some [I (row.getD (aV t x.co).toNat af).k,I (row.getD (aV t x.co).toNat af).n,S (row.getD (aV t x.co).toNat af).s]:=by rw[gP,cV af (show(aV t x.co).toNat<row.length by omega)];rfl
    rw[show iR t row Q x=iO Q (eE x.n (row.getD (aV t x.co).toNat af) (row.getD 0 af)) [] by rw[iR,h1,h2];rfl] at T;generalize row.getD (aV t x.co).toNat af=v at*
    have ki:=qQ x.n v (row.getD 0 af) a1;have kq:=El Q (eE x.n v (row.getD 0 af)) [] C;(repeat' first|intro hb hp|(refine LW.is ?_;first|refine ag U (cd U U (by first|omega|exact h0|decide) (by first|exact g1|exact g2|exact g0) U) ?_)|(refine DR.is ?_;first|refine bg U (cd U U (by first|omega|exact h0|decide) (by first|exact g1|exact g2|exact g0) U) ?_)|refine am ?_|refine al ?_ ?_|fail)
    refine hK _ (i+1) trivial C ?_;rw[T];exact df
def so(ps:List Pg)(c:B0)(t:A4)(row:List A3)(a4:ps.length<=2932031007402)(a2:row.length<=14073748835532)(ad:t.n.length<=140737488355328)(ar:t.cols.length<=140737488355328)(a5:c.is.length<=140737488355328)(aR: ∀x∈c.is,x.n.length<=140737488355328):
 CallA prog 94 [.agg [.iv (.sl (ps.map Pg.c))],.agg (c.c.map .iv),.agg (t.c.map .iv),.iv (.sl (row.map A3.c))] [] [] [] (.agg [.iv (.sl ((gZ ps c t row).map Pg.c))]):=by
 have er:((row.map A3.c).length:Int)=(row.length:Int):=by simp
 have ec:((t.cols.map B8.c).length:Int)=(t.cols.length:Int):=by simp
 by_cases hz:row.length=0
 · have b1:((((row.map A3.c).length:Nat):Int)==0)=true:=by rw[er];simp;exact List.length_eq_zero_iff.1 hz
   have e:gZ ps c t row=ps:=by rw[gZ,if_pos (.inl hz)]
   rw[e];refine iA func94 ntmps94 (fun w0 E0=> ?_);refine wz ?_;all_goals refine aU ?_
   all_goals rfl
 have b1:((((row.map A3.c).length:Nat):Int)==0)=false:=by rw[er];simp;intro h;rw[h] at hz;simp at hz
 by_cases hn:row.length≠t.cols.length
 · have b2:((((row.map A3.c).length:Nat):Int) !=(((t.cols.map B8.c).length:Nat):Int))=true:=by rw[er,ec];simp;omega
   have e:gZ ps c t row=ps:=by rw[gZ,if_pos (.inr hn)]
   rw[e];refine iA func94 ntmps94 (fun w0 E0=> ?_);refine wz ?_;all_goals refine aU ?_
   all_goals rfl
 have hn:row.length=t.cols.length:=Classical.not_not.1 hn;have b2:((((row.map A3.c).length:Nat):Int) !=(((t.cols.map B8.c).length:Nat):Int))=false:=by rw[er,ec,hn];simp
 have e:gZ ps c t row=c.is.foldl (fg t row) (fq ps (ap t.n (row.getD 0 af))):=by rw[gZ,if_neg C]
 rw[e];have g0:(row.map A3.c)[(0:Int).toNat]?=some [I (row.getD 0 af).k,I (row.getD 0 af).n,S (row.getD 0 af).s]:=by rw[show(0:Int).toNat=0 from rfl,gP,cV af (show 0<row.length by omega)];rfl
 have kr:=ja t.n (row.getD 0 af) ad;have kk:=oe row C;have kp:=Br ps (ap t.n (row.getD 0 af)) C;have a6:=vG (ps:=ps) (key:=ap t.n (row.getD 0 af));generalize (fq ps (ap t.n (row.getD 0 af)))=P0 at*
 refine iA func94 ntmps94 (fun w0 E0=> ?_);refine wz ?_;refine ae (ι:=Nat) (fun i=>⟨[(35,aI (i:Int)),(34,aI ((c.is.map A7.c).length:Int)),(33,.iv (.sl (c.is.map A7.c))),(3,.iv (.sl (row.map A3.c))),(4,.ptr 4 0),(6,.ptr 6 0),(8,.ptr 8 0)],[(4,⟨51,.l [.iv (.sl (((c.is.take i).foldl (fg t row) P0).map Pg.c))]⟩),(6,⟨57,.l [aS t.n,.iv (.sl (t.cols.map B8.c))]⟩),(8,⟨51,.l [.nils]⟩)],[]⟩) (fun i=>c.is.length - i) (fun i=>True) (i0:=0) ?_ trivial ?_
 · exact df
 intro i _ K hK;cases hx:c.is[i]? with
 |none=>
  have a0:=gc (l:=c.is.map A7.c) (bz hx);rw[br hx];refine wz ?_;all_goals refine aU ?_
  all_goals rfl
 |some x=>
  have a0:=fZ (l:=c.is.map A7.c) (cM (f:=A7.c) hx);have a3:=fM hx;have g1:(c.is.map A7.c)[((i:Nat):Int).toNat]?=some [S x.n,S x.tb,S x.co]:=by rw[iN,gP,hx];rfl
  have kf:=eI t x.co ar;have T:=vA (fg t row) P0 hx;have a7:=oH t row (c.is.take i) P0;have a8:(c.is.take i).length<=c.is.length:=by simp;omega
  generalize (c.is.take i).foldl (fg t row) P0=Q at*
  have a1:=aR x (gE hx);cases h1:(x.tb==t.n) with
  |false=>
   rw[show fg t row Q x=Q by rw[fg,h1];rfl] at T;refine wz ?_;refine hK _ (i+1) trivial C ?_;rw[T];exact df
  |true=>
   cases h2:decide ((0:Int)<=aV t x.co) with
   |false=>
    rw[show fg t row Q x=Q by rw[fg,h1,h2];rfl] at T;refine wz ?_;refine hK _ (i+1) trivial C ?_;rw[T];exact df
   |true=>
    have h0:0<=aV t x.co:=of_decide_eq_true h2;have a9:(aV t x.co).toNat<t.cols.length:=HV h0;have g2:(row.map A3.c)[(aV t x.co).toNat]?=some [I (row.getD (aV t x.co).toNat af).k,I (row.getD (aV t x.co).toNat af).n,S (row.getD (aV t x.co).toNat af).s]:=by rw[gP,cV af (show(aV t x.co).toNat<row.length by omega)];rfl
    rw[show fg t row Q x=fq Q (eE x.n (row.getD (aV t x.co).toNat af) (row.getD 0 af)) by rw[fg,h1,h2];rfl] at T;generalize row.getD (aV t x.co).toNat af=v at*
    have ki:=qQ x.n v (row.getD 0 af) a1;have kq:=Br Q (eE x.n v (row.getD 0 af)) C;(repeat' first|intro hb hp|(refine LW.is ?_;first|refine ag U (cd U U (by first|omega|exact h0|decide) (by first|exact g1|exact g2|exact g0) U) ?_)|(refine DR.is ?_;first|refine bg U (cd U U (by first|omega|exact h0|decide) (by first|exact g1|exact g2|exact g0) U) ?_)|refine am ?_|refine al ?_ ?_|fail)
    refine hK _ (i+1) trivial C ?_;rw[T];exact df
def ai(r:List A3):List IV:= [.sl (r.map A3.c)]
def qo(w:Way)(k:Str):Option (List A3):=match dz (k.drop (if(k.length:Int)<((aO w.i).length:Int) then(k.length:Int) else((aO w.i).length:Int)).toNat) with
 |some l=>if l.length=2 then some l else none
 |none=>none
def dg(t:A4)(s:Str):Option (List A3):=match dz s with
 |some l=>if l.length=t.cols.length then some l else none
 |none=>none
def fm(ps:List Pg)(t:A4)(w:Way)(x:Pr):Option (List A3):=
 if w.i= [] then dg t x.2 else match qo w x.1 with
  |some l=>dg t (getM ps (ap t.n (l.getD 1 af))).1
  |none=>none
def ci(ps:List Pg)(t:A4)(w:Way):List (List A3):=(dG ps w.lo w.hi).filterMap (fm ps t w)
def oB{α β:Type}(f:α->Option β){l:List α}{i:Nat}{x:α}(h:l[i]?=some x):(l.take (i+1)).filterMap f=(l.take i).filterMap f++(f x).toList:=by
 rw[List.take_add_one,h,List.filterMap_append];cases T:f x<;>simp[T]
def pK{α β:Type}(f:α->Option β)(l:List α)(i:Nat):((l.take i).filterMap f).length<=l.length:=Nat.le_trans (List.length_filterMap_le _ _) (by simp;omega)
def FD{ps:List Pg}{i k:Nat}{x:Pr}(h:x∈fp ps i k):x∈az ps:=by
 unfold fp at h;cases T:ps[i]? with
 |none=>rw[T] at h;simp at h
 |some p=>
  rw[T] at h;rw[flat_at T];rcases mA h with h|h
  · exact List.mem_append.2 (.inr (List.mem_append.2 (.inl (mD h))))
  · exact List.mem_append.2 (.inr (List.mem_append.2 (.inr h)))
def xi{ps:List Pg}{lo hi:Str}{x:Pr}(h:x∈dG ps lo hi):x∈az ps:=by
 unfold dG at h;split at h
 · exact FD (List.takeWhile_subset _ h)
 · simp at h
def EB(ps:List Pg)(k:Str):(getM ps k).1= [] \/ ∃x∈az ps,x.2=(getM ps k).1:=by
 cases T:aG ps with
 |false=>left;simp[getM,T]
 |true=>
  rw[vw T,pJ];cases hf:(az ps).find? (fun x=>x.1==k) with
  |none=>left;rfl
  |some x=>right;exact⟨x,List.mem_of_find?_eq_some hf,rfl⟩
def sF(ps:List Pg):Prop:= ∀x∈az ps,x.1.length<=4398046511104/\x.2.length<=4398046511104
def pb(ps:List Pg)(t:A4)(w:Way)(a7:ps.length<=1000000000000)(a1:sF ps)(a2:t.n.length<=140737488355328)(a3:w.i.length<=140737488355328):
 CallA prog 27 [.agg [.iv (.sl (ps.map Pg.c))],.agg (t.c.map .iv),.agg (w.c.map .iv)] [] [] [] (.iv (.sl ((ci ps t w).map ai))):=by
 have kr:=xm ps w.lo w.hi C;have hR: ∀x∈dG ps w.lo w.hi,x.1.length<=4398046511104/\x.2.length<=4398046511104:=fun x hx=>a1 x (xi hx)
 have hl:=xj ps w.lo w.hi;unfold ci;generalize dG ps w.lo w.hi=R at*
 refine iA func27 ntmps27 (fun w0 E0=> ?_);refine wz ?_;refine L.adopt 9 (s:=9) (t:=35) (k:=1) U U U ?_;refine ae (ι:=Nat) (fun i=>⟨[(28,aI (i:Int)),(27,aI ((R.map fun x=>Str.c x.1).length:Int)),(7,.iv (.sl (R.map fun x=>Str.c x.1))),(8,.iv (.sl (R.map fun x=>Str.c x.2))),(9,.row 9 (((R.take i).filterMap (fm ps t w)).map ai)),(3,.ptr 3 0),(4,.ptr 4 0),(5,.ptr 5 0)],[(3,⟨51,.l [.iv (.sl (ps.map Pg.c))]⟩),(4,⟨57,.l [aS t.n,.iv (.sl (t.cols.map B8.c))]⟩),(5,⟨60,.l [aS w.i,aS w.lo,aS w.hi]⟩)],[(9,⟨35,1⟩)]⟩) (fun i=>R.length - i) (fun i=>True) (i0:=0) ?_ trivial ?_
 · exact df
 intro i _ K hK;cases hx:R[i]? with
 |none=>
  have a4:=gc (l:=R.map fun x=>Str.c x.1) (bz hx);rw[br hx];refine wz ?_;all_goals refine aU ?_
  all_goals rfl
 |some x=>
  have a4:=fZ (l:=R.map fun x=>Str.c x.1) (cM (f:=fun x=>Str.c x.1) hx);have a6:=fM hx;have g1:(R.map fun x=>Str.c x.1)[((i:Nat):Int).toNat]?=some [S x.1]:=by rw[iN,gP,hx];rfl
  have g2:(R.map fun x=>Str.c x.2)[((i:Nat):Int).toNat]?=some [S x.2]:=by rw[iN,gP,hx];rfl
  have T:=oB (fm ps t w) hx;have a8:=pK (fm ps t w) R i;obtain⟨a9,ba⟩:=hR x (gE hx);have bm:(((R.take i).filterMap (fm ps t w)).map ai).length+1<=maxLen:=by rw[fJ,lM];omega
  have bb:((((R.take i).filterMap (fm ps t w)).map ai).length+1)*24<=225000000000000:=by rw[lM];omega
  generalize hF:(R.take i).filterMap (fm ps t w)=F at*
  clear hF;by_cases hw:w.i= []
  · have q1:(!(w.i== []))=false:=by rw[hw];rfl
    have hp:fm ps t w x=dg t x.2:=by rw[fm,if_pos hw]
    rw[hp] at T;have kv:=ml x.2 C;cases hu:dz (x.2) with
    |none=>
     rw[show dA (x.2)=([],1) by rw[dA,hu]] at kv;rw[show dg t (x.2)=none by rw[dg,hu]] at T;refine wz ?_;refine hK _ (i+1) trivial C ?_;rw[T,show(Option.toList (none:Option (List A3)))= [] from rfl,List.append_nil];exact df
    |some r=>
     rw[show dA (x.2)=(r,0) by rw[dA,hu]] at kv;by_cases ar:r.length=t.cols.length
     · have q3:((((r.map A3.c).length:Nat):Int)==(((t.cols.map B8.c).length:Nat):Int))=true:=by simp[ar]
       rw[show dg t (x.2)=some r by rw[dg,hu];exact if_pos ar] at T;(repeat' first|intro hb hp|(refine LW.is ?_;first|apply bJ;rfl;rfl;rfl;rfl;(focus repeat' (first|exact bV|apply cF|(refine jm (fun x=>rfl))|(refine bB U ?_)|exact ad U|assumption));(focus repeat' (first|exact bV|apply cF|(refine jm (fun x=>rfl))|(refine bB U ?_)|exact ad U|assumption));exact bm;exact bb;rfl;rfl)|refine am ?_|refine al ?_ ?_|fail)
       refine L.onlyS [28,27,7,8,9,3,4,5] [3,4,5] U ?_;refine L.retok 9 94 9 U U U U ?_;refine hK _ (i+1) trivial C ?_;refine Wk.mk' kK (wF (wF (wF (wF (.cons U (Sub.of_eq (congrArg (AV.row 9) (by rw[T];simp[ai]))) F3))))) B3 (.cons U .nil)
     · have q3:((((r.map A3.c).length:Nat):Int)==(((t.cols.map B8.c).length:Nat):Int))=false:=by simp;omega
       rw[show dg t (x.2)=none by rw[dg,hu];exact if_neg ar] at T;refine wz ?_;refine hK _ (i+1) trivial C ?_;rw[T,show(Option.toList (none:Option (List A3)))= [] from rfl,List.append_nil];exact df
  · have q1:(!(w.i== []))=true:=by simp[hw]
    have ke:=lN w.i a3;have kv:=ml (x.1.drop (if(x.1.length:Int)<((aO w.i).length:Int) then(x.1.length:Int) else((aO w.i).length:Int)).toNat) (by rw[lD];omega);have d0:0<=(if(x.1.length:Int)<((aO w.i).length:Int) then(x.1.length:Int) else((aO w.i).length:Int)):=by split<;>omega
    have d1:(if(x.1.length:Int)<((aO w.i).length:Int) then(x.1.length:Int) else((aO w.i).length:Int))<=(x.1.length:Int):=by split<;>omega
    have hp:fm ps t w x=match qo w x.1 with|some l=>dg t (getM ps (ap t.n (l.getD 1 af))).1|none=>none:=by rw[fm,if_neg hw]
    rw[hp,qo] at T;generalize aR:x.1.drop (if(x.1.length:Int)<((aO w.i).length:Int) then(x.1.length:Int) else((aO w.i).length:Int)).toNat=dr at*
    cases hv:dz dr with
    |none=>
     rw[show dA dr=([],1) by rw[dA,hv]] at kv;rw[hv] at T;(repeat' first|intro hb hp|refine DR.is (bg U (bn U U d0 d1 aR) ?_)|refine am ?_|refine al ?_ ?_|fail)
     refine hK _ (i+1) trivial C ?_;rw[T,show(Option.toList (none:Option (List A3)))= [] from rfl,List.append_nil];exact df
    |some l=>
     rw[show dA dr=(l,0) by rw[dA,hv]] at kv;rw[hv] at T;by_cases a0:l.length=2
     · have T:(R.take (i+1)).filterMap (fm ps t w)=F++(dg t (getM ps (ap t.n (l.getD 1 af))).1).toList:=by rw[T];simp only[if_pos a0]
       have q2:((((l.map A3.c).length:Nat):Int) !=2)=false:=by simp[a0]
       have g5:(l.map A3.c)[(1:Int).toNat]?=some [I (l.getD 1 af).k,I (l.getD 1 af).n,S (l.getD 1 af).s]:=by rw[show(1:Int).toNat=1 from rfl,gP,cV af (show 1<l.length by omega)];rfl
       have kk:=ja t.n (l.getD 1 af) a2;have kg:=zj ps (ap t.n (l.getD 1 af)) C;have a5:(getM ps (ap t.n (l.getD 1 af))).1.length<=4398046511104:=by
        rcases EB ps (ap t.n (l.getD 1 af)) with h|⟨y,hy,h⟩
        · rw[h];simp
        · rw[<-h];exact(a1 y hy).2
       generalize l.getD 1 af=id at*
       generalize getM ps (ap t.n id)=gt at*
       obtain⟨gs,gb⟩:=gt;dsimp only at T a5 kg;have kw:=ml gs C;cases hu:dz (gs) with
       |none=>
        rw[show dA (gs)=([],1) by rw[dA,hu]] at kw;rw[show dg t (gs)=none by rw[dg,hu]] at T;(repeat' first|intro hb hp|refine DR.is (bg U (bn U U d0 d1 aR) ?_)|refine am ?_|refine al ?_ ?_|fail)
        refine hK _ (i+1) trivial C ?_;rw[T,show(Option.toList (none:Option (List A3)))= [] from rfl,List.append_nil];exact df
       |some r=>
        rw[show dA (gs)=(r,0) by rw[dA,hu]] at kw;by_cases ar:r.length=t.cols.length
        · have q3:((((r.map A3.c).length:Nat):Int)==(((t.cols.map B8.c).length:Nat):Int))=true:=by simp[ar]
          rw[show dg t (gs)=some r by rw[dg,hu];exact if_pos ar] at T;(repeat' first|intro hb hp|(refine LW.is ?_;first|apply bJ;rfl;rfl;rfl;rfl;(focus repeat' (first|exact bV|apply cF|(refine jm (fun x=>rfl))|(refine bB U ?_)|exact ad U|assumption));(focus repeat' (first|exact bV|apply cF|(refine jm (fun x=>rfl))|(refine bB U ?_)|exact ad U|assumption));exact bm;exact bb;rfl;rfl)|refine DR.is (bg U (bn U U d0 d1 aR) ?_)|refine am ?_|refine al ?_ ?_|fail)
          refine L.onlyS [28,27,7,8,9,3,4,5] [3,4,5] U ?_;refine L.retok 9 94 9 U U U U ?_;refine hK _ (i+1) trivial C ?_;refine Wk.mk' kK (wF (wF (wF (wF (.cons U (Sub.of_eq (congrArg (AV.row 9) (by rw[T];simp[ai]))) F3))))) B3 (.cons U .nil)
        · have q3:((((r.map A3.c).length:Nat):Int)==(((t.cols.map B8.c).length:Nat):Int))=false:=by simp;omega
          rw[show dg t (gs)=none by rw[dg,hu];exact if_neg ar] at T;(repeat' first|intro hb hp|refine DR.is (bg U (bn U U d0 d1 aR) ?_)|refine am ?_|refine al ?_ ?_|fail)
          refine hK _ (i+1) trivial C ?_;rw[T,show(Option.toList (none:Option (List A3)))= [] from rfl,List.append_nil];exact df
     · have T:(R.take (i+1)).filterMap (fm ps t w)=F++(none:Option (List A3)).toList:=by rw[T];simp only[if_neg a0]
       have q2:((((l.map A3.c).length:Nat):Int) !=2)=true:=by simp;omega
       (repeat' first|intro hb hp|refine DR.is (bg U (bn U U d0 d1 aR) ?_)|refine am ?_|refine al ?_ ?_|fail)
       refine hK _ (i+1) trivial C ?_;rw[T,show(Option.toList (none:Option (List A3)))= [] from rfl,List.append_nil];exact df
def lW(s:Str):List Str×Bool:=match cW s with|some l=>(l,true)|none=>([],false)
def Lk{c:UInt8}{n:Nat}(hn:n<256)(h: ¬c=UInt8.ofNat n):((c.toNat:Int)==(n:Int))=false:=by
 rw[beq_eq_false_iff_ne];intro e;exact h (UInt8.toNat_inj.1 (by rw[UInt8.toNat_ofNat'];omega))
def CS: ∀(r:Str) (b:UInt8),Lib.indexByte r b<(r.length:Int)
 | [],b=>by simp[Lib.indexByte]
 |x::r,b=>by
  have:=CS r b;unfold Lib.indexByte;simp only[lC];split
  · omega
  · split<;>omega
def Fe(s:Str)(hs:s.length<=1000000):CallA prog 42 [aS s] [] [] [] (.tup [.iv (.sl ((lW s).1.map Str.c)),.iv (B (lW s).2)]):=by
 refine iA func42 ntmps42 (fun w0 E0=> ?_);refine wz ?_;refine L.adopt 4 (s:=4) (t:=9) (k:=1) rfl rfl rfl ?_;refine ae (ι:=List Str×Str) (fun i=>⟨[(4,.row 4 (i.1.map Str.c)),(0,aS i.2)],[],[(4,⟨9,1⟩)]⟩) (fun i=>i.2.length) (fun i=>cW s=(cW i.2).map (i.1++ ·)/\i.1.length+i.2.length<=s.length) (i0:=([],s)) ?_ ⟨by cases cW s<;>simp,by simp⟩ ?_
 · exact df
 rintro ⟨l,s'⟩ ⟨hi,hl⟩ K hK;dsimp only at hi hl hK|-;cases s' with
 |nil=>
  have a7:(!(([]:List UInt8)== []))=false:=rfl;refine wz ?_;all_goals refine aU ?_
  rw[rB] at hi;simp[lW,hi]
 |cons c r=>
  have a7:(!(c::r==([]:List UInt8)))=true:=by simp
  simp only[lC] at hl;have bh:r.length<=1000000:=C;have bi:l.length<=1000000:=C;have cb:=c.toNat_lt;by_cases hb:c=32\/c=10
  · rw[sJ hb] at hi;rcases hb with rfl|rfl
    · (repeat' first|intro hb hp|(refine LW.is ?_;first|apply ag;rfl;apply bE;rfl;rfl;decide;rfl|apply ag;rfl;apply bn;rfl;rfl;decide;(simp<;>omega);(show _=r;rfl))|refine am ?_|refine al ?_ ?_|fail)
      refine hK _ (l,r) ⟨hi,by dsimp only;omega⟩ (by dsimp only;simp) ?_;exact df
    · (repeat' first|intro hb hp|(refine LW.is ?_;first|apply ag;rfl;apply bE;rfl;rfl;decide;rfl|apply ag;rfl;apply bn;rfl;rfl;decide;(simp<;>omega);(show _=r;rfl))|refine am ?_|refine al ?_ ?_|fail)
      refine hK _ (l,r) ⟨hi,by dsimp only;omega⟩ (by dsimp only;simp) ?_;exact df
  have bl:((c.toNat:Int)==32)=false:=Lk (n:=32) dD (fun e=>hb (.inl e));have bp:((c.toNat:Int)==10)=false:=Lk (n:=10) dD (fun e=>hb (.inr e));have next: ∀n,fc c r=some n->cW s=(cW ((c::r).drop n)).map ((l++ [(c::r).take n])++ ·):=fun n hn=>by
   rw[hi,uj hb hn,Option.map_map];congr 1;funext x;simp
  have bad:fc c r=none->lW s=([],false):=fun hn=>by
   have:cW s=none:=by rw[hi,ul hb hn];rfl
   simp[lW,this]
  have bm:(l.map Str.c).length+1<=maxLen:=by rw[lM];simp only[maxLen];omega
  have bb:((l.map Str.c).length+1)*16<=225000000000000:=by rw[lM];omega
  clear hi;cases hp:iP c with
  |true=>
   have a8:decide ((97:Int)<=(c.toNat:Int))=true:=by simp[iP] at hp;simp;omega
   have a9:decide ((c.toNat:Int)<=122)=true:=by simp[iP] at hp;simp;omega
   have ad:fc c r=some (1+(r.takeWhile iP).length):=by simp[fc,hp]
   have nx: ∀j,(r.takeWhile iP).length=j->cW s=(cW ((c::r).drop (j+1))).map ((l++ [(c::r).take (j+1)])++ ·):=fun j e=>next (j+1) (by rw[ad,e,Nat.add_comm])
   have ba:=KT iP r;clear next bad ad;(repeat' first|intro hb hp|(refine LW.is ?_;first|apply ag;rfl;apply bE;rfl;rfl;decide;rfl)|refine am ?_|refine al ?_ ?_|fail)
   refine ae (ι:=Nat) (fun n=>⟨[(6,aI ((n+1:Nat):Int)),(4,.row 4 (l.map Str.c)),(0,aS (c::r))],[],[(4,⟨9,1⟩)]⟩) (fun n=>r.length+1 - n) (fun n=>n<=(r.takeWhile iP).length) (i0:=0) ?_ (Nat.zero_le _) ?_
   · exact df
   intro j hj K2 ar;have d0:(0:Int)<=((j+1:Nat):Int):=C;have d1:((j+1:Nat):Int)<=((c::r).length:Int):=by simp only[lC];omega
   cases hx:r[j]? with
   |none=>
    have a2:=gO hx;have a3:decide (((j+1:Nat):Int)<((c::r).length:Int))=false:=by simp only[lC];simp;omega
    have T:=nx j C;clear nx ar;(repeat' first|intro hb hp|(refine LW.is ?_;first|apply ag;rfl;apply eR;rfl;rfl;exact d0;exact d1;rfl|apply ag;rfl;apply bn;rfl;rfl;exact d0;exact d1;rfl)|refine am ?_|refine al ?_ ?_|fail)
    refine L.only [4,0] ?_;refine L.retok 4 90 4 rfl rfl rfl rfl ?_;refine hK _ (l++ [(c::r).take (j+1)],(c::r).drop (j+1)) ⟨T,by dsimp only;rw[gV,lD];simp only[lC,List.length_nil];omega⟩ (by dsimp only;rw[lD];simp only[lC];omega) (Wk.mk' kK (.cons rfl (Sub.of_eq (congrArg (AV.row 4) (by rw[pA];rfl))) F1) .nil (.cons rfl .nil))
   |some b=>
    have a2:=(gS hx).1;have a3:decide (((j+1:Nat):Int)<((c::r).length:Int))=true:=by simp only[lC];simp;omega
    have gx:(c::r)[((j+1:Nat):Int).toNat]?=some b:=by rw[iN,List.getElem?_cons_succ];exact hx
    by_cases b1:97<=b.toNat
    · have z1:decide ((97:Int)<=(b.toNat:Int))=true:=by simp;omega
      by_cases b2:b.toNat<=122
      · have z2:decide ((b.toNat:Int)<=122)=true:=by simp;omega
        have a0:=yx (p:=iP) hx (by simp[iP,b1,b2]) hj;clear nx;(repeat' first|intro hb hp|(refine LW.is ?_;first|apply ag;rfl;apply bE;rfl;rfl;exact d0;exact gx)|refine am ?_|refine al ?_ ?_|fail)
        refine ar _ (j+1) a0 C ?_;exact df
      · have z2:decide ((b.toNat:Int)<=122)=false:=by simp;omega
        have T:=nx j (qv (p:=iP) hx (by simp[iP,b2]) hj);clear nx ar;(repeat' first|intro hb hp|(refine LW.is ?_;first|apply ag;rfl;apply bE;rfl;rfl;exact d0;exact gx|apply ag;rfl;apply eR;rfl;rfl;exact d0;exact d1;rfl|apply ag;rfl;apply bn;rfl;rfl;exact d0;exact d1;rfl)|refine am ?_|refine al ?_ ?_|fail)
        refine L.only [4,0] ?_;refine L.retok 4 90 4 rfl rfl rfl rfl ?_;refine hK _ (l++ [(c::r).take (j+1)],(c::r).drop (j+1)) ⟨T,by dsimp only;rw[gV,lD];simp only[lC,List.length_nil];omega⟩ (by dsimp only;rw[lD];simp only[lC];omega) (Wk.mk' kK (.cons rfl (Sub.of_eq (congrArg (AV.row 4) (by rw[pA];rfl))) F1) .nil (.cons rfl .nil))
    · have z1:decide ((97:Int)<=(b.toNat:Int))=false:=by simp;omega
      have T:=nx j (qv (p:=iP) hx (by simp[iP,b1]) hj);clear nx ar;(repeat' first|intro hb hp|(refine LW.is ?_;first|apply ag;rfl;apply bE;rfl;rfl;exact d0;exact gx|apply ag;rfl;apply eR;rfl;rfl;exact d0;exact d1;rfl|apply ag;rfl;apply bn;rfl;rfl;exact d0;exact d1;rfl)|refine am ?_|refine al ?_ ?_|fail)
      refine L.only [4,0] ?_;refine L.retok 4 90 4 rfl rfl rfl rfl ?_;refine hK _ (l++ [(c::r).take (j+1)],(c::r).drop (j+1)) ⟨T,by dsimp only;rw[gV,lD];simp only[lC,List.length_nil];omega⟩ (by dsimp only;rw[lD];simp only[lC];omega) (Wk.mk' kK (.cons rfl (Sub.of_eq (congrArg (AV.row 4) (by rw[pA];rfl))) F1) .nil (.cons rfl .nil))
  |false=>
  have a4:=hp;have a5:decide ((97:Int)<=(c.toNat:Int))=false\/(decide ((97:Int)<=(c.toNat:Int))=true/\decide ((c.toNat:Int)<=122)=false):=by
   by_cases b1:97<=c.toNat
   · right;simp[iP,b1] at hp;constructor
     · simp;omega
     · simp;omega
   · left;simp;omega
  clear hp;rcases a5 with q1|⟨q1,q2⟩
  all_goals
   cases hp:lb c with
   |true=>
    have a8:decide ((48:Int)<=(c.toNat:Int))=true:=by simp[lb] at hp;simp;omega
    have a9:decide ((c.toNat:Int)<=57)=true:=by simp[lb] at hp;simp;omega
    have ad:fc c r=some (1+(r.takeWhile lb).length):=by simp[fc,a4,hp]
    have nx: ∀j,(r.takeWhile lb).length=j->cW s=(cW ((c::r).drop (j+1))).map ((l++ [(c::r).take (j+1)])++ ·):=fun j e=>next (j+1) (by rw[ad,e,Nat.add_comm])
    have ba:=KT lb r;clear next bad ad;(repeat' first|intro hb hp|(refine LW.is ?_;first|apply ag;rfl;apply bE;rfl;rfl;decide;rfl)|refine am ?_|refine al ?_ ?_|fail)
    refine ae (ι:=Nat) (fun n=>⟨[(6,aI ((n+1:Nat):Int)),(4,.row 4 (l.map Str.c)),(0,aS (c::r))],[],[(4,⟨9,1⟩)]⟩) (fun n=>r.length+1 - n) (fun n=>n<=(r.takeWhile lb).length) (i0:=0) ?_ (Nat.zero_le _) ?_
    · exact df
    intro j hj K2 ar;have d0:(0:Int)<=((j+1:Nat):Int):=C;have d1:((j+1:Nat):Int)<=((c::r).length:Int):=by simp only[lC];omega
    cases hx:r[j]? with
    |none=>
     have a2:=gO hx;have a3:decide (((j+1:Nat):Int)<((c::r).length:Int))=false:=by simp only[lC];simp;omega
     have T:=nx j C;clear nx ar;(repeat' first|intro hb hp|(refine LW.is ?_;first|apply ag;rfl;apply eR;rfl;rfl;exact d0;exact d1;rfl|apply ag;rfl;apply bn;rfl;rfl;exact d0;exact d1;rfl)|refine am ?_|refine al ?_ ?_|fail)
     refine L.only [4,0] ?_;refine L.retok 4 90 4 rfl rfl rfl rfl ?_;refine hK _ (l++ [(c::r).take (j+1)],(c::r).drop (j+1)) ⟨T,by dsimp only;rw[gV,lD];simp only[lC,List.length_nil];omega⟩ (by dsimp only;rw[lD];simp only[lC];omega) (Wk.mk' kK (.cons rfl (Sub.of_eq (congrArg (AV.row 4) (by rw[pA];rfl))) F1) .nil (.cons rfl .nil))
    |some b=>
     have a2:=(gS hx).1;have a3:decide (((j+1:Nat):Int)<((c::r).length:Int))=true:=by simp only[lC];simp;omega
     have gx:(c::r)[((j+1:Nat):Int).toNat]?=some b:=by rw[iN,List.getElem?_cons_succ];exact hx
     by_cases b1:48<=b.toNat
     · have z1:decide ((48:Int)<=(b.toNat:Int))=true:=by simp;omega
       by_cases b2:b.toNat<=57
       · have z2:decide ((b.toNat:Int)<=57)=true:=by simp;omega
         have a0:=yx (p:=lb) hx (by simp[lb,b1,b2]) hj;clear nx;(repeat' first|intro hb hp|(refine LW.is ?_;first|apply ag;rfl;apply bE;rfl;rfl;exact d0;exact gx)|refine am ?_|refine al ?_ ?_|fail)
         refine ar _ (j+1) a0 C ?_;exact df
       · have z2:decide ((b.toNat:Int)<=57)=false:=by simp;omega
         have T:=nx j (qv (p:=lb) hx (by simp[lb,b2]) hj);clear nx ar;(repeat' first|intro hb hp|(refine LW.is ?_;first|apply ag;rfl;apply bE;rfl;rfl;exact d0;exact gx|apply ag;rfl;apply eR;rfl;rfl;exact d0;exact d1;rfl|apply ag;rfl;apply bn;rfl;rfl;exact d0;exact d1;rfl)|refine am ?_|refine al ?_ ?_|fail)
         refine L.only [4,0] ?_;refine L.retok 4 90 4 rfl rfl rfl rfl ?_;refine hK _ (l++ [(c::r).take (j+1)],(c::r).drop (j+1)) ⟨T,by dsimp only;rw[gV,lD];simp only[lC,List.length_nil];omega⟩ (by dsimp only;rw[lD];simp only[lC];omega) (Wk.mk' kK (.cons rfl (Sub.of_eq (congrArg (AV.row 4) (by rw[pA];rfl))) F1) .nil (.cons rfl .nil))
     · have z1:decide ((48:Int)<=(b.toNat:Int))=false:=by simp;omega
       have T:=nx j (qv (p:=lb) hx (by simp[lb,b1]) hj);clear nx ar;(repeat' first|intro hb hp|(refine LW.is ?_;first|apply ag;rfl;apply bE;rfl;rfl;exact d0;exact gx|apply ag;rfl;apply eR;rfl;rfl;exact d0;exact d1;rfl|apply ag;rfl;apply bn;rfl;rfl;exact d0;exact d1;rfl)|refine am ?_|refine al ?_ ?_|fail)
       refine L.only [4,0] ?_;refine L.retok 4 90 4 rfl rfl rfl rfl ?_;refine hK _ (l++ [(c::r).take (j+1)],(c::r).drop (j+1)) ⟨T,by dsimp only;rw[gV,lD];simp only[lC,List.length_nil];omega⟩ (by dsimp only;rw[lD];simp only[lC];omega) (Wk.mk' kK (.cons rfl (Sub.of_eq (congrArg (AV.row 4) (by rw[pA];rfl))) F1) .nil (.cons rfl .nil))
   |false=>
   have a6:decide ((48:Int)<=(c.toNat:Int))=false\/(decide ((48:Int)<=(c.toNat:Int))=true/\decide ((c.toNat:Int)<=57)=false):=by
    by_cases b1:48<=c.toNat
    · right;simp[lb,b1] at hp;constructor
      · simp;omega
      · simp;omega
    · left;simp;omega
   rcases a6 with q3|⟨q3,q4⟩
   all_goals
    by_cases a1:c=39
    · have q5:((c.toNat:Int)==39)=true:=by rw[a1];rfl
      have i1:=Ew r 39;have bP:=Lib.indexByte_ge r 39;have bR:=CS r 39;have ad:fc c r=(if Lib.indexByte r 39<0 then none else some ((Lib.indexByte r 39).toNat+2)):=by rw[fc,a4,hp,if_neg dD,if_neg dD,if_pos a1]
      generalize Lib.indexByte r 39=i at*
      by_cases aR:i<0
      · have qi:decide (i<0)=true:=decide_eq_true aR;rw[bad (by rw[ad,if_pos aR])];clear next bad;(repeat' first|intro hb hp|(refine LW.is ?_;first|apply ag;rfl;apply bE;rfl;rfl;decide;rfl|apply ag;rfl;apply bn;rfl;rfl;decide;(simp<;>omega);(show _=r;rfl))|refine am ?_|refine al ?_ ?_|fail)
        all_goals refine aU ?_
        all_goals rfl
      · have qi:decide (i<0)=false:=decide_eq_false aR;have T:=next (i+2).toNat (by rw[ad,if_neg aR];congr 1;omega);have d0:(0:Int)<=i+2:=C;have d1:i+2<=((c::r).length:Int):=by simp only[lC];omega
        clear next bad;(repeat' first|intro hb hp|(refine LW.is ?_;first|apply ag;rfl;apply bE;rfl;rfl;decide;rfl|apply ag;rfl;apply bn;rfl;rfl;decide;(simp<;>omega);(show _=r;rfl)|apply ag;rfl;apply eR;rfl;rfl;exact d0;exact d1;rfl|apply ag;rfl;apply bn;rfl;rfl;exact d0;exact d1;rfl)|refine am ?_|refine al ?_ ?_|fail)
        refine L.only [4,0] ?_;refine L.retok 4 90 4 rfl rfl rfl rfl ?_;refine hK _ (l++ [(c::r).take (i+2).toNat],(c::r).drop (i+2).toNat) ⟨T,by dsimp only;rw[gV,lD];simp only[lC,List.length_nil];omega⟩ (by dsimp only;rw[lD];simp only[lC];omega) (Wk.mk' kK (.cons rfl (Sub.of_eq (congrArg (AV.row 4) (by rw[pA];rfl))) F1) .nil (.cons rfl .nil))
    · have q5:((c.toNat:Int)==39)=false:=Lk (n:=39) dD a1;have i2:=Ew DX c;have ad:fc c r=(if 0<=Lib.indexByte DX c then some 1 else none):=by rw[fc,a4,hp,if_neg dD,if_neg dD,if_neg a1]
      generalize Lib.indexByte DX c=i at*
      by_cases aR:0<=i
      · have qi:decide (0<=i)=true:=decide_eq_true aR;have T:=next 1 (by rw[ad,if_pos aR]);have d0:(0:Int)<=1:=C;have d1:(1:Int)<=((c::r).length:Int):=by simp only[lC];omega
        clear next bad;(repeat' first|intro hb hp|(refine LW.is ?_;first|apply ag;rfl;apply bE;rfl;rfl;decide;rfl|apply ag;rfl;apply eR;rfl;rfl;exact d0;exact d1;rfl|apply ag;rfl;apply bn;rfl;rfl;exact d0;exact d1;rfl)|refine am ?_|refine al ?_ ?_|fail)
        refine L.only [4,0] ?_;refine L.retok 4 90 4 rfl rfl rfl rfl ?_;refine hK _ (l++ [(c::r).take 1],(c::r).drop 1) ⟨T,by dsimp only;rw[gV,lD];simp only[lC,List.length_nil];omega⟩ (by dsimp only;rw[lD];simp only[lC];omega) (Wk.mk' kK (.cons rfl (Sub.of_eq (congrArg (AV.row 4) (by rw[pA];rfl))) F1) .nil (.cons rfl .nil))
      · have qi:decide (0<=i)=false:=decide_eq_false aR;rw[bad (by rw[ad,if_neg aR])];clear next bad;(repeat' first|intro hb hp|(refine LW.is ?_;first|apply ag;rfl;apply bE;rfl;rfl;decide;rfl)|refine am ?_|refine al ?_ ?_|fail)
        all_goals refine aU ?_
        all_goals rfl
end Go.Proofs.Y
namespace Go.Proofs
open Go.Shelf
def Tryz.laysAtoi_ren:Go.Shelf.Ren:=⟨fun|172=>106|244=>150|245=>151|247=>185|279=>186|280=>187|281=>188|282=>189|287=>212|316=>213|171=>107|205=>214|321=>234|322=>235|243=>152|246=>190|283=>215|284=>216|285=>217|286=>218|129=>206|317=>236|318=>237|319=>238|320=>239|337=>244|338=>245|n=>n,fun|9=>9|3=>3|75=>168|76=>169|4=>4|5=>5|167=>239|37=>38|0=>0|85=>240|2=>2|168=>242|53=>259|175=>260|46=>149|210=>263|127=>285|145=>288|143=>286|21=>21|171=>265|173=>267|212=>289|51=>206|20=>20|213=>290|232=>296|233=>297|80=>138|n=>n,fun|15=>2|16=>3|17=>4|18=>5|19=>6|n=>n⟩
theorem Tryz.laysAtoi:Go.Proofs.LaysC.n172 Tryz.prog Tryz.laysAtoi_ren where
 mixed:=by kernel_rfl
 f129:=Tryz.func206.trans (congrArg some (by kernel_rfl))
 f171:=Tryz.func107.trans (congrArg some (by kernel_rfl))
 f172:=Tryz.func106.trans (congrArg some (by kernel_rfl))
 f205:=Tryz.func214.trans (congrArg some (by kernel_rfl))
 f243:=Tryz.func152.trans (congrArg some (by kernel_rfl))
 f244:=Tryz.func150.trans (congrArg some (by kernel_rfl))
 f245:=Tryz.func151.trans (congrArg some (by kernel_rfl))
 f246:=Tryz.func190.trans (congrArg some (by kernel_rfl))
 f247:=Tryz.func185.trans (congrArg some (by kernel_rfl))
 f279:=Tryz.func186.trans (congrArg some (by kernel_rfl))
 f280:=Tryz.func187.trans (congrArg some (by kernel_rfl))
 f281:=Tryz.func188.trans (congrArg some (by kernel_rfl))
 f282:=Tryz.func189.trans (congrArg some (by kernel_rfl))
 f283:=Tryz.func215.trans (congrArg some (by kernel_rfl))
 f284:=Tryz.func216.trans (congrArg some (by kernel_rfl))
 f285:=Tryz.func217.trans (congrArg some (by kernel_rfl))
 f286:=Tryz.func218.trans (congrArg some (by kernel_rfl))
 f287:=Tryz.func212.trans (congrArg some (by kernel_rfl))
 f316:=Tryz.func213.trans (congrArg some (by kernel_rfl))
 f317:=Tryz.func236.trans (congrArg some (by kernel_rfl))
 f318:=Tryz.func237.trans (congrArg some (by kernel_rfl))
 f319:=Tryz.func238.trans (congrArg some (by kernel_rfl))
 f320:=Tryz.func239.trans (congrArg some (by kernel_rfl))
 f321:=Tryz.func234.trans (congrArg some (by kernel_rfl))
 f322:=Tryz.func235.trans (congrArg some (by kernel_rfl))
 f337:=Tryz.func244.trans (congrArg some (by kernel_rfl))
 f338:=Tryz.func245.trans (congrArg some (by kernel_rfl))
 t0:=Tryz.underlying0
 a0:=Tryz.isAgg0
 z0:=Tryz.sizeOf0
 v0:=Tryz.zeroValue0
 t2:=Tryz.underlying2
 a2:=Tryz.isAgg2
 z2:=Tryz.sizeOf2
 v2:=Tryz.zeroValue2
 t3:=Tryz.underlying3
 a3:=Tryz.isAgg3
 z3:=Tryz.sizeOf3
 v3:=Tryz.zeroValue3
 t4:=Tryz.underlying4
 a4:=Tryz.isAgg4
 z4:=Tryz.sizeOf4
 v4:=Tryz.zeroValue4
 t5:=Tryz.underlying5
 a5:=Tryz.isAgg5
 z5:=Tryz.sizeOf5
 v5:=Tryz.zeroValue5
 t9:=Tryz.underlying9
 a9:=Tryz.isAgg9
 z9:=Tryz.sizeOf9
 v9:=Tryz.zeroValue9
 t20:=Tryz.underlying20
 a20:=Tryz.isAgg20
 z20:=Tryz.sizeOf20
 v20:=Tryz.zeroValue20
 t21:=Tryz.underlying21
 a21:=Tryz.isAgg21
 z21:=Tryz.sizeOf21
 v21:=Tryz.zeroValue21
 t37:=Tryz.underlying38
 a37:=Tryz.isAgg38
 z37:=Tryz.sizeOf38
 v37:=Tryz.zeroValue38
 t46:=Tryz.underlying149
 a46:=Tryz.isAgg149
 z46:=Tryz.sizeOf149
 v46:=Tryz.zeroValue149
 t51:=Tryz.underlying206
 a51:=Tryz.isAgg206
 z51:=Tryz.sizeOf206
 v51:=Tryz.zeroValue206
 t53:=Tryz.underlying259
 a53:=Tryz.isAgg259
 z53:=Tryz.sizeOf259
 v53:=Tryz.zeroValue259
 t75:=Tryz.underlying168
 a75:=Tryz.isAgg168
 z75:=Tryz.sizeOf168
 v75:=Tryz.zeroValue168
 t76:=Tryz.underlying169
 a76:=Tryz.isAgg169
 z76:=Tryz.sizeOf169
 v76:=Tryz.zeroValue169
 t85:=Tryz.underlying240
 a85:=Tryz.isAgg240
 z85:=Tryz.sizeOf240
 v85:=Tryz.zeroValue240
 t127:=Tryz.underlying285
 a127:=Tryz.isAgg285
 z127:=Tryz.sizeOf285
 v127:=Tryz.zeroValue285
 t143:=Tryz.underlying286
 a143:=Tryz.isAgg286
 z143:=Tryz.sizeOf286
 v143:=Tryz.zeroValue286
 t145:=Tryz.underlying288
 a145:=Tryz.isAgg288
 z145:=Tryz.sizeOf288
 v145:=Tryz.zeroValue288
 t167:=Tryz.underlying239
 a167:=Tryz.isAgg239
 z167:=Tryz.sizeOf239
 v167:=Tryz.zeroValue239
 t168:=Tryz.underlying242
 a168:=Tryz.isAgg242
 z168:=Tryz.sizeOf242
 v168:=Tryz.zeroValue242
 t171:=Tryz.underlying265
 a171:=Tryz.isAgg265
 z171:=Tryz.sizeOf265
 v171:=Tryz.zeroValue265
 t173:=Tryz.underlying267
 a173:=Tryz.isAgg267
 z173:=Tryz.sizeOf267
 v173:=Tryz.zeroValue267
 t175:=Tryz.underlying260
 a175:=Tryz.isAgg260
 z175:=Tryz.sizeOf260
 v175:=Tryz.zeroValue260
 t210:=Tryz.underlying263
 a210:=Tryz.isAgg263
 z210:=Tryz.sizeOf263
 v210:=Tryz.zeroValue263
 t212:=Tryz.underlying289
 a212:=Tryz.isAgg289
 z212:=Tryz.sizeOf289
 v212:=Tryz.zeroValue289
 t213:=Tryz.underlying290
 a213:=Tryz.isAgg290
 z213:=Tryz.sizeOf290
 t232:=Tryz.underlying296
 a232:=Tryz.isAgg296
 z232:=Tryz.sizeOf296
 v232:=Tryz.zeroValue296
 t233:=Tryz.underlying297
 a233:=Tryz.isAgg297
 z233:=Tryz.sizeOf297
 v233:=Tryz.zeroValue297
 g15:=by kernel_rfl
 g16:=by kernel_rfl
 g17:=by kernel_rfl
 g18:=by kernel_rfl
 g19:=by kernel_rfl
 t80:=Tryz.underlying138
 a80:=Tryz.isAgg138
 z80:=Tryz.sizeOf138
 v80:=Tryz.zeroValue138
 i0:=by kernel_rfl
 i2:=by kernel_rfl
 i3:=by kernel_rfl
 i4:=by kernel_rfl
 i5:=by kernel_rfl
 i9:=by kernel_rfl
 i20:=by kernel_rfl
 i21:=by kernel_rfl
 i37:=by kernel_rfl
 i46:=by kernel_rfl
 i51:=by kernel_rfl
 i53:=by kernel_rfl
 i75:=by kernel_rfl
 i76:=by kernel_rfl
 i80:=by kernel_rfl
 i85:=by kernel_rfl
 i127:=by kernel_rfl
 i143:=by kernel_rfl
 i145:=by kernel_rfl
 i167:=by kernel_rfl
 i168:=by kernel_rfl
 i171:=by kernel_rfl
 i173:=by kernel_rfl
 i175:=by kernel_rfl
 i210:=by kernel_rfl
 i212:=by kernel_rfl
 i232:=by kernel_rfl
 i233:=by kernel_rfl
 m15:=by kernel_rfl
 m16:=by kernel_rfl
 m17:=by kernel_rfl
 m18:=by kernel_rfl
 m19:=by kernel_rfl
 c0:=by kernel_rfl
 c2:=by kernel_rfl
 c3:=by kernel_rfl
 c4:=by kernel_rfl
 c5:=by kernel_rfl
 c9:=by kernel_rfl
 c20:=by kernel_rfl
 c21:=by kernel_rfl
 c37:=by kernel_rfl
 c46:=by kernel_rfl
 c51:=by kernel_rfl
 c53:=by kernel_rfl
 c75:=by kernel_rfl
 c76:=by kernel_rfl
 c80:=by kernel_rfl
 c85:=by kernel_rfl
 c127:=by kernel_rfl
 c143:=by kernel_rfl
 c145:=by kernel_rfl
 c167:=by kernel_rfl
 c168:=by kernel_rfl
 c171:=by kernel_rfl
 c173:=by kernel_rfl
 c175:=by kernel_rfl
 c210:=by kernel_rfl
 c212:=by kernel_rfl
 c213:=by kernel_rfl
 c232:=by kernel_rfl
 c233:=by kernel_rfl
def Tryz.laysItoa_ren:Go.Shelf.Ren:=⟨fun|171=>107|243=>152|246=>190|283=>215|284=>216|285=>217|286=>218|129=>206|317=>236|318=>237|319=>238|320=>239|337=>244|338=>245|n=>n,fun|3=>3|9=>9|2=>2|4=>4|171=>265|0=>0|53=>259|37=>38|5=>5|173=>267|212=>289|51=>206|20=>20|213=>290|46=>149|232=>296|233=>297|n=>n,fun|17=>4|18=>5|19=>6|n=>n⟩
theorem Tryz.laysItoa:Go.Proofs.LaysM.n171 Tryz.prog Tryz.laysItoa_ren where
 mixed:=by kernel_rfl
 f129:=Tryz.func206.trans (congrArg some (by kernel_rfl))
 f171:=Tryz.func107.trans (congrArg some (by kernel_rfl))
 f243:=Tryz.func152.trans (congrArg some (by kernel_rfl))
 f246:=Tryz.func190.trans (congrArg some (by kernel_rfl))
 f283:=Tryz.func215.trans (congrArg some (by kernel_rfl))
 f284:=Tryz.func216.trans (congrArg some (by kernel_rfl))
 f285:=Tryz.func217.trans (congrArg some (by kernel_rfl))
 f286:=Tryz.func218.trans (congrArg some (by kernel_rfl))
 f317:=Tryz.func236.trans (congrArg some (by kernel_rfl))
 f318:=Tryz.func237.trans (congrArg some (by kernel_rfl))
 f319:=Tryz.func238.trans (congrArg some (by kernel_rfl))
 f320:=Tryz.func239.trans (congrArg some (by kernel_rfl))
 f337:=Tryz.func244.trans (congrArg some (by kernel_rfl))
 f338:=Tryz.func245.trans (congrArg some (by kernel_rfl))
 t0:=Tryz.underlying0
 a0:=Tryz.isAgg0
 z0:=Tryz.sizeOf0
 v0:=Tryz.zeroValue0
 t2:=Tryz.underlying2
 a2:=Tryz.isAgg2
 z2:=Tryz.sizeOf2
 v2:=Tryz.zeroValue2
 t3:=Tryz.underlying3
 a3:=Tryz.isAgg3
 z3:=Tryz.sizeOf3
 v3:=Tryz.zeroValue3
 t4:=Tryz.underlying4
 a4:=Tryz.isAgg4
 z4:=Tryz.sizeOf4
 v4:=Tryz.zeroValue4
 t5:=Tryz.underlying5
 a5:=Tryz.isAgg5
 z5:=Tryz.sizeOf5
 v5:=Tryz.zeroValue5
 t9:=Tryz.underlying9
 a9:=Tryz.isAgg9
 z9:=Tryz.sizeOf9
 v9:=Tryz.zeroValue9
 t20:=Tryz.underlying20
 a20:=Tryz.isAgg20
 z20:=Tryz.sizeOf20
 v20:=Tryz.zeroValue20
 t37:=Tryz.underlying38
 a37:=Tryz.isAgg38
 z37:=Tryz.sizeOf38
 v37:=Tryz.zeroValue38
 t46:=Tryz.underlying149
 a46:=Tryz.isAgg149
 z46:=Tryz.sizeOf149
 v46:=Tryz.zeroValue149
 t51:=Tryz.underlying206
 a51:=Tryz.isAgg206
 z51:=Tryz.sizeOf206
 v51:=Tryz.zeroValue206
 t53:=Tryz.underlying259
 a53:=Tryz.isAgg259
 z53:=Tryz.sizeOf259
 v53:=Tryz.zeroValue259
 t171:=Tryz.underlying265
 a171:=Tryz.isAgg265
 z171:=Tryz.sizeOf265
 v171:=Tryz.zeroValue265
 t173:=Tryz.underlying267
 a173:=Tryz.isAgg267
 z173:=Tryz.sizeOf267
 v173:=Tryz.zeroValue267
 t212:=Tryz.underlying289
 a212:=Tryz.isAgg289
 z212:=Tryz.sizeOf289
 v212:=Tryz.zeroValue289
 t213:=Tryz.underlying290
 a213:=Tryz.isAgg290
 z213:=Tryz.sizeOf290
 t232:=Tryz.underlying296
 a232:=Tryz.isAgg296
 z232:=Tryz.sizeOf296
 v232:=Tryz.zeroValue296
 t233:=Tryz.underlying297
 a233:=Tryz.isAgg297
 z233:=Tryz.sizeOf297
 v233:=Tryz.zeroValue297
 g17:=by kernel_rfl
 g18:=by kernel_rfl
 g19:=by kernel_rfl
 i0:=by kernel_rfl
 i2:=by kernel_rfl
 i3:=by kernel_rfl
 i4:=by kernel_rfl
 i5:=by kernel_rfl
 i9:=by kernel_rfl
 i20:=by kernel_rfl
 i37:=by kernel_rfl
 i46:=by kernel_rfl
 i51:=by kernel_rfl
 i53:=by kernel_rfl
 i171:=by kernel_rfl
 i173:=by kernel_rfl
 i212:=by kernel_rfl
 i232:=by kernel_rfl
 i233:=by kernel_rfl
 m17:=by kernel_rfl
 m18:=by kernel_rfl
 m19:=by kernel_rfl
end Go.Proofs
namespace Go.Abs
section
variable {P:Program}{c:C7}{st:St}{fn:Func}{res:AV}{rs:List ResultVar}{y z u:IV}{cs:List AV}
def L.endQ{bx':List (Nat×A5)}{vs:List AV}(ad:fn.results=rs.toArray)(T:(st.ress P rs).map AV.pub.pubs=some vs)(hw:Wk c st ⟨[],bx',[]⟩)(he:resOf vs=res):
 L c st (bodyPost P fn (lj c bx' [] res) .ret):=by
 cases h:st.ress P rs with
 |none=>rw[h] at T;cases T
 |some us=>rw[h] at T;cases T;exact L.ends ad h (he▸Sub.resOf) hw
def KN{bx':List (Nat×A5)}{vs:List AV}(ad:fn.results=rs.toArray)(T:(st.ress P rs).map AV.pub.pubs=some vs)(hw:Wk c st ⟨[],bx',[]⟩)(he:resOf vs=res):
 L c st (bodyPost P fn (lj c bx' [] res) .normal):=by
 cases h:st.ress P rs with
 |none=>rw[h] at T;cases T
 |some us=>rw[h] at T;cases T;exact ES ad h (he▸Sub.resOf) hw
variable {bx':List (Nat×A5)}
def L.endQ0(T:fn.results=rs.toArray)(hv:(st.ress P rs).map AV.pub.pubs=some [])(hw:Wk c st ⟨[],bx',[]⟩)(he:AV.tup [] =res):L c st (bodyPost P fn (lj c bx' [] res) .ret):=L.endQ T hv hw he
def aM(T:fn.results=rs.toArray)(hv:(st.ress P rs).map AV.pub.pubs=some [])(hw:Wk c st ⟨[],bx',[]⟩)(he:AV.tup [] =res):L c st (bodyPost P fn (lj c bx' [] res) .normal):=KN T hv hw he
def L.endQ1(T:fn.results=rs.toArray)(hv:(st.ress P rs).map AV.pub.pubs=some [.iv y])(hw:Wk c st ⟨[],bx',[]⟩)(he:AV.iv y=res):L c st (bodyPost P fn (lj c bx' [] res) .ret):=L.endQ T hv hw he
def L.endQA(T:fn.results=rs.toArray)(hv:(st.ress P rs).map AV.pub.pubs=some [.agg cs])(hw:Wk c st ⟨[],bx',[]⟩)(he:AV.agg cs=res):L c st (bodyPost P fn (lj c bx' [] res) .ret):=L.endQ T hv hw he
def L.endQAI(T:fn.results=rs.toArray)(hv:(st.ress P rs).map AV.pub.pubs=some [.agg cs,.iv y])(hw:Wk c st ⟨[],bx',[]⟩)(he:AV.tup [.agg cs,.iv y] =res):L c st (bodyPost P fn (lj c bx' [] res) .ret):=L.endQ T hv hw he
end
def gM{X1 X2 Y:Prop}(h1:X1)(h2:X2)(hs:X1->X2->Y:=by(intro T q2;first|(apply L.endQ1;exact rfl;exact rfl;exact Wk.mk' (by intro id h;simp[keys] at h;subst h;rfl) .nil (.cons rfl rfl (Subs.of_eq q2) .nil) .nil;exact T)|(apply L.endQ0;exact rfl;exact rfl;exact Wk.mk' (by intro id h;simp[keys] at h;subst h;rfl) .nil (.cons rfl rfl (Subs.of_eq q2) .nil) .nil;exact T)|(apply aM;exact rfl;exact rfl;exact Wk.mk' (by intro id h;simp[keys] at h;subst h;rfl) .nil (.cons rfl rfl (Subs.of_eq q2) .nil) .nil;exact T)|(apply L.endQA;exact rfl;exact rfl;exact Wk.mk' (by intro id h;simp[keys] at h;subst h;rfl) .nil (.cons rfl rfl (Subs.of_eq q2) .nil) .nil;exact T)|(apply L.endQAI;exact rfl;exact rfl;exact Wk.mk' (by intro id h;simp[keys] at h;subst h;rfl) .nil (.cons rfl rfl (Subs.of_eq q2) .nil) .nil;exact T)|fail)):Y:=hs h1 h2
end Go.Abs
namespace Go.Proofs.Y
open Go.Abs Go.Proofs.Tryz
attribute [local irreducible] L Code.wp bodyPost Exit.then Exit.inBlock
def wt:List Str->List Str->Bool
 | [],[] =>true
 |a::l,b::m=>a==b && wt l m
 |_,_=>false
def Bo: ∀{l m:List Str},l.length≠m.length->wt l m=false
 | [],[],h=>absurd U h
 | [],_::_,_=>rfl
 |_::_,[],_=>rfl
 |a::l,b::m,h=>by rw[wt,Bo (by simpa using h),Bool.and_false]
def Df{gs:aw}(a b:List Str)(ha:a.length<=1000000):CallG gs prog 103 [.iv (.sl (a.map Str.c)),.iv (.sl (b.map Str.c))] [] [] [] (aB (wt a b)):=by
 refine iG func103 ntmps103 (fun w0 E0 hG=> ?_);by_cases hl:a.length=b.length
 case neg=>
  have q:(((a.map Str.c).length:Int) !=((b.map Str.c).length:Int))=true:=by rw[lM,lM];simp;omega
  rw[Bo hl];refine wz ?_;all_goals refine aU ?_
  all_goals rfl
 have q:(((a.map Str.c).length:Int) !=((b.map Str.c).length:Int))=false:=by rw[lM,lM];simp;omega
 refine wz ?_;refine ae (ι:=Nat) (fun i=>⟨[(13,aI (i:Int)),(12,aI ((a.map Str.c).length:Int)),(0,.iv (.sl (a.map Str.c))),(1,.iv (.sl (b.map Str.c)))],[],[]⟩) (fun i=>a.length - i) (fun i=>wt a b=wt (a.drop i) (b.drop i)) (i0:=0) ?_ U ?_
 · exact df
 intro i hi K hK;cases T:a[i]? with
 |none=>
  have ad:=gc (l:=a.map Str.c) (bz T);have h1:=gO T;rw[hi,dL h1,dL C];refine wz ?_;all_goals refine aU ?_
  all_goals rfl
 |some x=>
  have ad:=fZ (l:=a.map Str.c) (cM (f:=Str.c) T);have ar:=fM T;obtain⟨y,hy⟩: ∃y,b[i]?=some y:=⟨_,gG C⟩
  have g1:(a.map Str.c)[((i:Nat):Int).toNat]?=some [S x]:=by rw[iN,gP,T];rfl
  have g2:(b.map Str.c)[((i:Nat):Int).toNat]?=some [S y]:=by rw[iN,gP,hy];rfl
  rw[fu T,fu hy,wt] at hi;cases he:(x==y) with
  |true=>
   have hq:(!(x==y))=false:=by rw[he];rfl
   rw[he,Bool.true_and] at hi;refine wz ?_;refine hK _ (i+1) hi C ?_;exact df
  |false=>
   have hq:(!(x==y))=true:=by rw[he];rfl
   rw[hi,he,Bool.false_and];refine wz ?_;all_goals refine aU ?_
   all_goals rfl
structure Rd where
 l:List Str
 bad:Bool
abbrev en(r:Rd):A5:=⟨103,.l [.iv (.sl (r.l.map Str.c)),aB r.bad]⟩
def TokOk(s:Str):Prop:=s.length<=1000000/\(s.head?=some 39->2<=s.length)/\(s.head?=some 45->s.length=1)
structure C6 (r:Rd):Prop where
 n:r.l.length<=1000000
 w: ∀s∈r.l,TokOk s
def Rd.front(r:Rd):Str:=r.l.headD []
def xO{gs:aw}(r:Rd):CallG gs prog 148 [.ptr 1000 0] [(1000,en r)] [(1000,en r)] [] (aS r.front):=by
 refine iG func148 ntmps148 (fun w0 E0 T=> ?_);obtain⟨l,bad⟩:=r;cases l with
 |nil=>
  refine wz ?_;all_goals refine gM ?_ ?_
  all_goals rfl
 |cons s l=>
  have q:((((s::l).map Str.c).length:Int)==0)=false:=by simp;omega
  have g:((s::l).map Str.c)[(0:Int).toNat]?=some [S s]:=rfl;refine wz ?_;all_goals refine gM ?_ ?_
  all_goals rfl
def eB(r:Rd):Str×Rd:=if r.front= [] then([],⟨r.l,true⟩) else(r.front,⟨r.l.drop 1,r.bad⟩)
def uW{gs:aw}(r:Rd):CallG gs prog 104 [.ptr 1000 0] [(1000,en r)] [(1000,en (eB r).2)] [] (aS (eB r).1):=by
 have kf:=xO (gs:=gs) r;refine iG func104 ntmps104 (fun w0 E0 hG=> ?_);by_cases h:r.front= []
 · rw[show eB r=([],⟨r.l,true⟩) from if_pos h];have q:(r.front==([]:Str))=true:=by rw[h];rfl
   (repeat' first|intro T hp|refine LW.is (s_Q ?_)|refine am ?_|refine al ?_ ?_|fail)
   all_goals refine gM ?_ ?_
   all_goals rfl
 · rw[show eB r=(r.front,⟨r.l.drop 1,r.bad⟩) from if_neg h];have q:(r.front==([]:Str))=false:=by simpa using h
   obtain⟨l,bad⟩:=r;cases l with
   |nil=>exact absurd U h
   |cons s l=>
    have d0:(0:Int)<=1:=by decide
    have d1:(1:Int)<=(((s::l).map Str.c).length:Int):=by simp;omega
    (repeat' first|intro T hp|(refine LW.is ?_;first|refine s_Q ?_|refine ag U (jR U U (cU _) d0 d1 U) ?_)|refine am ?_|refine al ?_ ?_|fail)
    all_goals refine gM ?_ ?_
    all_goals rfl
def ak(r:Rd)(ws:List Str):Bool×Rd:=if r.l.length<ws.length then(false,r) else if wt (r.l.take ws.length) ws then(true,⟨r.l.drop ws.length,r.bad⟩) else(false,r)
def aQ{gs:aw}(r:Rd)(ws:List Str)(hr:C6 r)(hw:ws.length<=1000000):CallG gs prog 69 [.ptr 1000 0,.iv (.sl (ws.map Str.c))] [(1000,en r)] [(1000,en (ak r ws).2)] [] (aB (ak r ws).1):=by
 refine iG func69 ntmps69 (fun w0 E0 hG=> ?_);obtain⟨l,bad⟩:=r;have hn:=hr.n;dsimp only at hn;by_cases h:l.length<ws.length
 · rw[show ak ⟨l,bad⟩ ws=(false,⟨l,bad⟩) from if_pos h];have q:decide (((l.map Str.c).length:Int)<((ws.map Str.c).length:Int))=true:=decide_eq_true (by rw[lM,lM];omega);refine wz ?_;all_goals refine gM ?_ ?_
   all_goals rfl
 have q:decide (((l.map Str.c).length:Int)<((ws.map Str.c).length:Int))=false:=decide_eq_false (by rw[lM,lM];omega);have T:=Df (gs:=gs) (l.take ws.length) ws (by rw[lT];omega);have d0:(0:Int)<=((ws.map Str.c).length:Int):=C;have d1:((ws.map Str.c).length:Int)<=((l.map Str.c).length:Int):=by rw[lM,lM];omega
 have e1:(l.map Str.c).take ((ws.map Str.c).length:Int).toNat=(l.take ws.length).map Str.c:=by rw[iN,lM,List.map_take]
 have e2:(l.map Str.c).drop ((ws.map Str.c).length:Int).toNat=(l.drop ws.length).map Str.c:=by rw[iN,lM,List.map_drop]
 rw[show ak ⟨l,bad⟩ ws=if wt (l.take ws.length) ws then(true,⟨l.drop ws.length,bad⟩) else(false,⟨l,bad⟩) from if_neg h];cases he:wt (l.take ws.length) ws with
 |true=>
  rw[he] at T;(repeat' first|intro hb hp|(refine LW.is ?_;first|refine ag U (ez U U (cU _) d0 d1 e1) ?_|refine ag U (jR U U (cU _) d0 d1 e2) ?_)|refine am ?_|refine al ?_ ?_|fail)
  all_goals refine gM ?_ ?_
  all_goals rfl
 |false=>
  rw[he] at T;(repeat' first|intro hb hp|refine LW.is (ag U (ez U U (cU _) d0 d1 e1) ?_)|refine am ?_|refine al ?_ ?_|fail)
  all_goals refine gM ?_ ?_
  all_goals rfl
def aL(r:Rd)(ws:List Str):Rd:=if(ak r ws).1 then(ak r ws).2 else⟨(ak r ws).2.l,true⟩
def du{gs:aw}(r:Rd)(ws:List Str)(hr:C6 r)(T:ws.length<=1000000):CallG gs prog 44 [.ptr 1000 0,.iv (.sl (ws.map Str.c))] [(1000,en r)] [(1000,en (aL r ws))] [] (.tup []):=by
 have ka:=aQ (gs:=gs) r ws hr T;unfold aL;generalize ak r ws=p at*
 obtain⟨b,l,bad⟩:=p;refine iG func44 ntmps44 (fun w0 E0 hG=> ?_);cases b with
 |true=>
  (repeat' first|intro hb hp|refine LW.is (s_Q ?_)|refine am ?_|refine al ?_ ?_|fail)
  all_goals refine gM ?_ ?_
  all_goals rfl
 |false=>
  (repeat' first|intro hb hp|refine LW.is (s_Q ?_)|refine am ?_|refine al ?_ ?_|fail)
  all_goals refine gM ?_ ?_
  all_goals rfl
def C6.front{r:Rd}(h:C6 r):r.front.length<=1000000:=by
 unfold Rd.front;cases hl:r.l with
 |nil=>simp
 |cons s l=>exact(h.w s (by rw[hl];simp)).1
def C6.drop{r:Rd}(h:C6 r)(n:Nat)(b:Bool):C6 ⟨r.l.drop n,b⟩:=⟨by have:=h.n;simp only[lD];omega,fun s hs=>h.w s (mD hs)⟩
def C6.mark{r:Rd}(h:C6 r)(b:Bool):C6 ⟨r.l,b⟩:=⟨h.n,h.w⟩
def C6.next{r:Rd}(h:C6 r):C6 (eB r).2:=by
 unfold eB;split
 · exact h.mark true
 · exact h.drop 1 r.bad
def uV{r:Rd}(h:C6 r):(eB r).1.length<=1000000:=by
 unfold eB;split
 · simp
 · exact h.front
def C6.at{r:Rd}(h:C6 r)(ws:List Str):C6 (ak r ws).2:=by
 unfold ak;split
 · exact h
 · split
   · exact h.drop _ _
   · exact h
def aq(r:Rd):Str×Rd:=((eB r).1,⟨(eB r).2.l,(eB r).2.bad|| !bF (eB r).1⟩)
def C6.name{r:Rd}(h:C6 r):C6 (aq r).2:=h.next.mark _
def dH(r:Rd)(hr:C6 r):CallG tD prog 70 [.ptr 1000 0] [(1000,en r)] [(1000,en (aq r).2)] [] (aS (aq r).1):=by
 have kn:=uW (gs:=tD) r;have kN:=jd (eB r).1 (by have:=uV hr;omega);unfold aq;generalize eB r=p at*
 obtain⟨s,l,bad⟩:=p;refine iG func70 ntmps70 (fun w0 E0 hG=> ?_);cases bad with
 |true=>
  (repeat' first|intro T hp|refine LW.is (s_Q ?_)|refine am ?_|refine al ?_ ?_|fail)
  all_goals refine gM ?_ ?_
  all_goals rfl
 |false=>
  (repeat' first|intro T hp|refine LW.is (s_Q ?_)|refine am ?_|refine al ?_ ?_|fail)
  all_goals refine gM ?_ ?_
  all_goals rfl
def qD(r:Rd):Ex×Rd:=
 if(ak (aq r).2 [[46]]).1 then(.mk 2 af (aq r).1 (aq (ak (aq r).2 [[46]]).2).1 0 [],(aq (ak (aq r).2 [[46]]).2).2)
 else(.mk 2 af [] (aq r).1 0 [],(ak (aq r).2 [[46]]).2)
def Jv(r:Rd)(hr:C6 r):CallG tD prog 233 [.ptr 1000 0] [(1000,en r)] [(1000,en (qD r).2)] [] (.agg ((qD r).1.cs.map .iv)):=by
 have T:=dH r hr;have k2:=aQ (gs:=tD) (aq r).2 [[46]] hr.name dD;have k3:=dH (ak (aq r).2 [[46]]).2 (hr.name.at _);unfold qD;generalize aq (ak (aq r).2 [[46]]).2=p3 at*
 generalize ak (aq r).2 [[46]] =p2 at*
 generalize aq r=p1 at*
 obtain⟨s1,r1⟩:=p1;obtain⟨b2,r2⟩:=p2;obtain⟨s3,r3⟩:=p3;dsimp only at T k2 k3|-;refine iG func233 ntmps233 (fun w0 E0 hG=> ?_);cases b2 with
 |true=>
  (repeat' first|intro hb hp|refine LW.is (s_Q ?_)|refine DR.is (d_Q ?_)|refine am ?_|refine al ?_ ?_|fail)
  all_goals refine gM ?_ ?_
  all_goals rfl
 |false=>
  (repeat' first|intro hb hp|refine LW.is (s_Q ?_)|refine am ?_|refine al ?_ ?_|fail)
  all_goals refine gM ?_ ?_
  all_goals rfl
end Go.Proofs.Y
namespace Go.Proofs.Y
open Go.Abs
def CO(s:Str):Option Int:=match Lib.atoiAll s with
 | .ok n=>if Lib.itoa n=s/\n<=1000000 then some n else none
 |_=>none
def dj(r:Rd):Int×Rd:=match CO (eB r).1 with
 |some n=>(n,(eB r).2)
 |none=>(0,⟨(eB r).2.l,true⟩)
def uJ(s:Str):A3:=⟨2,0,(s.drop 1).take (s.length - 2)⟩
def kM(r:Rd):(A3×Bool)×Rd:=
 if(ak r [[110,117,108,108]]).1 then((af,true),(ak r [[110,117,108,108]]).2)
 else if(ak r [[45]]).1 then((⟨1,-(dj (ak r [[45]]).2).1,[]⟩,true),(dj (ak r [[45]]).2).2)
 else if r.front≠ [] /\lb (r.front.headD 0)=true then((⟨1,(dj r).1,[]⟩,true),(dj r).2)
 else if r.front≠ [] /\r.front.headD 0=39 then((uJ r.front,true),⟨(eB r).2.l,(eB r).2.bad|| !au (uJ r.front)⟩)
 else((af,false),r)
def xp(r:Rd):Ex×Rd:=(nilE,⟨r.l,true⟩)
def Bm(op:Int)(a b:Ex):Ex:= .mk op af [] [] 0 [a,b]
def ex1(op:Int)(a:Ex):Ex:= .mk op af [] [] 0 [a]
def qe(T:Rd->Ex×Rd)(r:Rd):Ex×Rd:=
 if r.bad then xp r
 else if(ak r [[40]]).1 then((T (ak r [[40]]).2).1,aL (T (ak r [[40]]).2).2 [[41]])
 else if(kM r).1.2 then(.mk 1 (kM r).1.1 [] [] 0 [],(kM r).2)
 else qD r
def lZ(atom:Rd->Ex×Rd):Nat->Ex->Rd->Ex×Rd
 |0,e,r=>(e,r)
 |n+1,e,r=>
  if r.bad then(e,r)
  else if(ak r [[43]]).1 then lZ atom n (Bm 3 e (atom (ak r [[43]]).2).1) (atom (ak r [[43]]).2).2
  else if(ak r [[45]]).1 then lZ atom n (Bm 4 e (atom (ak r [[45]]).2).1) (atom (ak r [[45]]).2).2
  else(e,r)
def AC(atom:Rd->Ex×Rd)(r:Rd):Ex×Rd:=lZ atom ((atom r).2.l.length+1) (atom r).1 (atom r).2
def pZ(T sum:Rd->Ex×Rd)(r:Rd):Ex×Rd:=
 if r.bad then xp r
 else if(ak r [[110,111,116]]).1 then(ex1 9 (T (ak r [[110,111,116]]).2).1,(T (ak r [[110,111,116]]).2).2)
 else if(ak (sum r).2 [[105,115],[110,117,108,108]]).1 then(ex1 10 (sum r).1,(ak (sum r).2 [[105,115],[110,117,108,108]]).2)
 else if(ak (sum r).2 [[61]]).1 then(Bm 5 (sum r).1 (sum (ak (sum r).2 [[61]]).2).1,(sum (ak (sum r).2 [[61]]).2).2)
 else if(ak (sum r).2 [[60]]).1 then(Bm 6 (sum r).1 (sum (ak (sum r).2 [[60]]).2).1,(sum (ak (sum r).2 [[60]]).2).2)
 else sum r
def gw(op:Int)(w:Str)(sub:Rd->Ex×Rd):Nat->Ex->Rd->Ex×Rd
 |0,e,r=>(e,r)
 |n+1,e,r=>
  if r.bad then(e,r)
  else if(ak r [w]).1 then gw op w sub n (Bm op e (sub (ak r [w]).2).1) (sub (ak r [w]).2).2
  else(e,r)
def nY(op:Int)(w:Str)(sub:Rd->Ex×Rd)(r:Rd):Ex×Rd:=gw op w sub ((sub r).2.l.length+1) (sub r).1 (sub r).2
def My(test:Rd->Ex×Rd):Rd->Ex×Rd:=nY 7 [97,110,100] test
def Mx(test:Rd->Ex×Rd):Rd->Ex×Rd:=nY 8 [111,114] (My test)
def Lv:Nat->Rd->Ex×Rd
 |0=>xp
 |k+1=>pZ (Lv k) (AC (qe (Mx (Lv k))))
def ma(k:Nat):Rd->Ex×Rd:=Mx (Lv k)
structure Sf (r r':Rd):Prop where
 h:r'.l<:+r.l
def Sf.refl(r:Rd):Sf r r:=⟨List.suffix_refl _⟩
def Sf.trans{a b c:Rd}(h:Sf a b)(k:Sf b c):Sf a c:=⟨k.h.trans h.h⟩
def Sf.ok{r r':Rd}(h:Sf r r')(k:C6 r):C6 r':=⟨Nat.le_trans h.h.length_le k.n,fun s hs=>k.w s (h.h.subset hs)⟩
def Sf.le{r r':Rd}(h:Sf r r'):r'.l.length<=r.l.length:=h.h.length_le
def Sf.mark(r:Rd)(b:Bool):Sf r ⟨r.l,b⟩:=⟨List.suffix_refl _⟩
def Sf.to{r r':Rd}(h:Sf r r')(b:Bool):Sf r ⟨r'.l,b⟩:=⟨h.h⟩
def tM(r:Rd):Sf r (eB r).2:=by
 unfold eB;split
 · exact .mark r true
 · exact⟨List.drop_suffix _ _⟩
def aW(r:Rd)(ws:List Str):Sf r (ak r ws).2:=by
 unfold ak;split
 · exact .refl r
 · split
   · exact⟨List.drop_suffix _ _⟩
   · exact .refl r
def lS{r:Rd}{ws:List Str}(h:(ak r ws).1=true)(T:ws≠ []):(ak r ws).2.l.length<r.l.length:=by
 unfold ak at h|-;split at h
 · cases h
 · rename_i h1;rw[if_neg h1];split at h
   · rename_i h2;rw[if_pos h2];have:0<ws.length:=gU T;simp only[lD];omega
   · cases h
def bI(r:Rd)(ws:List Str):Sf r (aL r ws):=by
 unfold aL;split
 · exact aW r ws
 · exact(aW r ws).to true
def bw(r:Rd):Sf r (aq r).2:=(tM r).to _
def Lm(r:Rd):Sf r (qD r).2:=by
 unfold qD;split
 · exact((bw r).trans (aW _ _)).trans (bw _)
 · exact(bw r).trans (aW _ _)
def rD(r:Rd):Sf r (dj r).2:=by
 unfold dj;split
 · exact tM r
 · exact(tM r).to true
def Ln(r:Rd):Sf r (kM r).2:=by
 unfold kM;split
 · exact aW r _
 split
 · exact(aW r _).trans (rD _)
 split
 · exact rD r
 split
 · exact(tM r).to _
 · exact .refl r
def jH(f:Rd->Ex×Rd):Prop:= ∀r,Sf r (f r).2
def oE:jH xp:=fun r=> .mark r true
def mU{o:Rd->Ex×Rd}(h:jH o):jH (qe o):=fun r=>by
 unfold qe;split
 · exact oE r
 split
 · exact((aW r _).trans (h _)).trans (bI _ _)
 split
 · exact Ln r
 · exact Lm r
def sn{a:Rd->Ex×Rd}(h:jH a): ∀(n:Nat) (e:Ex) (r:Rd),Sf r (lZ a n e r).2
 |0,e,r=> .refl r
 |n+1,e,r=>by
  unfold lZ;split
  · exact .refl r
  split
  · exact((aW r _).trans (h _)).trans (sn h n _ _)
  split
  · exact((aW r _).trans (h _)).trans (sn h n _ _)
  · exact .refl r
def vE{a:Rd->Ex×Rd}(h:jH a):jH (AC a):=fun r=>(h r).trans (sn h _ _ _)
def FI{t s:Rd->Ex×Rd}(ht:jH t)(hs:jH s):jH (pZ t s):=fun r=>by
 unfold pZ;split
 · exact oE r
 split
 · exact(aW r _).trans (ht _)
 split
 · exact(hs r).trans (aW _ _)
 split
 · exact((hs r).trans (aW _ _)).trans (hs _)
 split
 · exact((hs r).trans (aW _ _)).trans (hs _)
 · exact hs r
def vF{op:Int}{w:Str}{s:Rd->Ex×Rd}(h:jH s): ∀(n:Nat) (e:Ex) (r:Rd),Sf r (gw op w s n e r).2
 |0,e,r=> .refl r
 |n+1,e,r=>by
  unfold gw;split
  · exact .refl r
  split
  · exact((aW r _).trans (h _)).trans (vF h n _ _)
  · exact .refl r
def dQ{op:Int}{w:Str}{s:Rd->Ex×Rd}(h:jH s):jH (nY op w s):=fun r=>(h r).trans (vF h _ _ _)
def jF: ∀k,jH (Lv k)
 |0=>oE
 |k+1=>FI (jF k) (vE (mU (dQ (dQ (jF k)))))
def ff(k:Nat):jH (ma k):=dQ (dQ (jF k))
def GJ{a b:UInt8}:a<b↔a.toNat<b.toNat:=UInt8.lt_iff_toNat_lt
def BU{a b:Int}(h0:0<=a)(h1:a<b)(h2:b<4294967296)(x y:List UInt8):Op.bytesLess (Ce a++x) (Ce b++y)=true:=by
 have a0:=jC (n:=a / 16777216) C;have a1:=jC (n:=a / 65536) C;have a2:=jC (n:=a / 256) C;have a3:=jC (n:=a) C;have b0:=jC (n:=b / 16777216) C;have b1:=jC (n:=b / 65536) C;have b2:=jC (n:=b / 256) C;have b3:=jC (n:=b) C;simp only[Ce,List.cons_append,List.nil_append,Op.bytesLess];generalize u8 (a / 16777216)=c0 at*
 generalize u8 (a / 65536)=c1 at*
 generalize u8 (a / 256)=c2 at*
 generalize u8 a=c3 at*
 generalize u8 (b / 16777216)=d0 at*
 generalize u8 (b / 65536)=d1 at*
 generalize u8 (b / 256)=d2 at*
 generalize u8 b=d3 at*
 have ha:a=16777216*(c0.toNat:Int)+65536*c1.toNat+256*c2.toNat+c3.toNat:=C;have hb:b=16777216*(d0.toNat:Int)+65536*d1.toNat+256*d2.toNat+d3.toNat:=C;clear a0 a1 a2 a3 b0 b1 b2 b3;have e0:=c0.toNat_lt;have e1:=c1.toNat_lt;have e2:=c2.toNat_lt;have e3:=c3.toNat_lt;have g0:=d0.toNat_lt;have g1:=d1.toNat_lt;have g2:=d2.toNat_lt;have g3:=d3.toNat_lt;have key:c0.toNat<d0.toNat\/c0.toNat=d0.toNat/\(c1.toNat<d1.toNat\/c1.toNat=d1.toNat/\(c2.toNat<d2.toNat\/c2.toNat=d2.toNat/\c3.toNat<d3.toNat)):=C;simp only[Bool.or_eq_true,aE,decide_eq_true_eq,beq_iff_eq,GJ];rcases key with h|⟨h,h'|⟨h',T|⟨T,h3⟩⟩⟩
 · exact .inl h
 · exact .inr ⟨UInt8.toNat_inj.1 h,.inl h'⟩
 · exact .inr ⟨UInt8.toNat_inj.1 h,.inr ⟨UInt8.toNat_inj.1 h',.inl T⟩⟩
 · exact .inr ⟨UInt8.toNat_inj.1 h,.inr ⟨UInt8.toNat_inj.1 h',.inr ⟨UInt8.toNat_inj.1 T,.inl h3⟩⟩⟩
def rv: ∀{s t:List UInt8},t.all iI=true->Op.bytesLess s t=true-> ∀x y,Op.bytesLess (s++0::x) (t++0::y)=true
 |_,[],_,h,x,y=>by simp[Op.bytesLess] at h
 | [],b::t,ht,_,x,y=>by
   simp only[List.all_cons,aE] at ht;have T:(0:UInt8)<b:=by
    rw[GJ];have:=ht.1;simp[iI] at this;have e:(0:UInt8).toNat=0:=rfl;omega
   simp[Op.bytesLess,T]
 |a::s,b::t,ht,h,x,y=>by
  simp only[List.all_cons,aE] at ht;simp only[Op.bytesLess,Bool.or_eq_true,aE,List.cons_append] at h|-;exact h.imp id (fun⟨h1,h2⟩=>⟨h1,rv ht.2 h2 x y⟩)
def AP(x:List UInt8):Op.bytesLess x x=false:=by rw[iy];simp[List.lt_irrefl]
def CP{x y:List UInt8}(h:Op.bytesLess x y=true):Op.bytesLess y x=false:=by
 rw[iy] at h|-;simp only[decide_eq_true_eq,decide_eq_false_iff_not] at h|-;exact List.lt_asymm h
def ve{x y:List UInt8}(h:Op.bytesLess x y=false)(T:Op.bytesLess y x=false):x=y:=by
 rw[iy] at h T;simp only[decide_eq_false_iff_not] at h T;exact List.le_antisymm (List.not_lt.1 T) (List.not_lt.1 h)
def HN(z:List UInt8){x y:List UInt8}:Op.bytesLess (z++x) (z++y)=Op.bytesLess x y:=by
 induction z with
 |nil=>rfl
 |cons a z T=>
  simp only[List.cons_append,Op.bytesLess,T];have: ¬a<a:=by rw[GJ];omega
  simp[this]
def sv(a:Int):fK a a=0:=by simp[fK]
def su(a:List UInt8):lq a a=0:=by simp[lq,AP]
def zw{v w:A3}(hv:au v=true)(hw:au w=true):v=w/\cA v w=0\/(cA v w= -1/\ ∀x y,Op.bytesLess (bZ v++x) (bZ w++y)=true)\/(cA v w=1/\ ∀x y,Op.bytesLess (bZ w++y) (bZ v++x)=true):=by
 rcases no hv with rfl|⟨n,rfl,h0,h1⟩|⟨s,rfl,hl,hs⟩<;>rcases no hw with rfl|⟨m,rfl,k0,k1⟩|⟨t,rfl,kl,ks⟩
 · left;exact⟨rfl,by simp[cA,sv,su,tC]⟩
 · right;left;rw[pt,lH]
   exact⟨by simp[cA,tC,fK],fun x y=>by simp[Op.bytesLess]⟩
 · right;left;rw[pt,lG]
   exact⟨by simp[cA,tC,fK],fun x y=>by simp[Op.bytesLess]⟩
 · right;right;rw[pt,lH]
   exact⟨by simp[cA,tC,fK],fun x y=>by simp[Op.bytesLess]⟩
 · rw[lH,lH];by_cases h:n=m
   · subst h;left;exact⟨rfl,by simp[cA,sv,su,tC]⟩
   · by_cases T:n<m
     · right;left
       refine⟨by simp[cA,tC,fK,T],fun x y=> ?_⟩;have:=BU (a:=n+1073741824) (b:=m+1073741824) C C C x y;simp only[List.cons_append,Op.bytesLess,this];simp
     · right;right
       have ad:m<n:=C;refine⟨by simp[cA,tC,fK,T,ad],fun x y=> ?_⟩;have:=BU (a:=m+1073741824) (b:=n+1073741824) C C C y x;simp only[List.cons_append,Op.bytesLess,this];simp
 · right;left;rw[lH,lG]
   exact⟨by simp[cA,tC,fK],fun x y=>by simp[Op.bytesLess]⟩
 · right;right;rw[pt,lG]
   exact⟨by simp[cA,tC,fK],fun x y=>by simp[Op.bytesLess]⟩
 · right;right;rw[lH,lG]
   exact⟨by simp[cA,tC,fK],fun x y=>by simp[Op.bytesLess]⟩
 · rw[lG,lG];cases h:Op.bytesLess s t with
   |true=>
    right;left
    refine⟨by simp[cA,tC,fK,lq,h],fun x y=> ?_⟩;have:=rv ks h x y;simp only[List.cons_append,List.append_assoc,List.nil_append,Op.bytesLess,this];simp
   |false=>
    cases T:Op.bytesLess t s with
    |true=>
     right;right
     refine⟨by simp[cA,tC,fK,lq,h,T],fun x y=> ?_⟩;have:=rv hs T y x;simp only[List.cons_append,List.append_assoc,List.nil_append,Op.bytesLess,this];simp
    |false=>
     obtain rfl:=ve h T;left;exact⟨rfl,by simp[cA,sv,su,tC]⟩
def Bk{x:IV}(h:F0 book .str x): ∃s:Str,x=S s:=by
 obtain⟨s,rfl,_⟩:=h.str_inv;exact⟨s,rfl⟩
def zl{xs:List IV}(h:Fits book [.str] xs): ∃s:Str,xs=Str.c s:=by
 obtain⟨x,r,rfl,h1,h2⟩:=h.cons_inv;obtain rfl:=h2.nil_inv;obtain⟨s,rfl⟩:=Bk h1;exact⟨s,rfl⟩
def oA{x:IV}(h:F0 book (.sl 72) x): ∃l:List Str,x= .sl (l.map Str.c)/\l.length<=140737488355328:=by
 obtain⟨es,rfl,hl,he⟩:=h.sl_inv (n:=16) (cts:= [.str]) U;obtain⟨vs,rfl,T⟩:=HL (f:=Str.c) (Q:=fun _ _=>True) (fun e h=>by
  obtain⟨s,hs⟩:=zl (he e h);exact⟨s,hs,trivial⟩)
 rw[lM] at hl;have:reachBytes<=2251799813685248:=by decide
 exact⟨vs,rfl,by omega⟩
end Go.Proofs.Y
namespace Go.Proofs.Y
open Go.Abs Go.Proofs.Tryz
open Go.RowKit (Below)
attribute [local irreducible] L Code.wp bodyPost Exit.then Exit.inBlock
variable [C3]
def Ja(s:Str)(res:AV):Prop:=(∃v,Lib.atoiAll s= .ok v/\res= .tup [aI v,.iv (.im .nilIface)])\/((∀v,Lib.atoiAll s≠ .ok v)/\ ∃x te pe,res= .tup [aI x,.iv (.im (.iface te pe))])
theorem DD(s:Str)(hs:s.length<=1000000)(E:B9)(w:World)(us:List Value)(hr:RelL E w [aS s] us)(hG:Glob cH E w):
 Calls prog 106 us.toArray w fun e w'=> ∃res u,Ja s res/\e= .returned u/\A6 E w' res u/\Below w.heap.size w w':=by
 rw[hr.im1]
 have T:(⟨s.toArray⟩:ByteArray).size=s.length:=by simp[ByteArray.size]
 have hl:(⟨s.toArray⟩:ByteArray).data.toList=s:=rfl
 cases h:Lib.atoiAll s with
 |ok v=>
  refine(Any.strconv_Atoi_ok laysAtoi ⟨s.toArray⟩ (by rw[T];omega) v (by rw[hl];exact h) w).mono ?_
  rintro e w' ⟨rfl,hw⟩
  refine⟨_,_,.inl ⟨v,h,rfl⟩,rfl,A6.tup2 (.im rfl) (.im rfl),?_⟩
  rcases hw with rfl|⟨t,rfl⟩
  · exact Below.refl _ _
  · exact Lib.bytesWorld_below _ _ _
 |range=>
  refine(Any.strconv_Atoi_range laysAtoi ⟨s.toArray⟩ (by rw[T];omega) (by rw[hl];exact h) C3.r w (hG.one MD) C3.hr).mono ?_
  rintro e w' ⟨N,rfl,_,_,hb⟩
  exact⟨_,_,.inr ⟨fun v e=>(by rw[h] at e;cases e),_,_,_,rfl⟩,rfl,A6.tup2 (.im rfl) (.im rfl),hb⟩
 |_=>
  refine(Any.strconv_Atoi_syntax laysAtoi ⟨s.toArray⟩ (by rw[T];omega) (by rw[hl];exact h) C3.s w (hG.one MC) C3.hs).mono ?_
  rintro e w' ⟨N,rfl,_,_,hb⟩
  exact⟨_,_,.inr ⟨fun v e=>(by rw[h] at e;cases e),_,_,_,rfl⟩,rfl,A6.tup2 (.im rfl) (.im rfl),hb⟩
theorem HS(n:Int)(h0: -9223372036854775808<=n)(h1:n<=9223372036854775807):CallG cH prog 107 [aI n] [] [] [] (aS (Lib.itoa n)):=by
 refine CallG.below rfl (fun E w us hr T=> ?_)
 rw[hr.im1]
 have ht:Lib.TabIs prog w "internal/strconv.uint64pow10" .u64 Lib.pow10Tab:=by
  obtain⟨cs,ty,sp,e1,e2⟩:=T.1.2 _ _ Ld (fun e=>by have:=congrArg List.length e;simp[sN,Lib.pow10Tab_length] at this)
  have hg:Program.globalNamed prog "internal/strconv.uint64pow10" =some 4:=laysItoa.m17
  have:cs=(Lib.pow10Tab.map fun z=>Value.int .u64 z).toArray:=by
   apply Array.ext
   · rw[e2];simp[sN]
   · intro i h1 h2
     have hi:i<Lib.pow10Tab.length:=by simpa using h2
     obtain⟨_,v,c1,c2⟩:=T.2 _ _ Ld i _ (by rw[sN,gP,gG hi];rfl)
     have:=c2.im_eq
     subst this
     simp only[World.cell?,e1] at c1
     simp at c1
     obtain⟨_,c1⟩:=Array.getElem?_eq_some_iff.1 c1
     simpa using c1
  subst this
  simp[Lib.TabIs,World.var?,hg,e1]
 refine(Any.strconv_Itoa laysItoa n h0 h1 w ht).mono ?_
 rintro e w' ⟨rfl,k,os,rfl⟩
 refine⟨rfl,rfl,rfl,rfl,?_,fun j hj=> ?_⟩
 · simp[Go.Sort.grow,World.drewN]
 · simp[Go.Sort.grow,World.drewN,Array.getElem?_append,hj]
instance:H6 prog 168:=⟨kR⟩
theorem DE{s:Str}: ∀res,Ja s res->AV.mentIn [] res=true:=by
 rintro res (⟨v,_,rfl⟩|⟨_,x,te,pe,rfl⟩)<;>rfl
theorem qg(r:Rd)(hr:C6 r):CallG cH prog 81 [.ptr 1000 0] [(1000,en r)] [(1000,en (dj r).2)] [] (aI (dj r).1):=by
 have kn:=uW (gs:=cH) r
 have hl:=uV hr
 unfold dj
 generalize eB r=p at*
 obtain⟨s,l,bad⟩:=p
 dsimp only at kn hl|-
 have kA:=DD s hl
 refine CallG.intro _ func81 rfl ntmps81 rfl (fun w0 E0 hG=> ?_)
 (repeat' (first|(apply Jp (Ja s);rfl;exact hG;exact kA;rfl;exact DE)|(refine LW.is (s_Q ?_))|refine am ?_|refine al (fun T hp=> ?_) (fun T hp=> ?_)|fail))
 rintro res (⟨v,hv,rfl⟩|⟨ad,x,te,pe,rfl⟩)
 · obtain⟨b0,b1⟩:=Lib.atoiAll_bounds hv
   have ki:=HS v b0 b1
   have hN:CO s=if Lib.itoa v=s/\v<=1000000 then some v else none:=by unfold CO;rw[hv]
   by_cases h1:Lib.itoa v=s
   · have q1:(!(Lib.itoa v==s))=false:=by simp[h1]
     by_cases h2:v<=1000000
     · have q2:decide (1000000<v)=false:=decide_eq_false C
       rw[hN,if_pos ⟨h1,h2⟩]
       (repeat' (first|(refine LW.is ?_;first|(apply ag;rfl;apply yt;rfl))|refine am ?_|refine al (fun T hp=> ?_) (fun T hp=> ?_)|fail))
       all_goals refine gM ?_ ?_
       all_goals rfl
     · have q2:decide (1000000<v)=true:=decide_eq_true C
       rw[hN,if_neg (fun h=>h2 h.2)]
       (repeat' (first|(refine LW.is ?_;first|(apply ag;rfl;apply yt;rfl))|refine am ?_|refine al (fun T hp=> ?_) (fun T hp=> ?_)|fail))
       all_goals refine gM ?_ ?_
       all_goals rfl
   · have q1:(!(Lib.itoa v==s))=true:=by simp[h1]
     rw[hN,if_neg (fun h=>h1 h.1)]
     (repeat' (first|(refine LW.is ?_;first|(apply ag;rfl;apply yt;rfl))|refine am ?_|refine al (fun T hp=> ?_) (fun T hp=> ?_)|fail))
     all_goals refine gM ?_ ?_
     all_goals rfl
 · have hN:CO s=none:=by
    unfold CO
    split
    · rename_i v hv;exact absurd hv (ad v)
    · rfl
   rw[hN]
   (repeat' (first|(refine LW.is ?_;first|(apply ag;rfl;apply Jf;rfl))|refine am ?_|refine al (fun T hp=> ?_) (fun T hp=> ?_)|fail))
   all_goals refine gM ?_ ?_
   all_goals rfl
end Go.Proofs.Y
namespace Go.Abs
def Lg{c:C7}{st Fc:St}(h:Wk c st Fc:=by(refine Wk.mk' (by intro id h;simp[keys] at h;subst h;rfl) ?_ ?_ ?_<;>repeat' (first|exact E6.nil|exact E3.nil|exact F9.nil|(refine E6.cons rfl (Sub.refl _) ?_)|(refine E3.cons rfl rfl (Subs.refl _) ?_)|(refine F9.cons rfl ?_)))):Wk c st Fc:=h
end Go.Abs
namespace Go.Proofs.Y
open Go.Abs Go.Proofs.Tryz
attribute [local irreducible] L Code.wp bodyPost Exit.then Exit.inBlock
variable [C3]
def fB(f:FuncId)(d:Int)(m:Rd->Ex×Rd):Prop:= ∀r,C6 r->CallG cH prog f [.ptr 1000 0,aI d] [(1000,en r)] [(1000,en (m r).2)] [] (.agg ((m r).1.cs.map .iv))
def tJ{N:Nat}(op:Int)(a b:Ex):Subs [aI op,aI 0,aI 0,aS [],aS [],aS [],aI 0,.row N [a.cs,b.cs]] ((Bm op a b).cs.map .iv):=by
 refine .cons fR (.cons fR (.cons fR (.cons fR (.cons fR (.cons fR (.cons fR (.cons (Sub.trans (Sub.row _ _) (Sub.of_eq ?_)) .nil)))))));show AV.iv (.sl [a.cs,b.cs])= .iv (.sl ([a,b].map Ex.c));rw[List.map_cons,List.map_cons,aN,aN];rfl
def cC{r:Rd}{ws:List Str}(h:(ak r ws).1=false):(ak r ws).2=r:=by
 unfold ak at h|-;split
 · rfl
 · rename_i h1;rw[if_neg h1] at h;split
   · rename_i h2;rw[if_pos h2] at h;cases h
   · rfl
abbrev FX:A5:=⟨78,.l [aI 0,aI 0,aI 0,aS [],aS [],aS [],aI 0,.nils]⟩
def Jl{d:Int}{f:Rd->Ex×Rd}(hf:jH f)(ka:fB 211 d f):fB 184 d (AC f):=by
 intro r hr;have k0:=ka r hr;have aR:=(hf r).ok hr;unfold AC;generalize hW:lZ f ((f r).2.l.length+1) (f r).1 (f r).2=W;refine iG func184 ntmps184 (fun w0 E0 hG=> ?_);(repeat' first|intro hb hp|refine LW.is (s_Q ?_)|refine am ?_|refine al ?_ ?_|fail)
 refine ae (ι:=Nat×Ex×Rd) (fun i=>⟨[(5,.ptr 5 0),(4,.ptr 4 0),(1,aI d),(0,.ptr 1000 0)],[(1000,en i.2.2),(5,⟨78,.l (i.2.1.cs.map .iv)⟩),(4,FX)],[]⟩) (fun i=>i.1) (fun i=>lZ f i.1 i.2.1 i.2.2=W/\i.2.2.l.length<i.1/\C6 i.2.2) (i0:=((f r).2.l.length+1,(f r).1,(f r).2)) ?_ ⟨hW,Nat.lt_succ_self _,aR⟩ ?_
 · exact Lg
 clear hW k0 aR hr;rintro ⟨n,e,r⟩ ⟨T,hn,hr⟩ K hK;dsimp only at T hn hr hK|-;cases n with
 |zero=>omega
 |succ n=>
 unfold lZ at T;cases hb:r.bad with
 |true=>
  rw[if_pos hb] at T;subst T;have q:(!r.bad)=false:=by rw[hb];rfl
  refine wz ?_;all_goals refine gM ?_ ?_
  all_goals rfl
 |false=>
  rw[if_neg (by rw[hb];decide)] at T;have q:(!r.bad)=true:=by rw[hb];rfl
  have k1:=aQ (gs:=cH) r [[43]] hr dD;cases h1:(ak r [[43]]).1 with
  |true=>
   rw[if_pos h1] at T;have hl:=lS h1 dD;have h2:=ka (ak r [[43]]).2 ((aW r _).ok hr);have hs:=hf (ak r [[43]]).2;have ad:=hs.ok ((aW r _).ok hr);have ar:=hs.le;rw[h1] at k1;generalize f (ak r [[43]]).2=p at*
   generalize (ak r [[43]]).2=r1 at*
   obtain⟨x,r2⟩:=p;dsimp only at h2 T ad ar;(repeat' first|intro hb hp|refine LW.is (s_Q ?_)|refine DR.is (d_Q ?_)|refine am ?_|refine al ?_ ?_|fail)
   exact hK _ (n,Bm 3 e x,r2) ⟨T,by dsimp only;omega,ad⟩ (Nat.lt_succ_self _) (Wk.mk' kK F4 (wB (.cons U U (tJ 3 e x) B1)) .nil)
  |false=>
   rw[if_neg (by rw[h1];decide)] at T;rw[h1,cC h1] at k1;have k2:=aQ (gs:=cH) r [[45]] hr dD;cases h3:(ak r [[45]]).1 with
   |true=>
    rw[if_pos h3] at T;have hl:=lS h3 dD;have h2:=ka (ak r [[45]]).2 ((aW r _).ok hr);have hs:=hf (ak r [[45]]).2;have ad:=hs.ok ((aW r _).ok hr);have ar:=hs.le;rw[h3] at k2;generalize f (ak r [[45]]).2=p at*
    generalize (ak r [[45]]).2=r1 at*
    obtain⟨x,r2⟩:=p;dsimp only at h2 T ad ar;(repeat' first|intro hb hp|refine LW.is (s_Q ?_)|refine DR.is (d_Q ?_)|refine am ?_|refine al ?_ ?_|fail)
    exact hK _ (n,Bm 4 e x,r2) ⟨T,by dsimp only;omega,ad⟩ (Nat.lt_succ_self _) (Wk.mk' kK F4 (wB (.cons U U (tJ 4 e x) B1)) .nil)
   |false=>
    rw[if_neg (by rw[h3];decide)] at T;subst T;rw[h3,cC h3] at k2;(repeat' first|intro hb hp|refine LW.is (s_Q ?_)|refine am ?_|refine al ?_ ?_|fail)
    all_goals refine gM ?_ ?_
    all_goals rfl
def xo{d:Int}{f:Rd->Ex×Rd}(hf:jH f)(ka:fB 149 d f):fB 105 d (nY 7 [97,110,100] f):=by
 intro r hr;have k0:=ka r hr;have ad:=(hf r).ok hr;unfold nY;generalize hW:gw 7 [97,110,100] f ((f r).2.l.length+1) (f r).1 (f r).2=W;refine iG func105 ntmps105 (fun w0 E0 hG=> ?_);(repeat' first|intro hb hp|refine LW.is (s_Q ?_)|refine am ?_|refine al ?_ ?_|fail)
 refine ae (ι:=Nat×Ex×Rd) (fun i=>⟨[(5,.ptr 5 0),(4,.ptr 4 0),(1,aI d),(0,.ptr 1000 0)],[(1000,en i.2.2),(5,⟨78,.l (i.2.1.cs.map .iv)⟩),(4,FX)],[]⟩) (fun i=>i.1) (fun i=>gw 7 [97,110,100] f i.1 i.2.1 i.2.2=W/\i.2.2.l.length<i.1/\C6 i.2.2) (i0:=((f r).2.l.length+1,(f r).1,(f r).2)) ?_ ⟨hW,Nat.lt_succ_self _,ad⟩ ?_
 · exact Lg
 clear hW k0 ad hr;rintro ⟨n,e,r⟩ ⟨T,hn,hr⟩ K hK;dsimp only at T hn hr hK|-;cases n with
 |zero=>omega
 |succ n=>
 unfold gw at T;cases hb:r.bad with
 |true=>
  rw[if_pos hb] at T;subst T;have q:(!r.bad)=false:=by rw[hb];rfl
  refine wz ?_;all_goals refine gM ?_ ?_
  all_goals rfl
 |false=>
  rw[if_neg (by rw[hb];decide)] at T;have q:(!r.bad)=true:=by rw[hb];rfl
  have k1:=aQ (gs:=cH) r [[97,110,100]] hr dD;cases h1:(ak r [[97,110,100]]).1 with
  |true=>
   rw[if_pos h1] at T;have hl:=lS h1 dD;have h2:=ka (ak r [[97,110,100]]).2 ((aW r _).ok hr);have hs:=hf (ak r [[97,110,100]]).2;have ar:=hs.ok ((aW r _).ok hr);have aR:=hs.le;rw[h1] at k1;generalize f (ak r [[97,110,100]]).2=p at*
   generalize (ak r [[97,110,100]]).2=r1 at*
   obtain⟨x,r2⟩:=p;dsimp only at h2 T ar aR;(repeat' first|intro hb hp|refine LW.is (s_Q ?_)|refine DR.is (d_Q ?_)|refine am ?_|refine al ?_ ?_|fail)
   exact hK _ (n,Bm 7 e x,r2) ⟨T,by dsimp only;omega,ar⟩ (Nat.lt_succ_self _) (Wk.mk' kK F4 (wB (.cons U U (tJ 7 e x) B1)) .nil)
  |false=>
   rw[if_neg (by rw[h1];decide)] at T;subst T;rw[h1,cC h1] at k1;(repeat' first|intro hb hp|refine LW.is (s_Q ?_)|refine am ?_|refine al ?_ ?_|fail)
   all_goals refine gM ?_ ?_
   all_goals rfl
def AB{d:Int}{f:Rd->Ex×Rd}(hf:jH f)(ka:fB 105 d f):fB 76 d (nY 8 [111,114] f):=by
 intro r hr;have k0:=ka r hr;have ad:=(hf r).ok hr;unfold nY;generalize hW:gw 8 [111,114] f ((f r).2.l.length+1) (f r).1 (f r).2=W;refine iG func76 ntmps76 (fun w0 E0 hG=> ?_);(repeat' first|intro hb hp|refine LW.is (s_Q ?_)|refine am ?_|refine al ?_ ?_|fail)
 refine ae (ι:=Nat×Ex×Rd) (fun i=>⟨[(5,.ptr 5 0),(4,.ptr 4 0),(1,aI d),(0,.ptr 1000 0)],[(1000,en i.2.2),(5,⟨78,.l (i.2.1.cs.map .iv)⟩),(4,FX)],[]⟩) (fun i=>i.1) (fun i=>gw 8 [111,114] f i.1 i.2.1 i.2.2=W/\i.2.2.l.length<i.1/\C6 i.2.2) (i0:=((f r).2.l.length+1,(f r).1,(f r).2)) ?_ ⟨hW,Nat.lt_succ_self _,ad⟩ ?_
 · exact Lg
 clear hW k0 ad hr;rintro ⟨n,e,r⟩ ⟨T,hn,hr⟩ K hK;dsimp only at T hn hr hK|-;cases n with
 |zero=>omega
 |succ n=>
 unfold gw at T;cases hb:r.bad with
 |true=>
  rw[if_pos hb] at T;subst T;have q:(!r.bad)=false:=by rw[hb];rfl
  refine wz ?_;all_goals refine gM ?_ ?_
  all_goals rfl
 |false=>
  rw[if_neg (by rw[hb];decide)] at T;have q:(!r.bad)=true:=by rw[hb];rfl
  have k1:=aQ (gs:=cH) r [[111,114]] hr dD;cases h1:(ak r [[111,114]]).1 with
  |true=>
   rw[if_pos h1] at T;have hl:=lS h1 dD;have h2:=ka (ak r [[111,114]]).2 ((aW r _).ok hr);have hs:=hf (ak r [[111,114]]).2;have ar:=hs.ok ((aW r _).ok hr);have aR:=hs.le;rw[h1] at k1;generalize f (ak r [[111,114]]).2=p at*
   generalize (ak r [[111,114]]).2=r1 at*
   obtain⟨x,r2⟩:=p;dsimp only at h2 T ar aR;(repeat' first|intro hb hp|refine LW.is (s_Q ?_)|refine DR.is (d_Q ?_)|refine am ?_|refine al ?_ ?_|fail)
   exact hK _ (n,Bm 8 e x,r2) ⟨T,by dsimp only;omega,ar⟩ (Nat.lt_succ_self _) (Wk.mk' kK F4 (wB (.cons U U (tJ 8 e x) B1)) .nil)
  |false=>
   rw[if_neg (by rw[h1];decide)] at T;subst T;rw[h1,cC h1] at k1;(repeat' first|intro hb hp|refine LW.is (s_Q ?_)|refine am ?_|refine al ?_ ?_|fail)
   all_goals refine gM ?_ ?_
   all_goals rfl
def Im(op:Int)(a:Ex): [I op,I 0,I 0,S [],S [],S [],I 0,.sl [a.cs]] =(ex1 op a).cs:=by
 show _= [I op,I 0,I 0,S [],S [],S [],I 0,.sl ([a].map Ex.c)];rw[List.map_cons,aN];rfl
def Il(op:Int)(a b:Ex): [I op,I 0,I 0,S [],S [],S [],I 0,.sl [a.cs,b.cs]] =(Bm op a b).cs:=by
 show _= [I op,I 0,I 0,S [],S [],S [],I 0,.sl ([a,b].map Ex.c)];rw[List.map_cons,List.map_cons,aN,aN];rfl
def Aa:fB 149 7 xp:=by
 intro r hr;refine iG func149 ntmps149 (fun w0 E0 T=> ?_);refine wz ?_;all_goals refine gM ?_ ?_
 all_goals rfl
def GM{d:Int}(h0:0<=d)(h6:d<=6){t s:Rd->Ex×Rd}(hs:jH s)(kt:fB 149 (d+1) t)(ks:fB 184 d s):fB 149 d (pZ t s):=by
 intro r hr;have qd:decide (6<d)=false:=decide_eq_false C;refine iG func149 ntmps149 (fun w0 E0 hG=> ?_);unfold pZ;cases hb:r.bad with
 |true=>
  rw[if_pos U];refine wz ?_;all_goals refine gM ?_ ?_
  all_goals rfl
 |false=>
  rw[if_neg dD];have k1:=aQ (gs:=cH) r [[110,111,116]] hr dD;cases h1:(ak r [[110,111,116]]).1 with
  |true=>
   rw[if_pos U];have k2:=kt (ak r [[110,111,116]]).2 ((aW r _).ok hr);rw[h1] at k1;generalize t (ak r [[110,111,116]]).2=p at*
   generalize (ak r [[110,111,116]]).2=T at*
   obtain⟨x,r2⟩:=p;dsimp only at k2|-;rw[<-Im];(repeat' first|intro hb hp|refine LW.is (s_Q ?_)|refine am ?_|refine al ?_ ?_|fail)
   all_goals refine gM ?_ ?_
   all_goals rfl
  |false=>
   rw[if_neg dD];rw[h1,cC h1] at k1;have k2:=ks r hr;have ad:=(hs r).ok hr;generalize s r=p at*
   obtain⟨e,T⟩:=p;dsimp only at k2 ad|-;have k3:=aQ (gs:=cH) T [[105,115],[110,117,108,108]] ad dD;cases h3:(ak T [[105,115],[110,117,108,108]]).1 with
   |true=>
    rw[if_pos U];rw[h3] at k3;generalize (ak T [[105,115],[110,117,108,108]]).2=r2 at*
    dsimp only;rw[<-Im];(repeat' first|intro hb hp|refine LW.is (s_Q ?_)|refine am ?_|refine al ?_ ?_|fail)
    all_goals refine gM ?_ ?_
    all_goals rfl
   |false=>
   rw[if_neg dD];rw[h3,cC h3] at k3;have k4:=aQ (gs:=cH) T [[61]] ad dD;cases h4:(ak T [[61]]).1 with
   |true=>
    rw[if_pos U];have kz:=ks (ak T [[61]]).2 ((aW T _).ok ad);rw[h4] at k4;generalize s (ak T [[61]]).2=p at*
    generalize (ak T [[61]]).2=r2 at*
    obtain⟨x,r3⟩:=p;dsimp only at kz|-;rw[<-Il];(repeat' first|intro hb hp|refine LW.is (s_Q ?_)|refine DR.is (d_Q ?_)|refine am ?_|refine al ?_ ?_|fail)
    all_goals refine gM ?_ ?_
    all_goals rfl
   |false=>
   rw[if_neg dD];rw[h4,cC h4] at k4;have k5:=aQ (gs:=cH) T [[60]] ad dD;cases h5:(ak T [[60]]).1 with
   |true=>
    rw[if_pos U];have kz:=ks (ak T [[60]]).2 ((aW T _).ok ad);rw[h5] at k5;generalize s (ak T [[60]]).2=p at*
    generalize (ak T [[60]]).2=r2 at*
    obtain⟨x,r3⟩:=p;dsimp only at kz|-;rw[<-Il];(repeat' first|intro hb hp|refine LW.is (s_Q ?_)|refine DR.is (d_Q ?_)|refine am ?_|refine al ?_ ?_|fail)
    all_goals refine gM ?_ ?_
    all_goals rfl
   |false=>
   rw[if_neg dD];rw[h5,cC h5] at k5;(repeat' first|intro hb hp|refine LW.is (s_Q ?_)|refine am ?_|refine al ?_ ?_|fail)
   all_goals refine gM ?_ ?_
   all_goals rfl
def ER:Prop:= ∀r,C6 r->CallG cH prog 232 [.ptr 1000 0] [(1000,en r)] [(1000,en (kM r).2)] [] (.tup [.agg ((kM r).1.1.c.map .iv),.iv (B (kM r).1.2)])
def LF{r:Rd}(h:(kM r).1.2=false):(kM r).2=r:=by
 unfold kM at h|-;repeat' split at h
 all_goals first|(cases h;done)|skip
 rename_i h1 h2 h3 h4;rw[if_neg h1,if_neg h2,if_neg h3,if_neg h4]
def IS{d:Int}(h0:0<=d)(h6:d<=6){o:Rd->Ex×Rd}(ho:jH o)(kl:ER)(ko:fB 76 (d+1) o):fB 211 d (qe o):=by
 intro r hr;have qd:decide (6<d)=false:=decide_eq_false C;refine iG func211 ntmps211 (fun w0 E0 hG=> ?_);unfold qe;cases hb:r.bad with
 |true=>
  rw[if_pos U];refine wz ?_;all_goals refine gM ?_ ?_
  all_goals rfl
 |false=>
  rw[if_neg dD];have k1:=aQ (gs:=cH) r [[40]] hr dD;cases h1:(ak r [[40]]).1 with
  |true=>
   rw[if_pos U];have hk:=(aW r [[40]]).ok hr;have T:=ko (ak r [[40]]).2 hk;have ad:=(ho (ak r [[40]]).2).ok hk;have k3:=du (gs:=cH) (o (ak r [[40]]).2).2 [[41]] ad dD;rw[h1] at k1;generalize aL (o (ak r [[40]]).2).2 [[41]] =r3 at*
   generalize o (ak r [[40]]).2=p at*
   generalize (ak r [[40]]).2=r1 at*
   obtain⟨x,r2⟩:=p;dsimp only at T k3|-;(repeat' first|intro hb hp|refine LW.is (s_Q ?_)|refine am ?_|refine al ?_ ?_|fail)
   all_goals refine gM ?_ ?_
   all_goals rfl
  |false=>
   rw[if_neg dD];rw[h1,cC h1] at k1;have T:=kl r hr;cases h2:(kM r).1.2 with
   |true=>
    rw[if_pos U];rw[h2] at T;generalize (kM r).1.1=v at*
    generalize (kM r).2=r2 at*
    (repeat' first|intro hb hp|refine LW.is (s_Q ?_)|refine am ?_|refine al ?_ ?_|fail)
    all_goals refine gM ?_ ?_
    all_goals rfl
   |false=>
    rw[if_neg dD];rw[h2,LF h2] at T;have k3:=Cc (Jv r hr);generalize qD r=p at*
    obtain⟨x,r2⟩:=p;dsimp only at k3|-;(repeat' first|intro hb hp|refine LW.is (s_Q ?_)|refine am ?_|refine al ?_ ?_|fail)
    all_goals refine gM ?_ ?_
    all_goals rfl
end Go.Proofs.Y
namespace Go.Proofs.Y
open Go.Abs
attribute [local irreducible] L Code.wp bodyPost Exit.then Exit.inBlock
variable [C3]
def Hu(T:ER): ∀(k:Nat),k<=6->fB 149 (7 - (k:Int)) (Lv k)/\fB 76 (7 - (k:Int)) (ma k)
 |0,_=>⟨Aa,AB (dQ oE) (xo oE Aa)⟩
 |k+1,hk=>by
  obtain⟨h1,h2⟩:=Hu T k C;have e:(7 - ((k+1:Nat):Int))+1=7 - (k:Int):=C;have ht:fB 149 (7 - ((k+1:Nat):Int)) (Lv (k+1)):=
   GM C C (vE (mU (ff k))) (by rw[e];exact h1) (Jl (mU (ff k)) (IS C C (ff k) T (by rw[e];exact h2)))
  exact⟨ht,AB (dQ (jF (k+1))) (xo (jF (k+1)) ht)⟩
def Ik(T:ER):fB 76 1 (ma 6):=(Hu T 6 dD).2
end Go.Proofs.Y
