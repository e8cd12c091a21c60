/- Lemmas towards the law. Conditions: each one says its own. -/
import Derived.Test.YtnhmohbhgocbjaaGreatDoorZT8
import Derived.Test.YtnhmohbhgocbjaaGreatDoorZT10
import Derived.Shelf.Strconv.AtoiAll
import Derived.Shelf.Strconv.Itoa3
import Derived.Lib.AtoiAll
import Derived.Lib.AtoiErrMem
set_option linter.all false
set_option maxHeartbeats 64000000
set_option maxRecDepth 100000
namespace Go.Abs
open Go.RowKit (Below)
section
variable {P:Program}{c:Ctx}{ops:Array Oper}{Q:Exit→Act→World→Prop}{rest:List Oper}
 {fr:List (Nat×AV)} {bx:List (Nat×Box)} {tk:List (Nat×Tok)} {d:Nat} {ty:TypeId} {pos:String} {aft:Array Edge}
def fe(N:List Nat){st0:St}{done:List Eff}{gs:au}{f:FuncId}{args:Array Operand}{ats:Array TypeId}{avs:List AV}{bxo:List (Nat×Box)}{res:AV}(hlt:Nat.ble (d+1) c.nt=true)(hG:Glob gs c.E0 c.w0)[hok:CallTy P f]
 (hc:CallG gs P f avs [] bxo [] res) (ha:AV.pub.pubs (args.toList.map (St.ev ⟨fr,bx,tk⟩))=avs) (hN:N.all (fun id=>St.fresh id ⟨fr,bx,tk⟩)=true) (hbo:dW N [] bxo=true) (hmb:bxo.all (fun p=>AV.mentsIn (N++keys ([]:List (Nat×Box))) p.2.cs)=true) (hmr:AV.mentIn (N++keys ([]:List (Nat×Box))) res=true)
 (h:DR P c ops Q st0 (⟨some (d,res),bxo,[],[],[],[],N⟩::done) ⟨(d,res)::fr,bxo++bx,tk⟩ rest):DR P c ops Q st0 done ⟨fr,bx,tk⟩ (⟨some d,.call {callee:= .value (.func f),args:=args,argTypes:=ats},ty,pos,aft,none⟩::rest):=
 DR.cons (e:=⟨some (d,res),bxo,[],[],[],[],N⟩) (fun st' hag Q' hL=>LW.out (ac N (fr:=st'.fr) (bx:=st'.bx) (tk:=st'.tk) hlt hG hc (.of_pub ((by rw[Jx hag.ev (fun x hx=>by simp[Op.operands,Call.operands,hx])];exact ha))) .nil (List.all_eq_true.2 (fun id hid=>hag.fs id (by simpa using hid))) hbo hmb hmr (EF hL))) h
end
end Go.Abs
namespace Go.Proofs.Y
open Go.Abs Go.Proofs.Tryz
attribute [local irreducible] L Code.wp bodyPost Exit.then Exit.inBlock
def dn(t:Str):Str:=([114] ++t)++ [0]
def aO(t:Str):Str:=([120] ++t)++ [0]
def de(vs:List Val):Str:=(Dq vs).1
def ap(t:Str)(id:Val):Str:=dn t++de [id]
def eE(x:Str)(v id:Val):Str:=aO x++de [v,id]
structure Way where
 i:Str
 lo:Str
 hi:Str
def Way.c(w:Way):List IV:= [S w.i,S w.lo,S w.hi]
def ei(t:Str):Way:=⟨[],dn t,([114] ++t)++ [1]⟩
def ku(x:Int):(Ef x).length=4:=rfl
def Dp{v:Val}(h:aw v=true):(ca v).length≤10:=by
 unfold ca;simp only[lC];split
 · simp[ku]
 · split
   · rename_i h1 h2;simp only[aw,h2] at h;simp only[gV,List.length_singleton];simp at h;omega
   · simp
def kZ(vs:List Val):(de vs).length≤10*vs.length:=by
 unfold de Dq;split
 · rename_i h;simp only;induction vs with
   |nil=>simp
   |cons v vs ih=>
    simp only[List.all_cons,aE] at h;have h1:=Dp h.1;have h2:=ih h.2;simp only[List.flatMap_cons,gV,lC];omega
 · simp
def uS(t:Str)(hl:t.length≤140737488355328):CallA prog 58 [aS t] [] [] [] (aS (dn t)):=by
 refine iA func58 ntmps58 (fun w0 E0=> ?_);refine wz ?_;all_goals refine bn ?_
 all_goals rfl
def lV(t:Str)(hl:t.length≤140737488355328):CallA prog 55 [aS t] [] [] [] (aS (aO t)):=by
 refine iA func55 ntmps55 (fun w0 E0=> ?_);refine wz ?_;all_goals refine bn ?_
 all_goals rfl
def ov(vs:List Val)(hl:10*vs.length≤140737488355328):CallA prog 67 [.iv (.sl (vs.map Val.c))] [] [] [] (aS (de vs)):=by
 have k:=Ks vs hl;refine iA func67 ntmps67 (fun w0 E0=> ?_);refine wz ?_;all_goals refine bn ?_
 all_goals rfl
def jb(t:Str)(id:Val)(hl:t.length≤140737488355328):CallA prog 57 [aS t,.agg (id.c.map .iv)] [] [] [] (aS (ap t id)):=by
 have k1:=uS t hl;have k2:=ov [id] sP;have h2:=kZ [id];have h1:(dn t).length=t.length+2:=by simp[dn]
 simp only[List.length_singleton] at h2;refine iA func57 ntmps57 (fun w0 E0=> ?_);refine wz ?_;all_goals refine bn ?_
 all_goals rfl
def rh(t:Str)(v id:Val)(hl:t.length≤140737488355328):CallA prog 40 [aS t,.agg (v.c.map .iv),.agg (id.c.map .iv)] [] [] [] (aS (eE t v id)):=by
 have k1:=lV t hl;have k2:=ov [v,id] sP;have h2:=kZ [v,id];have h1:(aO t).length=t.length+2:=by simp[aO]
 simp only[lC,List.length_nil] at h2;refine iA func40 ntmps40 (fun w0 E0=> ?_);refine wz ?_;all_goals refine bn ?_
 all_goals rfl
def oY(t:Str)(hl:t.length≤140737488355328):CallA prog 28 [aS t] [] [] [] (.agg ((ei t).c.map .iv)):=by
 have k1:=uS t hl;refine iA func28 ntmps28 (fun w0 E0=> ?_);refine wz ?_;all_goals refine bn ?_
 all_goals rfl
def DG(c:Col)(v:Val):Bool:= !(!aw v||((v.k !=c.t) && (c.m||(v.k !=0))))
def oH(row:List Val)(i:Nat)(cs:List Col):Bool:=(cs.zipIdx i).all (fun p=>DG p.1 (row.getD p.2 af))
def jM(t:Tab)(row:List Val):Bool:=row.length==t.cols.length && oH row 0 t.cols
def It{α:Type}{p:α→Bool}{l:List α}(h:0≤iB p l):(iB p l).toNat<l.length:=by
 unfold iB at h⊢;cases hf:l.findIdx? p with
 |none=>rw[hf] at h;simp only at h;omega
 |some i=>have:=(List.findIdx?_eq_some_iff_getElem.1 hf).1;simpa using this
def vT{α β:Type}(f:β→α→β)(b:β){l:List α}{i:Nat}{x:α}(h:l[i]?=some x):(l.take (i+1)).foldl f b=f ((l.take i).foldl f b) x:=by
 rw[List.take_add_one,h,List.foldl_append];rfl
def iS(t:Tab)(row:List Val)(ps:List Pg)(x:Idx):List Pg:=
 if x.tb==t.n && decide (0≤aU t x.co) then iP ps (eE x.n (row.getD (aU t x.co).toNat af) (row.getD 0 af)) [] else ps
def lu(ps:List Pg)(c:Cat)(t:Tab)(row:List Val):List Pg:=
 if row.length=0∨row.length≠t.cols.length then ps else c.is.foldl (iS t row) (iP ps (ap t.n (row.getD 0 af)) (de row))
def fk(t:Tab)(row:List Val)(ps:List Pg)(x:Idx):List Pg:=
 if x.tb==t.n && decide (0≤aU t x.co) then fx ps (eE x.n (row.getD (aU t x.co).toNat af) (row.getD 0 af)) else ps
def gZ(ps:List Pg)(c:Cat)(t:Tab)(row:List Val):List Pg:=
 if row.length=0∨row.length≠t.cols.length then ps else c.is.foldl (fk t row) (fx ps (ap t.n (row.getD 0 af)))
def FK(t:Tab)(row:List Val)(ps:List Pg)(x:Idx):(iS t row ps x).length≤ps.length+1:=by
 unfold iS;split
 · exact zl
 · omega
def DK(t:Tab)(row:List Val)(ps:List Pg)(x:Idx):(fk t row ps x).length≤ps.length:=by
 unfold fk;split
 · exact wc
 · omega
def qo(t:Tab)(row:List Val): ∀(l:List Idx) (ps:List Pg),(l.foldl (iS t row) ps).length≤ps.length+l.length
 | [],ps=>by simp
 |x::l,ps=>by
  have:=qo t row l (iS t row ps x);have:=FK t row ps x;simp only[List.foldl_cons,lC];omega
def oQ(t:Tab)(row:List Val): ∀(l:List Idx) (ps:List Pg),(l.foldl (fk t row) ps).length≤ps.length
 | [],ps=>by simp
 |x::l,ps=>by
  have:=oQ t row l (fk t row ps x);have:=DK t row ps x;simp only[List.foldl_cons];omega
def HO(ps:List Pg)(c:Cat)(t:Tab)(row:List Val):(lu ps c t row).length≤ps.length+c.is.length+1:=by
 unfold lu;split
 · omega
 · have:=qo t row c.is (iP ps (ap t.n (row.getD 0 af)) (de row));have:=zl (ps:=ps) (key:=ap t.n (row.getD 0 af)) (val:=de row);omega
def Gk(ps:List Pg)(c:Cat)(t:Tab)(row:List Val):(gZ ps c t row).length≤ps.length:=by
 unfold gZ;split
 · omega
 · have:=oQ t row c.is (fx ps (ap t.n (row.getD 0 af)));have:=wc (ps:=ps) (key:=ap t.n (row.getD 0 af));omega
def AZ(ps:List Pg)(c:Cat)(t:Tab)(row:List Val)(hps:ps.length+c.is.length+2≤2932031007402)(hrow:row.length≤14073748835532)(htn:t.n.length≤140737488355328)(htl:t.cols.length≤140737488355328)(hil:c.is.length≤140737488355328)(hin: ∀x∈c.is,x.n.length≤140737488355328):
 CallA prog 117 [.agg [.iv (.sl (ps.map Pg.c))],.agg (c.c.map .iv),.agg (t.c.map .iv),.iv (.sl (row.map Val.c))] [] [] [] (.agg [.iv (.sl ((lu ps c t row).map Pg.c))]):=by
 have er:((row.map Val.c).length:Int)=(row.length:Int):=by simp
 have ec:((t.cols.map Col.c).length:Int)=(t.cols.length:Int):=by simp
 by_cases hz:row.length=0
 · have b1:((((row.map Val.c).length:Nat):Int)==0)=true:=by rw[er];simp;exact List.length_eq_zero_iff.1 hz
   have e:lu ps c t row=ps:=by rw[lu,if_pos (.inl hz)]
   rw[e];refine iA func117 ntmps117 (fun w0 E0=> ?_);refine wz ?_;all_goals refine bn ?_
   all_goals rfl
 have b1:((((row.map Val.c).length:Nat):Int)==0)=false:=by rw[er];simp;intro h;rw[h] at hz;simp at hz
 by_cases hn:row.length≠t.cols.length
 · have b2:((((row.map Val.c).length:Nat):Int) !=(((t.cols.map Col.c).length:Nat):Int))=true:=by rw[er,ec];simp;omega
   have e:lu ps c t row=ps:=by rw[lu,if_pos (.inr hn)]
   rw[e];refine iA func117 ntmps117 (fun w0 E0=> ?_);refine wz ?_;all_goals refine bn ?_
   all_goals rfl
 have hn:row.length=t.cols.length:=Classical.not_not.1 hn;have b2:((((row.map Val.c).length:Nat):Int) !=(((t.cols.map Col.c).length:Nat):Int))=false:=by rw[er,ec,hn];simp
 have e:lu ps c t row=c.is.foldl (iS t row) (iP ps (ap t.n (row.getD 0 af)) (de row)):=by rw[lu,if_neg C]
 rw[e];have g0:(row.map Val.c)[(0:Int).toNat]?=some [I (row.getD 0 af).k,I (row.getD 0 af).n,S (row.getD 0 af).s]:=by rw[show(0:Int).toNat=0 from rfl,gP,cV af (show 0<row.length by omega)];rfl
 have kr:=jb t.n (row.getD 0 af) htn;have kk:=ov row C;have kp:=EP ps (ap t.n (row.getD 0 af)) (de row) C;have hsl:=zl (ps:=ps) (key:=ap t.n (row.getD 0 af)) (val:=de row);generalize (iP ps (ap t.n (row.getD 0 af)) (de row))=P0 at*
 refine iA func117 ntmps117 (fun w0 E0=> ?_);refine wz ?_;refine ae (ι:=Nat) (fun i=>⟨[(37,aI (i:Int)),(36,aI ((c.is.map Idx.c).length:Int)),(35,.iv (.sl (c.is.map Idx.c))),(3,.iv (.sl (row.map Val.c))),(4,.ptr 4 0),(6,.ptr 6 0),(8,.ptr 8 0)],[(4,⟨51,.l [.iv (.sl (((c.is.take i).foldl (iS t row) P0).map Pg.c))]⟩),(6,⟨57,.l [aS t.n,.iv (.sl (t.cols.map Col.c))]⟩),(8,⟨51,.l [.nils]⟩)],[]⟩) (fun i=>c.is.length - i) (fun i=>True) (i0:=0) ?_ trivial ?_
 · exact df
 intro i _ K hK;cases hx:c.is[i]? with
 |none=>
  have hlt:=fa (l:=c.is.map Idx.c) (bf hx);rw[bc hx];refine wz ?_;all_goals refine bn ?_
  all_goals rfl
 |some x=>
  have hlt:=eZ (l:=c.is.map Idx.c) (cq (f:=Idx.c) hx);have hlt':=eP hx;have g1:(c.is.map Idx.c)[((i:Nat):Int).toNat]?=some [S x.n,S x.tb,S x.co]:=by rw[iN,gP,hx];rfl
  have kf:=eJ t x.co htl;have hst:=vT (iS t row) P0 hx;have hql:=qo t row (c.is.take i) P0;have htk:(c.is.take i).length≤c.is.length:=by simp;omega
  generalize (c.is.take i).foldl (iS t row) P0=Q at*
  have hxn:=hin x (gE hx);cases h1:(x.tb==t.n) with
  |false=>
   rw[show iS t row Q x=Q by rw[iS,h1];rfl] at hst;refine wz ?_;refine hK _ (i+1) trivial C ?_;rw[hst];exact df
  |true=>
   cases h2:decide ((0:Int)≤aU t x.co) with
   |false=>
    rw[show iS t row Q x=Q by rw[iS,h1,h2];rfl] at hst;refine wz ?_;refine hK _ (i+1) trivial C ?_;rw[hst];exact df
   |true=>
    have h0:0≤aU t x.co:=of_decide_eq_true h2;have hki:(aU t x.co).toNat<t.cols.length:=It h0;have g2:(row.map Val.c)[(aU t x.co).toNat]?=some [I (row.getD (aU t x.co).toNat af).k,I (row.getD (aU t x.co).toNat af).n,S (row.getD (aU t x.co).toNat af).s]:=by rw[gP,cV af (show(aU t x.co).toNat<row.length by omega)];rfl
    rw[show iS t row Q x=iP Q (eE x.n (row.getD (aU t x.co).toNat af) (row.getD 0 af)) [] by rw[iS,h1,h2];rfl] at hst;generalize row.getD (aU t x.co).toNat af=v at*
    have ki:=rh x.n v (row.getD 0 af) hxn;have kq:=EP Q (eE x.n v (row.getD 0 af)) [] C;(repeat' first|intro hb hp|(refine LW.is ?_;first|refine ag U (cd U U (by first|omega|exact h0|decide) (by first|exact g1|exact g2|exact g0) U) ?_)|(refine DR.is ?_;first|refine bk U (cd U U (by first|omega|exact h0|decide) (by first|exact g1|exact g2|exact g0) U) ?_)|refine am ?_|refine ak ?_ ?_|fail)
    refine hK _ (i+1) trivial C ?_;rw[hst];exact df
def sK(ps:List Pg)(c:Cat)(t:Tab)(row:List Val)(hps:ps.length≤2932031007402)(hrow:row.length≤14073748835532)(htn:t.n.length≤140737488355328)(htl:t.cols.length≤140737488355328)(hil:c.is.length≤140737488355328)(hin: ∀x∈c.is,x.n.length≤140737488355328):
 CallA prog 94 [.agg [.iv (.sl (ps.map Pg.c))],.agg (c.c.map .iv),.agg (t.c.map .iv),.iv (.sl (row.map Val.c))] [] [] [] (.agg [.iv (.sl ((gZ ps c t row).map Pg.c))]):=by
 have er:((row.map Val.c).length:Int)=(row.length:Int):=by simp
 have ec:((t.cols.map Col.c).length:Int)=(t.cols.length:Int):=by simp
 by_cases hz:row.length=0
 · have b1:((((row.map Val.c).length:Nat):Int)==0)=true:=by rw[er];simp;exact List.length_eq_zero_iff.1 hz
   have e:gZ ps c t row=ps:=by rw[gZ,if_pos (.inl hz)]
   rw[e];refine iA func94 ntmps94 (fun w0 E0=> ?_);refine wz ?_;all_goals refine bn ?_
   all_goals rfl
 have b1:((((row.map Val.c).length:Nat):Int)==0)=false:=by rw[er];simp;intro h;rw[h] at hz;simp at hz
 by_cases hn:row.length≠t.cols.length
 · have b2:((((row.map Val.c).length:Nat):Int) !=(((t.cols.map Col.c).length:Nat):Int))=true:=by rw[er,ec];simp;omega
   have e:gZ ps c t row=ps:=by rw[gZ,if_pos (.inr hn)]
   rw[e];refine iA func94 ntmps94 (fun w0 E0=> ?_);refine wz ?_;all_goals refine bn ?_
   all_goals rfl
 have hn:row.length=t.cols.length:=Classical.not_not.1 hn;have b2:((((row.map Val.c).length:Nat):Int) !=(((t.cols.map Col.c).length:Nat):Int))=false:=by rw[er,ec,hn];simp
 have e:gZ ps c t row=c.is.foldl (fk t row) (fx ps (ap t.n (row.getD 0 af))):=by rw[gZ,if_neg C]
 rw[e];have g0:(row.map Val.c)[(0:Int).toNat]?=some [I (row.getD 0 af).k,I (row.getD 0 af).n,S (row.getD 0 af).s]:=by rw[show(0:Int).toNat=0 from rfl,gP,cV af (show 0<row.length by omega)];rfl
 have kr:=jb t.n (row.getD 0 af) htn;have kk:=ov row C;have kp:=BO ps (ap t.n (row.getD 0 af)) C;have hsl:=wc (ps:=ps) (key:=ap t.n (row.getD 0 af));generalize (fx ps (ap t.n (row.getD 0 af)))=P0 at*
 refine iA func94 ntmps94 (fun w0 E0=> ?_);refine wz ?_;refine ae (ι:=Nat) (fun i=>⟨[(35,aI (i:Int)),(34,aI ((c.is.map Idx.c).length:Int)),(33,.iv (.sl (c.is.map Idx.c))),(3,.iv (.sl (row.map Val.c))),(4,.ptr 4 0),(6,.ptr 6 0),(8,.ptr 8 0)],[(4,⟨51,.l [.iv (.sl (((c.is.take i).foldl (fk t row) P0).map Pg.c))]⟩),(6,⟨57,.l [aS t.n,.iv (.sl (t.cols.map Col.c))]⟩),(8,⟨51,.l [.nils]⟩)],[]⟩) (fun i=>c.is.length - i) (fun i=>True) (i0:=0) ?_ trivial ?_
 · exact df
 intro i _ K hK;cases hx:c.is[i]? with
 |none=>
  have hlt:=fa (l:=c.is.map Idx.c) (bf hx);rw[bc hx];refine wz ?_;all_goals refine bn ?_
  all_goals rfl
 |some x=>
  have hlt:=eZ (l:=c.is.map Idx.c) (cq (f:=Idx.c) hx);have hlt':=eP hx;have g1:(c.is.map Idx.c)[((i:Nat):Int).toNat]?=some [S x.n,S x.tb,S x.co]:=by rw[iN,gP,hx];rfl
  have kf:=eJ t x.co htl;have hst:=vT (fk t row) P0 hx;have hql:=oQ t row (c.is.take i) P0;have htk:(c.is.take i).length≤c.is.length:=by simp;omega
  generalize (c.is.take i).foldl (fk t row) P0=Q at*
  have hxn:=hin x (gE hx);cases h1:(x.tb==t.n) with
  |false=>
   rw[show fk t row Q x=Q by rw[fk,h1];rfl] at hst;refine wz ?_;refine hK _ (i+1) trivial C ?_;rw[hst];exact df
  |true=>
   cases h2:decide ((0:Int)≤aU t x.co) with
   |false=>
    rw[show fk t row Q x=Q by rw[fk,h1,h2];rfl] at hst;refine wz ?_;refine hK _ (i+1) trivial C ?_;rw[hst];exact df
   |true=>
    have h0:0≤aU t x.co:=of_decide_eq_true h2;have hki:(aU t x.co).toNat<t.cols.length:=It h0;have g2:(row.map Val.c)[(aU t x.co).toNat]?=some [I (row.getD (aU t x.co).toNat af).k,I (row.getD (aU t x.co).toNat af).n,S (row.getD (aU t x.co).toNat af).s]:=by rw[gP,cV af (show(aU t x.co).toNat<row.length by omega)];rfl
    rw[show fk t row Q x=fx Q (eE x.n (row.getD (aU t x.co).toNat af) (row.getD 0 af)) by rw[fk,h1,h2];rfl] at hst;generalize row.getD (aU t x.co).toNat af=v at*
    have ki:=rh x.n v (row.getD 0 af) hxn;have kq:=BO Q (eE x.n v (row.getD 0 af)) C;(repeat' first|intro hb hp|(refine LW.is ?_;first|refine ag U (cd U U (by first|omega|exact h0|decide) (by first|exact g1|exact g2|exact g0) U) ?_)|(refine DR.is ?_;first|refine bk U (cd U U (by first|omega|exact h0|decide) (by first|exact g1|exact g2|exact g0) U) ?_)|refine am ?_|refine ak ?_ ?_|fail)
    refine hK _ (i+1) trivial C ?_;rw[hst];exact df
def ai(r:List Val):List IV:= [.sl (r.map Val.c)]
def qz(w:Way)(k:Str):Option (List Val):=match dz (k.drop (if(k.length:Int)<((aO w.i).length:Int) then(k.length:Int) else((aO w.i).length:Int)).toNat) with
 |some l=>if l.length=2 then some l else none
 |none=>none
def dh(t:Tab)(s:Str):Option (List Val):=match dz s with
 |some l=>if l.length=t.cols.length then some l else none
 |none=>none
def fv(ps:List Pg)(t:Tab)(w:Way)(x:Pr):Option (List Val):=
 if w.i= [] then dh t x.2 else match qz w x.1 with
  |some l=>dh t (getM ps (ap t.n (l.getD 1 af))).1
  |none=>none
def ci(ps:List Pg)(t:Tab)(w:Way):List (List Val):=(dH ps w.lo w.hi).filterMap (fv ps t w)
def oJ{α β:Type}(f:α→Option β){l:List α}{i:Nat}{x:α}(h:l[i]?=some x):(l.take (i+1)).filterMap f=(l.take i).filterMap f++(f x).toList:=by
 rw[List.take_add_one,h,List.filterMap_append];cases hp:f x<;>simp[hp]
def pU{α β:Type}(f:α→Option β)(l:List α)(i:Nat):((l.take i).filterMap f).length≤l.length:=Nat.le_trans (List.length_filterMap_le _ _) (by simp;omega)
def Gd{ps:List Pg}{i k:Nat}{x:Pr}(h:x∈fw ps i k):x∈ax ps:=by
 unfold fw at h;cases hp:ps[i]? with
 |none=>rw[hp] at h;simp at h
 |some p=>
  rw[hp] at h;rw[flat_at hp];rcases mA h with h|h
  · exact List.mem_append.2 (.inr (List.mem_append.2 (.inl (mD h))))
  · exact List.mem_append.2 (.inr (List.mem_append.2 (.inr h)))
def xG{ps:List Pg}{lo hi:Str}{x:Pr}(h:x∈dH ps lo hi):x∈ax ps:=by
 unfold dH at h;split at h
 · exact Gd (List.takeWhile_subset _ h)
 · simp at h
def Fb(ps:List Pg)(k:Str):(getM ps k).1= [] ∨ ∃x∈ax ps,x.2=(getM ps k).1:=by
 cases hg:aG ps with
 |false=>left;simp[getM,hg]
 |true=>
  rw[vR hg,pT];cases hf:(ax ps).find? (fun x=>x.1==k) with
  |none=>left;rfl
  |some x=>right;exact⟨x,List.mem_of_find?_eq_some hf,rfl⟩
def ta(ps:List Pg):Prop:= ∀x∈ax ps,x.1.length≤4398046511104∧x.2.length≤4398046511104
def pk(ps:List Pg)(t:Tab)(w:Way)(hps:ps.length≤1000000000000)(hsm:ta ps)(htn:t.n.length≤140737488355328)(hwi:w.i.length≤140737488355328):
 CallA prog 27 [.agg [.iv (.sl (ps.map Pg.c))],.agg (t.c.map .iv),.agg (w.c.map .iv)] [] [] [] (.iv (.sl ((ci ps t w).map ai))):=by
 have kr:=xK ps w.lo w.hi C;have hR: ∀x∈dH ps w.lo w.hi,x.1.length≤4398046511104∧x.2.length≤4398046511104:=fun x hx=>hsm x (xG hx)
 have hl:=xH ps w.lo w.hi;unfold ci;generalize dH ps w.lo w.hi=R at*
 refine iA func27 ntmps27 (fun w0 E0=> ?_);refine wz ?_;refine L.adopt 9 (s:=9) (t:=35) (k:=1) U U U ?_;refine ae (ι:=Nat) (fun i=>⟨[(28,aI (i:Int)),(27,aI ((R.map fun x=>Str.c x.1).length:Int)),(7,.iv (.sl (R.map fun x=>Str.c x.1))),(8,.iv (.sl (R.map fun x=>Str.c x.2))),(9,.row 9 (((R.take i).filterMap (fv ps t w)).map ai)),(3,.ptr 3 0),(4,.ptr 4 0),(5,.ptr 5 0)],[(3,⟨51,.l [.iv (.sl (ps.map Pg.c))]⟩),(4,⟨57,.l [aS t.n,.iv (.sl (t.cols.map Col.c))]⟩),(5,⟨60,.l [aS w.i,aS w.lo,aS w.hi]⟩)],[(9,⟨35,1⟩)]⟩) (fun i=>R.length - i) (fun i=>True) (i0:=0) ?_ trivial ?_
 · exact df
 intro i _ K hK;cases hx:R[i]? with
 |none=>
  have hlt:=fa (l:=R.map fun x=>Str.c x.1) (bf hx);rw[bc hx];refine wz ?_;all_goals refine bn ?_
  all_goals rfl
 |some x=>
  have hlt:=eZ (l:=R.map fun x=>Str.c x.1) (cq (f:=fun x=>Str.c x.1) hx);have hlt':=eP hx;have g1:(R.map fun x=>Str.c x.1)[((i:Nat):Int).toNat]?=some [S x.1]:=by rw[iN,gP,hx];rfl
  have g2:(R.map fun x=>Str.c x.2)[((i:Nat):Int).toNat]?=some [S x.2]:=by rw[iN,gP,hx];rfl
  have hst:=oJ (fv ps t w) hx;have hfl:=pU (fv ps t w) R i;obtain⟨hx1,hx2⟩:=hR x (gE hx);have bm:(((R.take i).filterMap (fv ps t w)).map ai).length+1≤maxLen:=by rw[fC,lM];omega
  have bb:((((R.take i).filterMap (fv ps t w)).map ai).length+1)*24≤225000000000000:=by rw[lM];omega
  generalize hF:(R.take i).filterMap (fv ps t w)=F at*
  clear hF;by_cases hw:w.i= []
  · have q1:(!(w.i== []))=false:=by rw[hw];rfl
    have hp:fv ps t w x=dh t x.2:=by rw[fv,if_pos hw]
    rw[hp] at hst;have kv:=mu x.2 C;cases hu:dz (x.2) with
    |none=>
     rw[show dB (x.2)=([],1) by rw[dB,hu]] at kv;rw[show dh t (x.2)=none by rw[dh,hu]] at hst;refine wz ?_;refine hK _ (i+1) trivial C ?_;rw[hst,show(Option.toList (none:Option (List Val)))= [] from rfl,List.append_nil];exact df
    |some r=>
     rw[show dB (x.2)=(r,0) by rw[dB,hu]] at kv;by_cases hrl:r.length=t.cols.length
     · have q3:((((r.map Val.c).length:Nat):Int)==(((t.cols.map Col.c).length:Nat):Int))=true:=by simp[hrl]
       rw[show dh t (x.2)=some r by rw[dh,hu];exact if_pos hrl] at hst;(repeat' first|intro hb hp|(refine LW.is ?_;first|apply bC;rfl;rfl;rfl;rfl;(focus repeat' (first|exact bK|apply cH|(refine jn (fun x=>rfl))|(refine bz U ?_)|exact len_chunks U|assumption));(focus repeat' (first|exact bK|apply cH|(refine jn (fun x=>rfl))|(refine bz U ?_)|exact len_chunks U|assumption));exact bm;exact bb;rfl;rfl)|refine am ?_|refine ak ?_ ?_|fail)
       refine L.onlyS [28,27,7,8,9,3,4,5] [3,4,5] U ?_;refine L.retok 9 94 9 U U U U ?_;refine hK _ (i+1) trivial C ?_;refine Wk.mk' kK (wF (wF (wF (wF (.cons U (Sub.of_eq (congrArg (AV.row 9) (by rw[hst];simp[ai]))) F3))))) B3 (.cons U .nil)
     · have q3:((((r.map Val.c).length:Nat):Int)==(((t.cols.map Col.c).length:Nat):Int))=false:=by simp;omega
       rw[show dh t (x.2)=none by rw[dh,hu];exact if_neg hrl] at hst;refine wz ?_;refine hK _ (i+1) trivial C ?_;rw[hst,show(Option.toList (none:Option (List Val)))= [] from rfl,List.append_nil];exact df
  · have q1:(!(w.i== []))=true:=by simp[hw]
    have ke:=lV w.i hwi;have kv:=mu (x.1.drop (if(x.1.length:Int)<((aO w.i).length:Int) then(x.1.length:Int) else((aO w.i).length:Int)).toNat) (by rw[lD];omega);have d0:0≤(if(x.1.length:Int)<((aO w.i).length:Int) then(x.1.length:Int) else((aO w.i).length:Int)):=by split<;>omega
    have d1:(if(x.1.length:Int)<((aO w.i).length:Int) then(x.1.length:Int) else((aO w.i).length:Int))≤(x.1.length:Int):=by split<;>omega
    have hp:fv ps t w x=match qz w x.1 with|some l=>dh t (getM ps (ap t.n (l.getD 1 af))).1|none=>none:=by rw[fv,if_neg hw]
    rw[hp,qz] at hst;generalize hdr:x.1.drop (if(x.1.length:Int)<((aO w.i).length:Int) then(x.1.length:Int) else((aO w.i).length:Int)).toNat=dr at*
    cases hv:dz dr with
    |none=>
     rw[show dB dr=([],1) by rw[dB,hv]] at kv;rw[hv] at hst;(repeat' first|intro hb hp|refine DR.is (bk U (bq U U d0 d1 hdr) ?_)|refine am ?_|refine ak ?_ ?_|fail)
     refine hK _ (i+1) trivial C ?_;rw[hst,show(Option.toList (none:Option (List Val)))= [] from rfl,List.append_nil];exact df
    |some l=>
     rw[show dB dr=(l,0) by rw[dB,hv]] at kv;rw[hv] at hst;by_cases hl2:l.length=2
     · have hst:(R.take (i+1)).filterMap (fv ps t w)=F++(dh t (getM ps (ap t.n (l.getD 1 af))).1).toList:=by rw[hst];simp only[if_pos hl2]
       have q2:((((l.map Val.c).length:Nat):Int) !=2)=false:=by simp[hl2]
       have g5:(l.map Val.c)[(1:Int).toNat]?=some [I (l.getD 1 af).k,I (l.getD 1 af).n,S (l.getD 1 af).s]:=by rw[show(1:Int).toNat=1 from rfl,gP,cV af (show 1<l.length by omega)];rfl
       have kk:=jb t.n (l.getD 1 af) htn;have kg:=zL ps (ap t.n (l.getD 1 af)) C;have hsz:(getM ps (ap t.n (l.getD 1 af))).1.length≤4398046511104:=by
        rcases Fb ps (ap t.n (l.getD 1 af)) with h|⟨y,hy,h⟩
        · rw[h];simp
        · rw[←h];exact(hsm y hy).2
       generalize l.getD 1 af=id at*
       generalize getM ps (ap t.n id)=gt at*
       obtain⟨gs,gb⟩:=gt;dsimp only at hst hsz kg;have kw:=mu gs C;cases hu:dz (gs) with
       |none=>
        rw[show dB (gs)=([],1) by rw[dB,hu]] at kw;rw[show dh t (gs)=none by rw[dh,hu]] at hst;(repeat' first|intro hb hp|refine DR.is (bk U (bq U U d0 d1 hdr) ?_)|refine am ?_|refine ak ?_ ?_|fail)
        refine hK _ (i+1) trivial C ?_;rw[hst,show(Option.toList (none:Option (List Val)))= [] from rfl,List.append_nil];exact df
       |some r=>
        rw[show dB (gs)=(r,0) by rw[dB,hu]] at kw;by_cases hrl:r.length=t.cols.length
        · have q3:((((r.map Val.c).length:Nat):Int)==(((t.cols.map Col.c).length:Nat):Int))=true:=by simp[hrl]
          rw[show dh t (gs)=some r by rw[dh,hu];exact if_pos hrl] at hst;(repeat' first|intro hb hp|(refine LW.is ?_;first|apply bC;rfl;rfl;rfl;rfl;(focus repeat' (first|exact bK|apply cH|(refine jn (fun x=>rfl))|(refine bz U ?_)|exact len_chunks U|assumption));(focus repeat' (first|exact bK|apply cH|(refine jn (fun x=>rfl))|(refine bz U ?_)|exact len_chunks U|assumption));exact bm;exact bb;rfl;rfl)|refine DR.is (bk U (bq U U d0 d1 hdr) ?_)|refine am ?_|refine ak ?_ ?_|fail)
          refine L.onlyS [28,27,7,8,9,3,4,5] [3,4,5] U ?_;refine L.retok 9 94 9 U U U U ?_;refine hK _ (i+1) trivial C ?_;refine Wk.mk' kK (wF (wF (wF (wF (.cons U (Sub.of_eq (congrArg (AV.row 9) (by rw[hst];simp[ai]))) F3))))) B3 (.cons U .nil)
        · have q3:((((r.map Val.c).length:Nat):Int)==(((t.cols.map Col.c).length:Nat):Int))=false:=by simp;omega
          rw[show dh t (gs)=none by rw[dh,hu];exact if_neg hrl] at hst;(repeat' first|intro hb hp|refine DR.is (bk U (bq U U d0 d1 hdr) ?_)|refine am ?_|refine ak ?_ ?_|fail)
          refine hK _ (i+1) trivial C ?_;rw[hst,show(Option.toList (none:Option (List Val)))= [] from rfl,List.append_nil];exact df
     · have hst:(R.take (i+1)).filterMap (fv ps t w)=F++(none:Option (List Val)).toList:=by rw[hst];simp only[if_neg hl2]
       have q2:((((l.map Val.c).length:Nat):Int) !=2)=true:=by simp;omega
       (repeat' first|intro hb hp|refine DR.is (bk U (bq U U d0 d1 hdr) ?_)|refine am ?_|refine ak ?_ ?_|fail)
       refine hK _ (i+1) trivial C ?_;rw[hst,show(Option.toList (none:Option (List Val)))= [] from rfl,List.append_nil];exact df
def qQ(r:Rd):Ex×Rd:=
 if(al (aq r).2 [[46]]).1 then(.mk 2 af (aq r).1 (aq (al (aq r).2 [[46]]).2).1 0 [],(aq (al (aq r).2 [[46]]).2).2)
 else(.mk 2 af [] (aq r).1 0 [],(al (aq r).2 [[46]]).2)
def JX(r:Rd)(hr:RdOk r):CallG tV prog 233 [.ptr 1000 0] [(1000,ep r)] [(1000,ep (qQ r).2)] [] (.agg ((qQ r).1.cs.map .iv)):=by
 have k1:=dI r hr;have k2:=aQ (gs:=tV) (aq r).2 [[46]] hr.name dD;have k3:=dI (al (aq r).2 [[46]]).2 (hr.name.at _);unfold qQ;generalize aq (al (aq r).2 [[46]]).2=p3 at*
 generalize al (aq r).2 [[46]] =p2 at*
 generalize aq r=p1 at*
 obtain⟨s1,r1⟩:=p1;obtain⟨b2,r2⟩:=p2;obtain⟨s3,r3⟩:=p3;dsimp only at k1 k2 k3⊢;refine iG func233 ntmps233 (fun w0 E0 hG=> ?_);cases b2 with
 |true=>
  (repeat' first|intro hb hp|refine LW.is (s_Q ?_)|refine DR.is (d_Q ?_)|refine am ?_|refine ak ?_ ?_|fail)
  all_goals refine gM ?_ ?_
  all_goals rfl
 |false=>
  (repeat' first|intro hb hp|refine LW.is (s_Q ?_)|refine am ?_|refine ak ?_ ?_|fail)
  all_goals refine gM ?_ ?_
  all_goals rfl
end Go.Proofs.Y
namespace Go.Proofs
open Go.Shelf
def Tryz.laysAtoi_ren:Go.Shelf.Ren:=⟨fun|172=>106|244=>150|245=>151|247=>185|279=>186|280=>187|281=>188|282=>189|287=>212|316=>213|171=>107|205=>214|321=>234|322=>235|243=>152|246=>190|283=>215|284=>216|285=>217|286=>218|129=>206|317=>236|318=>237|319=>238|320=>239|337=>244|338=>245|n=>n,fun|9=>9|3=>3|75=>168|76=>169|4=>4|5=>5|167=>239|37=>38|0=>0|85=>240|2=>2|168=>242|53=>259|175=>260|46=>149|210=>263|127=>285|145=>288|143=>286|21=>21|171=>265|173=>267|212=>289|51=>206|20=>20|213=>290|232=>296|233=>297|80=>138|n=>n,fun|15=>2|16=>3|17=>4|18=>5|19=>6|n=>n⟩
theorem Tryz.laysAtoi:Go.Proofs.LaysC.n172 Tryz.prog Tryz.laysAtoi_ren where
 mixed:=by kernel_rfl
 f129:=Tryz.func206.trans (congrArg some (by kernel_rfl))
 f171:=Tryz.func107.trans (congrArg some (by kernel_rfl))
 f172:=Tryz.func106.trans (congrArg some (by kernel_rfl))
 f205:=Tryz.func214.trans (congrArg some (by kernel_rfl))
 f243:=Tryz.func152.trans (congrArg some (by kernel_rfl))
 f244:=Tryz.func150.trans (congrArg some (by kernel_rfl))
 f245:=Tryz.func151.trans (congrArg some (by kernel_rfl))
 f246:=Tryz.func190.trans (congrArg some (by kernel_rfl))
 f247:=Tryz.func185.trans (congrArg some (by kernel_rfl))
 f279:=Tryz.func186.trans (congrArg some (by kernel_rfl))
 f280:=Tryz.func187.trans (congrArg some (by kernel_rfl))
 f281:=Tryz.func188.trans (congrArg some (by kernel_rfl))
 f282:=Tryz.func189.trans (congrArg some (by kernel_rfl))
 f283:=Tryz.func215.trans (congrArg some (by kernel_rfl))
 f284:=Tryz.func216.trans (congrArg some (by kernel_rfl))
 f285:=Tryz.func217.trans (congrArg some (by kernel_rfl))
 f286:=Tryz.func218.trans (congrArg some (by kernel_rfl))
 f287:=Tryz.func212.trans (congrArg some (by kernel_rfl))
 f316:=Tryz.func213.trans (congrArg some (by kernel_rfl))
 f317:=Tryz.func236.trans (congrArg some (by kernel_rfl))
 f318:=Tryz.func237.trans (congrArg some (by kernel_rfl))
 f319:=Tryz.func238.trans (congrArg some (by kernel_rfl))
 f320:=Tryz.func239.trans (congrArg some (by kernel_rfl))
 f321:=Tryz.func234.trans (congrArg some (by kernel_rfl))
 f322:=Tryz.func235.trans (congrArg some (by kernel_rfl))
 f337:=Tryz.func244.trans (congrArg some (by kernel_rfl))
 f338:=Tryz.func245.trans (congrArg some (by kernel_rfl))
 t0:=Tryz.underlying0
 a0:=Tryz.isAgg0
 z0:=Tryz.sizeOf0
 v0:=Tryz.zeroValue0
 t2:=Tryz.underlying2
 a2:=Tryz.isAgg2
 z2:=Tryz.sizeOf2
 v2:=Tryz.zeroValue2
 t3:=Tryz.underlying3
 a3:=Tryz.isAgg3
 z3:=Tryz.sizeOf3
 v3:=Tryz.zeroValue3
 t4:=Tryz.underlying4
 a4:=Tryz.isAgg4
 z4:=Tryz.sizeOf4
 v4:=Tryz.zeroValue4
 t5:=Tryz.underlying5
 a5:=Tryz.isAgg5
 z5:=Tryz.sizeOf5
 v5:=Tryz.zeroValue5
 t9:=Tryz.underlying9
 a9:=Tryz.isAgg9
 z9:=Tryz.sizeOf9
 v9:=Tryz.zeroValue9
 t20:=Tryz.underlying20
 a20:=Tryz.isAgg20
 z20:=Tryz.sizeOf20
 v20:=Tryz.zeroValue20
 t21:=Tryz.underlying21
 a21:=Tryz.isAgg21
 z21:=Tryz.sizeOf21
 v21:=Tryz.zeroValue21
 t37:=Tryz.underlying38
 a37:=Tryz.isAgg38
 z37:=Tryz.sizeOf38
 v37:=Tryz.zeroValue38
 t46:=Tryz.underlying149
 a46:=Tryz.isAgg149
 z46:=Tryz.sizeOf149
 v46:=Tryz.zeroValue149
 t51:=Tryz.underlying206
 a51:=Tryz.isAgg206
 z51:=Tryz.sizeOf206
 v51:=Tryz.zeroValue206
 t53:=Tryz.underlying259
 a53:=Tryz.isAgg259
 z53:=Tryz.sizeOf259
 v53:=Tryz.zeroValue259
 t75:=Tryz.underlying168
 a75:=Tryz.isAgg168
 z75:=Tryz.sizeOf168
 v75:=Tryz.zeroValue168
 t76:=Tryz.underlying169
 a76:=Tryz.isAgg169
 z76:=Tryz.sizeOf169
 v76:=Tryz.zeroValue169
 t85:=Tryz.underlying240
 a85:=Tryz.isAgg240
 z85:=Tryz.sizeOf240
 v85:=Tryz.zeroValue240
 t127:=Tryz.underlying285
 a127:=Tryz.isAgg285
 z127:=Tryz.sizeOf285
 v127:=Tryz.zeroValue285
 t143:=Tryz.underlying286
 a143:=Tryz.isAgg286
 z143:=Tryz.sizeOf286
 v143:=Tryz.zeroValue286
 t145:=Tryz.underlying288
 a145:=Tryz.isAgg288
 z145:=Tryz.sizeOf288
 v145:=Tryz.zeroValue288
 t167:=Tryz.underlying239
 a167:=Tryz.isAgg239
 z167:=Tryz.sizeOf239
 v167:=Tryz.zeroValue239
 t168:=Tryz.underlying242
 a168:=Tryz.isAgg242
 z168:=Tryz.sizeOf242
 v168:=Tryz.zeroValue242
 t171:=Tryz.underlying265
 a171:=Tryz.isAgg265
 z171:=Tryz.sizeOf265
 v171:=Tryz.zeroValue265
 t173:=Tryz.underlying267
 a173:=Tryz.isAgg267
 z173:=Tryz.sizeOf267
 v173:=Tryz.zeroValue267
 t175:=Tryz.underlying260
 a175:=Tryz.isAgg260
 z175:=Tryz.sizeOf260
 v175:=Tryz.zeroValue260
 t210:=Tryz.underlying263
 a210:=Tryz.isAgg263
 z210:=Tryz.sizeOf263
 v210:=Tryz.zeroValue263
 t212:=Tryz.underlying289
 a212:=Tryz.isAgg289
 z212:=Tryz.sizeOf289
 v212:=Tryz.zeroValue289
 t213:=Tryz.underlying290
 a213:=Tryz.isAgg290
 z213:=Tryz.sizeOf290
 t232:=Tryz.underlying296
 a232:=Tryz.isAgg296
 z232:=Tryz.sizeOf296
 v232:=Tryz.zeroValue296
 t233:=Tryz.underlying297
 a233:=Tryz.isAgg297
 z233:=Tryz.sizeOf297
 v233:=Tryz.zeroValue297
 g15:=by kernel_rfl
 g16:=by kernel_rfl
 g17:=by kernel_rfl
 g18:=by kernel_rfl
 g19:=by kernel_rfl
 t80:=Tryz.underlying138
 a80:=Tryz.isAgg138
 z80:=Tryz.sizeOf138
 v80:=Tryz.zeroValue138
 i0:=by kernel_rfl
 i2:=by kernel_rfl
 i3:=by kernel_rfl
 i4:=by kernel_rfl
 i5:=by kernel_rfl
 i9:=by kernel_rfl
 i20:=by kernel_rfl
 i21:=by kernel_rfl
 i37:=by kernel_rfl
 i46:=by kernel_rfl
 i51:=by kernel_rfl
 i53:=by kernel_rfl
 i75:=by kernel_rfl
 i76:=by kernel_rfl
 i80:=by kernel_rfl
 i85:=by kernel_rfl
 i127:=by kernel_rfl
 i143:=by kernel_rfl
 i145:=by kernel_rfl
 i167:=by kernel_rfl
 i168:=by kernel_rfl
 i171:=by kernel_rfl
 i173:=by kernel_rfl
 i175:=by kernel_rfl
 i210:=by kernel_rfl
 i212:=by kernel_rfl
 i232:=by kernel_rfl
 i233:=by kernel_rfl
 m15:=by kernel_rfl
 m16:=by kernel_rfl
 m17:=by kernel_rfl
 m18:=by kernel_rfl
 m19:=by kernel_rfl
 c0:=by kernel_rfl
 c2:=by kernel_rfl
 c3:=by kernel_rfl
 c4:=by kernel_rfl
 c5:=by kernel_rfl
 c9:=by kernel_rfl
 c20:=by kernel_rfl
 c21:=by kernel_rfl
 c37:=by kernel_rfl
 c46:=by kernel_rfl
 c51:=by kernel_rfl
 c53:=by kernel_rfl
 c75:=by kernel_rfl
 c76:=by kernel_rfl
 c80:=by kernel_rfl
 c85:=by kernel_rfl
 c127:=by kernel_rfl
 c143:=by kernel_rfl
 c145:=by kernel_rfl
 c167:=by kernel_rfl
 c168:=by kernel_rfl
 c171:=by kernel_rfl
 c173:=by kernel_rfl
 c175:=by kernel_rfl
 c210:=by kernel_rfl
 c212:=by kernel_rfl
 c213:=by kernel_rfl
 c232:=by kernel_rfl
 c233:=by kernel_rfl
def Tryz.laysItoa_ren:Go.Shelf.Ren:=⟨fun|171=>107|243=>152|246=>190|283=>215|284=>216|285=>217|286=>218|129=>206|317=>236|318=>237|319=>238|320=>239|337=>244|338=>245|n=>n,fun|3=>3|9=>9|2=>2|4=>4|171=>265|0=>0|53=>259|37=>38|5=>5|173=>267|212=>289|51=>206|20=>20|213=>290|46=>149|232=>296|233=>297|n=>n,fun|17=>4|18=>5|19=>6|n=>n⟩
theorem Tryz.laysItoa:Go.Proofs.LaysM.n171 Tryz.prog Tryz.laysItoa_ren where
 mixed:=by kernel_rfl
 f129:=Tryz.func206.trans (congrArg some (by kernel_rfl))
 f171:=Tryz.func107.trans (congrArg some (by kernel_rfl))
 f243:=Tryz.func152.trans (congrArg some (by kernel_rfl))
 f246:=Tryz.func190.trans (congrArg some (by kernel_rfl))
 f283:=Tryz.func215.trans (congrArg some (by kernel_rfl))
 f284:=Tryz.func216.trans (congrArg some (by kernel_rfl))
 f285:=Tryz.func217.trans (congrArg some (by kernel_rfl))
 f286:=Tryz.func218.trans (congrArg some (by kernel_rfl))
 f317:=Tryz.func236.trans (congrArg some (by kernel_rfl))
 f318:=Tryz.func237.trans (congrArg some (by kernel_rfl))
 f319:=Tryz.func238.trans (congrArg some (by kernel_rfl))
 f320:=Tryz.func239.trans (congrArg some (by kernel_rfl))
 f337:=Tryz.func244.trans (congrArg some (by kernel_rfl))
 f338:=Tryz.func245.trans (congrArg some (by kernel_rfl))
 t0:=Tryz.underlying0
 a0:=Tryz.isAgg0
 z0:=Tryz.sizeOf0
 v0:=Tryz.zeroValue0
 t2:=Tryz.underlying2
 a2:=Tryz.isAgg2
 z2:=Tryz.sizeOf2
 v2:=Tryz.zeroValue2
 t3:=Tryz.underlying3
 a3:=Tryz.isAgg3
 z3:=Tryz.sizeOf3
 v3:=Tryz.zeroValue3
 t4:=Tryz.underlying4
 a4:=Tryz.isAgg4
 z4:=Tryz.sizeOf4
 v4:=Tryz.zeroValue4
 t5:=Tryz.underlying5
 a5:=Tryz.isAgg5
 z5:=Tryz.sizeOf5
 v5:=Tryz.zeroValue5
 t9:=Tryz.underlying9
 a9:=Tryz.isAgg9
 z9:=Tryz.sizeOf9
 v9:=Tryz.zeroValue9
 t20:=Tryz.underlying20
 a20:=Tryz.isAgg20
 z20:=Tryz.sizeOf20
 v20:=Tryz.zeroValue20
 t37:=Tryz.underlying38
 a37:=Tryz.isAgg38
 z37:=Tryz.sizeOf38
 v37:=Tryz.zeroValue38
 t46:=Tryz.underlying149
 a46:=Tryz.isAgg149
 z46:=Tryz.sizeOf149
 v46:=Tryz.zeroValue149
 t51:=Tryz.underlying206
 a51:=Tryz.isAgg206
 z51:=Tryz.sizeOf206
 v51:=Tryz.zeroValue206
 t53:=Tryz.underlying259
 a53:=Tryz.isAgg259
 z53:=Tryz.sizeOf259
 v53:=Tryz.zeroValue259
 t171:=Tryz.underlying265
 a171:=Tryz.isAgg265
 z171:=Tryz.sizeOf265
 v171:=Tryz.zeroValue265
 t173:=Tryz.underlying267
 a173:=Tryz.isAgg267
 z173:=Tryz.sizeOf267
 v173:=Tryz.zeroValue267
 t212:=Tryz.underlying289
 a212:=Tryz.isAgg289
 z212:=Tryz.sizeOf289
 v212:=Tryz.zeroValue289
 t213:=Tryz.underlying290
 a213:=Tryz.isAgg290
 z213:=Tryz.sizeOf290
 t232:=Tryz.underlying296
 a232:=Tryz.isAgg296
 z232:=Tryz.sizeOf296
 v232:=Tryz.zeroValue296
 t233:=Tryz.underlying297
 a233:=Tryz.isAgg297
 z233:=Tryz.sizeOf297
 v233:=Tryz.zeroValue297
 g17:=by kernel_rfl
 g18:=by kernel_rfl
 g19:=by kernel_rfl
 i0:=by kernel_rfl
 i2:=by kernel_rfl
 i3:=by kernel_rfl
 i4:=by kernel_rfl
 i5:=by kernel_rfl
 i9:=by kernel_rfl
 i20:=by kernel_rfl
 i37:=by kernel_rfl
 i46:=by kernel_rfl
 i51:=by kernel_rfl
 i53:=by kernel_rfl
 i171:=by kernel_rfl
 i173:=by kernel_rfl
 i212:=by kernel_rfl
 i232:=by kernel_rfl
 i233:=by kernel_rfl
 m17:=by kernel_rfl
 m18:=by kernel_rfl
 m19:=by kernel_rfl
end Go.Proofs
namespace Go.Proofs.Y
open Go.Abs
def Dn(s:Str):Option Int:=match Lib.atoiAll s with
 | .ok n=>if Lib.itoa n=s∧n≤1000000 then some n else none
 |_=>none
def dl(r:Rd):Int×Rd:=match Dn (eB r).1 with
 |some n=>(n,(eB r).2)
 |none=>(0,⟨(eB r).2.l,true⟩)
def vb(s:Str):Val:=⟨2,0,(s.drop 1).take (s.length - 2)⟩
def kT(r:Rd):(Val×Bool)×Rd:=
 if(al r [[110,117,108,108]]).1 then((af,true),(al r [[110,117,108,108]]).2)
 else if(al r [[45]]).1 then((⟨1,-(dl (al r [[45]]).2).1,[]⟩,true),(dl (al r [[45]]).2).2)
 else if r.front≠ [] ∧lh (r.front.headD 0)=true then((⟨1,(dl r).1,[]⟩,true),(dl r).2)
 else if r.front≠ [] ∧r.front.headD 0=39 then((vb r.front,true),⟨(eB r).2.l,(eB r).2.bad|| !aw (vb r.front)⟩)
 else((af,false),r)
def xM(r:Rd):Ex×Rd:=(nilE,⟨r.l,true⟩)
def BJ(op:Int)(a b:Ex):Ex:= .mk op af [] [] 0 [a,b]
def ex1(op:Int)(a:Ex):Ex:= .mk op af [] [] 0 [a]
def qq(orF:Rd→Ex×Rd)(r:Rd):Ex×Rd:=
 if r.bad then xM r
 else if(al r [[40]]).1 then((orF (al r [[40]]).2).1,aL (orF (al r [[40]]).2).2 [[41]])
 else if(kT r).1.2 then(.mk 1 (kT r).1.1 [] [] 0 [],(kT r).2)
 else qQ r
def me(atom:Rd→Ex×Rd):Nat→Ex→Rd→Ex×Rd
 |0,e,r=>(e,r)
 |n+1,e,r=>
  if r.bad then(e,r)
  else if(al r [[43]]).1 then me atom n (BJ 3 e (atom (al r [[43]]).2).1) (atom (al r [[43]]).2).2
  else if(al r [[45]]).1 then me atom n (BJ 4 e (atom (al r [[45]]).2).1) (atom (al r [[45]]).2).2
  else(e,r)
def Bb(atom:Rd→Ex×Rd)(r:Rd):Ex×Rd:=me atom ((atom r).2.l.length+1) (atom r).1 (atom r).2
def qp(testN sum:Rd→Ex×Rd)(r:Rd):Ex×Rd:=
 if r.bad then xM r
 else if(al r [[110,111,116]]).1 then(ex1 9 (testN (al r [[110,111,116]]).2).1,(testN (al r [[110,111,116]]).2).2)
 else if(al (sum r).2 [[105,115],[110,117,108,108]]).1 then(ex1 10 (sum r).1,(al (sum r).2 [[105,115],[110,117,108,108]]).2)
 else if(al (sum r).2 [[61]]).1 then(BJ 5 (sum r).1 (sum (al (sum r).2 [[61]]).2).1,(sum (al (sum r).2 [[61]]).2).2)
 else if(al (sum r).2 [[60]]).1 then(BJ 6 (sum r).1 (sum (al (sum r).2 [[60]]).2).1,(sum (al (sum r).2 [[60]]).2).2)
 else sum r
def gw(op:Int)(w:Str)(sub:Rd→Ex×Rd):Nat→Ex→Rd→Ex×Rd
 |0,e,r=>(e,r)
 |n+1,e,r=>
  if r.bad then(e,r)
  else if(al r [w]).1 then gw op w sub n (BJ op e (sub (al r [w]).2).1) (sub (al r [w]).2).2
  else(e,r)
def oi(op:Int)(w:Str)(sub:Rd→Ex×Rd)(r:Rd):Ex×Rd:=gw op w sub ((sub r).2.l.length+1) (sub r).1 (sub r).2
def Na(test:Rd→Ex×Rd):Rd→Ex×Rd:=oi 7 [97,110,100] test
def MZ(test:Rd→Ex×Rd):Rd→Ex×Rd:=oi 8 [111,114] (Na test)
def Mb:Nat→Rd→Ex×Rd
 |0=>xM
 |k+1=>qp (Mb k) (Bb (qq (MZ (Mb k))))
def mf(k:Nat):Rd→Ex×Rd:=MZ (Mb k)
structure Sf (r r':Rd):Prop where
 h:r'.l<:+r.l
def Sf.refl(r:Rd):Sf r r:=⟨List.suffix_refl _⟩
def Sf.trans{a b c:Rd}(h:Sf a b)(k:Sf b c):Sf a c:=⟨k.h.trans h.h⟩
def Sf.ok{r r':Rd}(h:Sf r r')(k:RdOk r):RdOk r':=⟨Nat.le_trans h.h.length_le k.n,fun s hs=>k.w s (h.h.subset hs)⟩
def Sf.le{r r':Rd}(h:Sf r r'):r'.l.length≤r.l.length:=h.h.length_le
def Sf.mark(r:Rd)(b:Bool):Sf r ⟨r.l,b⟩:=⟨List.suffix_refl _⟩
def Sf.to{r r':Rd}(h:Sf r r')(b:Bool):Sf r ⟨r'.l,b⟩:=⟨h.h⟩
def uc(r:Rd):Sf r (eB r).2:=by
 unfold eB;split
 · exact .mark r true
 · exact⟨List.drop_suffix _ _⟩
def aV(r:Rd)(ws:List Str):Sf r (al r ws).2:=by
 unfold al;split
 · exact .refl r
 · split
   · exact⟨List.drop_suffix _ _⟩
   · exact .refl r
def lX{r:Rd}{ws:List Str}(h:(al r ws).1=true)(hw:ws≠ []):(al r ws).2.l.length<r.l.length:=by
 unfold al at h⊢;split at h
 · cases h
 · rename_i h1;rw[if_neg h1];split at h
   · rename_i h2;rw[if_pos h2];have:0<ws.length:=gU hw;simp only[lD];omega
   · cases h
def bJ(r:Rd)(ws:List Str):Sf r (aL r ws):=by
 unfold aL;split
 · exact aV r ws
 · exact(aV r ws).to true
def bA(r:Rd):Sf r (aq r).2:=(uc r).to _
def LR(r:Rd):Sf r (qQ r).2:=by
 unfold qQ;split
 · exact((bA r).trans (aV _ _)).trans (bA _)
 · exact(bA r).trans (aV _ _)
def rW(r:Rd):Sf r (dl r).2:=by
 unfold dl;split
 · exact uc r
 · exact(uc r).to true
def LS(r:Rd):Sf r (kT r).2:=by
 unfold kT;split
 · exact aV r _
 split
 · exact(aV r _).trans (rW _)
 split
 · exact rW r
 split
 · exact(uc r).to _
 · exact .refl r
def jJ(f:Rd→Ex×Rd):Prop:= ∀r,Sf r (f r).2
def oL:jJ xM:=fun r=> .mark r true
def mZ{o:Rd→Ex×Rd}(h:jJ o):jJ (qq o):=fun r=>by
 unfold qq;split
 · exact oL r
 split
 · exact((aV r _).trans (h _)).trans (bJ _ _)
 split
 · exact LS r
 · exact LR r
def sJ{a:Rd→Ex×Rd}(h:jJ a): ∀(n:Nat) (e:Ex) (r:Rd),Sf r (me a n e r).2
 |0,e,r=> .refl r
 |n+1,e,r=>by
  unfold me;split
  · exact .refl r
  split
  · exact((aV r _).trans (h _)).trans (sJ h n _ _)
  split
  · exact((aV r _).trans (h _)).trans (sJ h n _ _)
  · exact .refl r
def vY{a:Rd→Ex×Rd}(h:jJ a):jJ (Bb a):=fun r=>(h r).trans (sJ h _ _ _)
def Gi{t s:Rd→Ex×Rd}(ht:jJ t)(hs:jJ s):jJ (qp t s):=fun r=>by
 unfold qp;split
 · exact oL r
 split
 · exact(aV r _).trans (ht _)
 split
 · exact(hs r).trans (aV _ _)
 split
 · exact((hs r).trans (aV _ _)).trans (hs _)
 split
 · exact((hs r).trans (aV _ _)).trans (hs _)
 · exact hs r
def vZ{op:Int}{w:Str}{s:Rd→Ex×Rd}(h:jJ s): ∀(n:Nat) (e:Ex) (r:Rd),Sf r (gw op w s n e r).2
 |0,e,r=> .refl r
 |n+1,e,r=>by
  unfold gw;split
  · exact .refl r
  split
  · exact((aV r _).trans (h _)).trans (vZ h n _ _)
  · exact .refl r
def dR{op:Int}{w:Str}{s:Rd→Ex×Rd}(h:jJ s):jJ (oi op w s):=fun r=>(h r).trans (vZ h _ _ _)
def jH: ∀k,jJ (Mb k)
 |0=>oL
 |k+1=>Gi (jH k) (vY (mZ (dR (dR (jH k)))))
def fj(k:Nat):jJ (mf k):=dR (dR (jH k))
def Hh{a b:UInt8}:a<b↔a.toNat<b.toNat:=UInt8.lt_iff_toNat_lt
def Ct{a b:Int}(h0:0≤a)(h1:a<b)(h2:b<4294967296)(x y:List UInt8):Op.bytesLess (Ef a++x) (Ef b++y)=true:=by
 have a0:=jE (n:=a / 16777216) C;have a1:=jE (n:=a / 65536) C;have a2:=jE (n:=a / 256) C;have a3:=jE (n:=a) C;have b0:=jE (n:=b / 16777216) C;have b1:=jE (n:=b / 65536) C;have b2:=jE (n:=b / 256) C;have b3:=jE (n:=b) C;simp only[Ef,List.cons_append,List.nil_append,Op.bytesLess];generalize u8 (a / 16777216)=c0 at*
 generalize u8 (a / 65536)=c1 at*
 generalize u8 (a / 256)=c2 at*
 generalize u8 a=c3 at*
 generalize u8 (b / 16777216)=d0 at*
 generalize u8 (b / 65536)=d1 at*
 generalize u8 (b / 256)=d2 at*
 generalize u8 b=d3 at*
 have ha:a=16777216*(c0.toNat:Int)+65536*c1.toNat+256*c2.toNat+c3.toNat:=C;have hb:b=16777216*(d0.toNat:Int)+65536*d1.toNat+256*d2.toNat+d3.toNat:=C;clear a0 a1 a2 a3 b0 b1 b2 b3;have e0:=c0.toNat_lt;have e1:=c1.toNat_lt;have e2:=c2.toNat_lt;have e3:=c3.toNat_lt;have g0:=d0.toNat_lt;have g1:=d1.toNat_lt;have g2:=d2.toNat_lt;have g3:=d3.toNat_lt;have key:c0.toNat<d0.toNat∨c0.toNat=d0.toNat∧(c1.toNat<d1.toNat∨c1.toNat=d1.toNat∧(c2.toNat<d2.toNat∨c2.toNat=d2.toNat∧c3.toNat<d3.toNat)):=C;simp only[Bool.or_eq_true,aE,decide_eq_true_eq,beq_iff_eq,Hh];rcases key with h|⟨h,h'|⟨h',h''|⟨h'',h3⟩⟩⟩
 · exact .inl h
 · exact .inr ⟨UInt8.toNat_inj.1 h,.inl h'⟩
 · exact .inr ⟨UInt8.toNat_inj.1 h,.inr ⟨UInt8.toNat_inj.1 h',.inl h''⟩⟩
 · exact .inr ⟨UInt8.toNat_inj.1 h,.inr ⟨UInt8.toNat_inj.1 h',.inr ⟨UInt8.toNat_inj.1 h'',.inl h3⟩⟩⟩
def rN: ∀{s t:List UInt8},t.all iJ=true→Op.bytesLess s t=true→ ∀x y,Op.bytesLess (s++0::x) (t++0::y)=true
 |_,[],_,h,x,y=>by simp[Op.bytesLess] at h
 | [],b::t,ht,_,x,y=>by
   simp only[List.all_cons,aE] at ht;have hb:(0:UInt8)<b:=by
    rw[Hh];have:=ht.1;simp[iJ] at this;have e:(0:UInt8).toNat=0:=rfl;omega
   simp[Op.bytesLess,hb]
 |a::s,b::t,ht,h,x,y=>by
  simp only[List.all_cons,aE] at ht;simp only[Op.bytesLess,Bool.or_eq_true,aE,List.cons_append] at h⊢;exact h.imp id (fun⟨h1,h2⟩=>⟨h1,rN ht.2 h2 x y⟩)
def Bn(x:List UInt8):Op.bytesLess x x=false:=by rw[iy];simp[List.lt_irrefl]
def Do{x y:List UInt8}(h:Op.bytesLess x y=true):Op.bytesLess y x=false:=by
 rw[iy] at h⊢;simp only[decide_eq_true_eq,decide_eq_false_iff_not] at h⊢;exact List.lt_asymm h
def vF{x y:List UInt8}(h:Op.bytesLess x y=false)(h':Op.bytesLess y x=false):x=y:=by
 rw[iy] at h h';simp only[decide_eq_false_iff_not] at h h';exact List.le_antisymm (List.not_lt.1 h') (List.not_lt.1 h)
def Il(z:List UInt8){x y:List UInt8}:Op.bytesLess (z++x) (z++y)=Op.bytesLess x y:=by
 induction z with
 |nil=>rfl
 |cons a z ih=>
  simp only[List.cons_append,Op.bytesLess,ih];have: ¬a<a:=by rw[Hh];omega
  simp[this]
def sQ(a:Int):fN a a=0:=by simp[fN]
def sO(a:List UInt8):ly a a=0:=by simp[ly,Bn]
def zX{v w:Val}(hv:aw v=true)(hw:aw w=true):v=w∧cD v w=0∨(cD v w= -1∧ ∀x y,Op.bytesLess (ca v++x) (ca w++y)=true)∨(cD v w=1∧ ∀x y,Op.bytesLess (ca w++y) (ca v++x)=true):=by
 rcases nw hv with rfl|⟨n,rfl,h0,h1⟩|⟨s,rfl,hl,hs⟩<;>rcases nw hw with rfl|⟨m,rfl,k0,k1⟩|⟨t,rfl,kl,ks⟩
 · left;exact⟨rfl,by simp[cD,sQ,sO,tU]⟩
 · right;left;rw[pE,lL]
   exact⟨by simp[cD,tU,fN],fun x y=>by simp[Op.bytesLess]⟩
 · right;left;rw[pE,lK]
   exact⟨by simp[cD,tU,fN],fun x y=>by simp[Op.bytesLess]⟩
 · right;right;rw[pE,lL]
   exact⟨by simp[cD,tU,fN],fun x y=>by simp[Op.bytesLess]⟩
 · rw[lL,lL];by_cases h:n=m
   · subst h;left;exact⟨rfl,by simp[cD,sQ,sO,tU]⟩
   · by_cases h':n<m
     · right;left
       refine⟨by simp[cD,tU,fN,h'],fun x y=> ?_⟩;have:=Ct (a:=n+1073741824) (b:=m+1073741824) C C C x y;simp only[List.cons_append,Op.bytesLess,this];simp
     · right;right
       have h'':m<n:=C;refine⟨by simp[cD,tU,fN,h',h''],fun x y=> ?_⟩;have:=Ct (a:=m+1073741824) (b:=n+1073741824) C C C y x;simp only[List.cons_append,Op.bytesLess,this];simp
 · right;left;rw[lL,lK]
   exact⟨by simp[cD,tU,fN],fun x y=>by simp[Op.bytesLess]⟩
 · right;right;rw[pE,lK]
   exact⟨by simp[cD,tU,fN],fun x y=>by simp[Op.bytesLess]⟩
 · right;right;rw[lL,lK]
   exact⟨by simp[cD,tU,fN],fun x y=>by simp[Op.bytesLess]⟩
 · rw[lK,lK];cases h:Op.bytesLess s t with
   |true=>
    right;left
    refine⟨by simp[cD,tU,fN,ly,h],fun x y=> ?_⟩;have:=rN ks h x y;simp only[List.cons_append,List.append_assoc,List.nil_append,Op.bytesLess,this];simp
   |false=>
    cases h':Op.bytesLess t s with
    |true=>
     right;right
     refine⟨by simp[cD,tU,fN,ly,h,h'],fun x y=> ?_⟩;have:=rN hs h' y x;simp only[List.cons_append,List.append_assoc,List.nil_append,Op.bytesLess,this];simp
    |false=>
     obtain rfl:=vF h h';left;exact⟨rfl,by simp[cD,sQ,sO,tU]⟩
def BH{x:IV}(h:Fit book .str x): ∃s:Str,x=S s:=by
 obtain⟨s,rfl,_⟩:=h.str_inv;exact⟨s,rfl⟩
def zN{xs:List IV}(h:Fits book [.str] xs): ∃s:Str,xs=Str.c s:=by
 obtain⟨x,r,rfl,h1,h2⟩:=h.cons_inv;obtain rfl:=h2.nil_inv;obtain⟨s,rfl⟩:=BH h1;exact⟨s,rfl⟩
def oI{x:IV}(h:Fit book (.sl 72) x): ∃l:List Str,x= .sl (l.map Str.c)∧l.length≤140737488355328:=by
 obtain⟨es,rfl,hl,he⟩:=h.sl_inv (n:=16) (cts:= [.str]) U;obtain⟨vs,rfl,hv⟩:=Ij (f:=Str.c) (Q:=fun _ _=>True) (fun e h=>by
  obtain⟨s,hs⟩:=zN (he e h);exact⟨s,hs,trivial⟩)
 rw[lM] at hl;have:reachBytes≤2251799813685248:=by decide
 exact⟨vs,rfl,by omega⟩
end Go.Proofs.Y
namespace Go.Proofs.Y
open Go.Abs Go.Proofs.Tryz
open Go.RowKit (Below)
attribute [local irreducible] L Code.wp bodyPost Exit.then Exit.inBlock
variable [Errs]
def Jz(s:Str)(res:AV):Prop:=(∃v,Lib.atoiAll s= .ok v∧res= .tup [aI v,.iv (.im .nilIface)])∨((∀v,Lib.atoiAll s≠ .ok v)∧ ∃x te pe,res= .tup [aI x,.iv (.im (.iface te pe))])
theorem Eg(s:Str)(hs:s.length≤1000000)(E:Env)(w:World)(us:List Value)(hr:RelL E w [aS s] us)(hG:Glob cA E w):
 Calls prog 106 us.toArray w fun e w'=> ∃res u,Jz s res∧e= .returned u∧RepA E w' res u∧Below w.heap.size w w':=by
 rw[hr.im1]
 have hsz:(⟨s.toArray⟩:ByteArray).size=s.length:=by simp[ByteArray.size]
 have hl:(⟨s.toArray⟩:ByteArray).data.toList=s:=rfl
 cases h:Lib.atoiAll s with
 |ok v=>
  refine(Any.strconv_Atoi_ok laysAtoi ⟨s.toArray⟩ (by rw[hsz];omega) v (by rw[hl];exact h) w).mono ?_
  rintro e w' ⟨rfl,hw⟩
  refine⟨_,_,.inl ⟨v,h,rfl⟩,rfl,RepA.tup2 (.im rfl) (.im rfl),?_⟩
  rcases hw with rfl|⟨t,rfl⟩
  · exact Below.refl _ _
  · exact Lib.bytesWorld_below _ _ _
 |range=>
  refine(Any.strconv_Atoi_range laysAtoi ⟨s.toArray⟩ (by rw[hsz];omega) (by rw[hl];exact h) Errs.r w (hG.one Ng) Errs.hr).mono ?_
  rintro e w' ⟨N,rfl,_,_,hb⟩
  exact⟨_,_,.inr ⟨fun v e=>(by rw[h] at e;cases e),_,_,_,rfl⟩,rfl,RepA.tup2 (.im rfl) (.im rfl),hb⟩
 |_=>
  refine(Any.strconv_Atoi_syntax laysAtoi ⟨s.toArray⟩ (by rw[hsz];omega) (by rw[hl];exact h) Errs.s w (hG.one Nf) Errs.hs).mono ?_
  rintro e w' ⟨N,rfl,_,_,hb⟩
  exact⟨_,_,.inr ⟨fun v e=>(by rw[h] at e;cases e),_,_,_,rfl⟩,rfl,RepA.tup2 (.im rfl) (.im rfl),hb⟩
theorem Iq(n:Int)(h0: -9223372036854775808≤n)(h1:n≤9223372036854775807):CallG cA prog 107 [aI n] [] [] [] (aS (Lib.itoa n)):=by
 refine CallG.below rfl (fun E w us hr hG=> ?_)
 rw[hr.im1]
 have ht:Lib.TabIs prog w "internal/strconv.uint64pow10" .u64 Lib.pow10Tab:=by
  obtain⟨cs,ty,sp,e1,e2⟩:=hG.1.2 _ _ LG (fun e=>by have:=congrArg List.length e;simp[tp,Lib.pow10Tab_length] at this)
  have hg:Program.globalNamed prog "internal/strconv.uint64pow10" =some 4:=laysItoa.m17
  have:cs=(Lib.pow10Tab.map fun z=>Value.int .u64 z).toArray:=by
   apply Array.ext
   · rw[e2];simp[tp]
   · intro i h1 h2
     have hi:i<Lib.pow10Tab.length:=by simpa using h2
     obtain⟨_,v,c1,c2⟩:=hG.2 _ _ LG i _ (by rw[tp,gP,gG hi];rfl)
     have:=c2.im_eq
     subst this
     simp only[World.cell?,e1] at c1
     simp at c1
     obtain⟨_,c1⟩:=Array.getElem?_eq_some_iff.1 c1
     simpa using c1
  subst this
  simp[Lib.TabIs,World.var?,hg,e1]
 refine(Any.strconv_Itoa laysItoa n h0 h1 w ht).mono ?_
 rintro e w' ⟨rfl,k,os,rfl⟩
 refine⟨rfl,rfl,rfl,rfl,?_,fun j hj=> ?_⟩
 · simp[Go.Sort.grow,World.drewN]
 · simp[Go.Sort.grow,World.drewN,Array.getElem?_append,hj]
instance:IfTy prog 168:=⟨kR⟩
theorem Eh{s:Str}: ∀res,Jz s res→AV.mentIn [] res=true:=by
 rintro res (⟨v,_,rfl⟩|⟨_,x,te,pe,rfl⟩)<;>rfl
theorem qt(r:Rd)(hr:RdOk r):CallG cA prog 81 [.ptr 1000 0] [(1000,ep r)] [(1000,ep (dl r).2)] [] (aI (dl r).1):=by
 have kn:=vv (gs:=cA) r
 have hl:=vu hr
 unfold dl
 generalize eB r=p at*
 obtain⟨s,l,bad⟩:=p
 dsimp only at kn hl⊢
 have kA:=Eg s hl
 refine CallG.intro _ func81 rfl ntmps81 rfl (fun w0 E0 hG=> ?_)
 (repeat' (first|(apply JR (Jz s);rfl;exact hG;exact kA;rfl;exact Eh)|(refine LW.is (s_Q ?_))|refine am ?_|refine ak (fun hb hp=> ?_) (fun hb hp=> ?_)|fail))
 rintro res (⟨v,hv,rfl⟩|⟨hno,x,te,pe,rfl⟩)
 · obtain⟨b0,b1⟩:=Lib.atoiAll_bounds hv
   have ki:=Iq v b0 b1
   have hN:Dn s=if Lib.itoa v=s∧v≤1000000 then some v else none:=by unfold Dn;rw[hv]
   by_cases h1:Lib.itoa v=s
   · have q1:(!(Lib.itoa v==s))=false:=by simp[h1]
     by_cases h2:v≤1000000
     · have q2:decide (1000000<v)=false:=decide_eq_false C
       rw[hN,if_pos ⟨h1,h2⟩]
       (repeat' (first|(refine LW.is ?_;first|(apply ag;rfl;apply yQ;rfl))|refine am ?_|refine ak (fun hb hp=> ?_) (fun hb hp=> ?_)|fail))
       all_goals refine gM ?_ ?_
       all_goals rfl
     · have q2:decide (1000000<v)=true:=decide_eq_true C
       rw[hN,if_neg (fun h=>h2 h.2)]
       (repeat' (first|(refine LW.is ?_;first|(apply ag;rfl;apply yQ;rfl))|refine am ?_|refine ak (fun hb hp=> ?_) (fun hb hp=> ?_)|fail))
       all_goals refine gM ?_ ?_
       all_goals rfl
   · have q1:(!(Lib.itoa v==s))=true:=by simp[h1]
     rw[hN,if_neg (fun h=>h1 h.1)]
     (repeat' (first|(refine LW.is ?_;first|(apply ag;rfl;apply yQ;rfl))|refine am ?_|refine ak (fun hb hp=> ?_) (fun hb hp=> ?_)|fail))
     all_goals refine gM ?_ ?_
     all_goals rfl
 · have hN:Dn s=none:=by
    unfold Dn
    split
    · rename_i v hv;exact absurd hv (hno v)
    · rfl
   rw[hN]
   (repeat' (first|(refine LW.is ?_;first|(apply ag;rfl;apply JH;rfl))|refine am ?_|refine ak (fun hb hp=> ?_) (fun hb hp=> ?_)|fail))
   all_goals refine gM ?_ ?_
   all_goals rfl
end Go.Proofs.Y
namespace Go.Abs
def LJ{c:Ctx}{st FB:St}(h:Wk c st FB:=by(refine Wk.mk' (by intro id h;simp[keys] at h;subst h;rfl) ?_ ?_ ?_<;>repeat' (first|exact WkF.nil|exact WkB.nil|exact WkT.nil|(refine WkF.cons rfl (Sub.refl _) ?_)|(refine WkB.cons rfl rfl (Subs.refl _) ?_)|(refine WkT.cons rfl ?_)))):Wk c st FB:=h
end Go.Abs
namespace Go.Proofs.Y
open Go.Abs Go.Proofs.Tryz
attribute [local irreducible] L Code.wp bodyPost Exit.then Exit.inBlock
variable [Errs]
def fG(f:FuncId)(d:Int)(m:Rd→Ex×Rd):Prop:= ∀r,RdOk r→CallG cA prog f [.ptr 1000 0,aI d] [(1000,ep r)] [(1000,ep (m r).2)] [] (.agg ((m r).1.cs.map .iv))
def ua{N:Nat}(op:Int)(a b:Ex):Subs [aI op,aI 0,aI 0,aS [],aS [],aS [],aI 0,.row N [a.cs,b.cs]] ((BJ op a b).cs.map .iv):=by
 refine .cons fR (.cons fR (.cons fR (.cons fR (.cons fR (.cons fR (.cons fR (.cons (Sub.trans (Sub.row _ _) (Sub.of_eq ?_)) .nil)))))));show AV.iv (.sl [a.cs,b.cs])= .iv (.sl ([a,b].map Ex.c));rw[List.map_cons,List.map_cons,aN,aN];rfl
def cE{r:Rd}{ws:List Str}(h:(al r ws).1=false):(al r ws).2=r:=by
 unfold al at h⊢;split
 · rfl
 · rename_i h1;rw[if_neg h1] at h;split
   · rename_i h2;rw[if_pos h2] at h;cases h
   · rfl
abbrev Gw:Box:=⟨78,.l [aI 0,aI 0,aI 0,aS [],aS [],aS [],aI 0,.nils]⟩
def JN{d:Int}{f:Rd→Ex×Rd}(hf:jJ f)(ka:fG 211 d f):fG 184 d (Bb f):=by
 intro r hr;have k0:=ka r hr;have hr1:=(hf r).ok hr;unfold Bb;generalize hW:me f ((f r).2.l.length+1) (f r).1 (f r).2=W;refine iG func184 ntmps184 (fun w0 E0 hG=> ?_);(repeat' first|intro hb hp|refine LW.is (s_Q ?_)|refine am ?_|refine ak ?_ ?_|fail)
 refine ae (ι:=Nat×Ex×Rd) (fun i=>⟨[(5,.ptr 5 0),(4,.ptr 4 0),(1,aI d),(0,.ptr 1000 0)],[(1000,ep i.2.2),(5,⟨78,.l (i.2.1.cs.map .iv)⟩),(4,Gw)],[]⟩) (fun i=>i.1) (fun i=>me f i.1 i.2.1 i.2.2=W∧i.2.2.l.length<i.1∧RdOk i.2.2) (i0:=((f r).2.l.length+1,(f r).1,(f r).2)) ?_ ⟨hW,Nat.lt_succ_self _,hr1⟩ ?_
 · exact LJ
 clear hW k0 hr1 hr;rintro ⟨n,e,r⟩ ⟨hI,hn,hr⟩ K hK;dsimp only at hI hn hr hK⊢;cases n with
 |zero=>omega
 |succ n=>
 unfold me at hI;cases hb:r.bad with
 |true=>
  rw[if_pos hb] at hI;subst hI;have q:(!r.bad)=false:=by rw[hb];rfl
  refine wz ?_;all_goals refine gM ?_ ?_
  all_goals rfl
 |false=>
  rw[if_neg (by rw[hb];decide)] at hI;have q:(!r.bad)=true:=by rw[hb];rfl
  have k1:=aQ (gs:=cA) r [[43]] hr dD;cases h1:(al r [[43]]).1 with
  |true=>
   rw[if_pos h1] at hI;have hl:=lX h1 dD;have h2:=ka (al r [[43]]).2 ((aV r _).ok hr);have hs:=hf (al r [[43]]).2;have hok:=hs.ok ((aV r _).ok hr);have hle:=hs.le;rw[h1] at k1;generalize f (al r [[43]]).2=p at*
   generalize (al r [[43]]).2=r1 at*
   obtain⟨x,r2⟩:=p;dsimp only at h2 hI hok hle;(repeat' first|intro hb hp|refine LW.is (s_Q ?_)|refine DR.is (d_Q ?_)|refine am ?_|refine ak ?_ ?_|fail)
   exact hK _ (n,BJ 3 e x,r2) ⟨hI,by dsimp only;omega,hok⟩ (Nat.lt_succ_self _) (Wk.mk' kK F4 (wB (.cons U U (ua 3 e x) B1)) .nil)
  |false=>
   rw[if_neg (by rw[h1];decide)] at hI;rw[h1,cE h1] at k1;have k2:=aQ (gs:=cA) r [[45]] hr dD;cases h3:(al r [[45]]).1 with
   |true=>
    rw[if_pos h3] at hI;have hl:=lX h3 dD;have h2:=ka (al r [[45]]).2 ((aV r _).ok hr);have hs:=hf (al r [[45]]).2;have hok:=hs.ok ((aV r _).ok hr);have hle:=hs.le;rw[h3] at k2;generalize f (al r [[45]]).2=p at*
    generalize (al r [[45]]).2=r1 at*
    obtain⟨x,r2⟩:=p;dsimp only at h2 hI hok hle;(repeat' first|intro hb hp|refine LW.is (s_Q ?_)|refine DR.is (d_Q ?_)|refine am ?_|refine ak ?_ ?_|fail)
    exact hK _ (n,BJ 4 e x,r2) ⟨hI,by dsimp only;omega,hok⟩ (Nat.lt_succ_self _) (Wk.mk' kK F4 (wB (.cons U U (ua 4 e x) B1)) .nil)
   |false=>
    rw[if_neg (by rw[h3];decide)] at hI;subst hI;rw[h3,cE h3] at k2;(repeat' first|intro hb hp|refine LW.is (s_Q ?_)|refine am ?_|refine ak ?_ ?_|fail)
    all_goals refine gM ?_ ?_
    all_goals rfl
def xL{d:Int}{f:Rd→Ex×Rd}(hf:jJ f)(ka:fG 149 d f):fG 105 d (oi 7 [97,110,100] f):=by
 intro r hr;have k0:=ka r hr;have hr1:=(hf r).ok hr;unfold oi;generalize hW:gw 7 [97,110,100] f ((f r).2.l.length+1) (f r).1 (f r).2=W;refine iG func105 ntmps105 (fun w0 E0 hG=> ?_);(repeat' first|intro hb hp|refine LW.is (s_Q ?_)|refine am ?_|refine ak ?_ ?_|fail)
 refine ae (ι:=Nat×Ex×Rd) (fun i=>⟨[(5,.ptr 5 0),(4,.ptr 4 0),(1,aI d),(0,.ptr 1000 0)],[(1000,ep i.2.2),(5,⟨78,.l (i.2.1.cs.map .iv)⟩),(4,Gw)],[]⟩) (fun i=>i.1) (fun i=>gw 7 [97,110,100] f i.1 i.2.1 i.2.2=W∧i.2.2.l.length<i.1∧RdOk i.2.2) (i0:=((f r).2.l.length+1,(f r).1,(f r).2)) ?_ ⟨hW,Nat.lt_succ_self _,hr1⟩ ?_
 · exact LJ
 clear hW k0 hr1 hr;rintro ⟨n,e,r⟩ ⟨hI,hn,hr⟩ K hK;dsimp only at hI hn hr hK⊢;cases n with
 |zero=>omega
 |succ n=>
 unfold gw at hI;cases hb:r.bad with
 |true=>
  rw[if_pos hb] at hI;subst hI;have q:(!r.bad)=false:=by rw[hb];rfl
  refine wz ?_;all_goals refine gM ?_ ?_
  all_goals rfl
 |false=>
  rw[if_neg (by rw[hb];decide)] at hI;have q:(!r.bad)=true:=by rw[hb];rfl
  have k1:=aQ (gs:=cA) r [[97,110,100]] hr dD;cases h1:(al r [[97,110,100]]).1 with
  |true=>
   rw[if_pos h1] at hI;have hl:=lX h1 dD;have h2:=ka (al r [[97,110,100]]).2 ((aV r _).ok hr);have hs:=hf (al r [[97,110,100]]).2;have hok:=hs.ok ((aV r _).ok hr);have hle:=hs.le;rw[h1] at k1;generalize f (al r [[97,110,100]]).2=p at*
   generalize (al r [[97,110,100]]).2=r1 at*
   obtain⟨x,r2⟩:=p;dsimp only at h2 hI hok hle;(repeat' first|intro hb hp|refine LW.is (s_Q ?_)|refine DR.is (d_Q ?_)|refine am ?_|refine ak ?_ ?_|fail)
   exact hK _ (n,BJ 7 e x,r2) ⟨hI,by dsimp only;omega,hok⟩ (Nat.lt_succ_self _) (Wk.mk' kK F4 (wB (.cons U U (ua 7 e x) B1)) .nil)
  |false=>
   rw[if_neg (by rw[h1];decide)] at hI;subst hI;rw[h1,cE h1] at k1;(repeat' first|intro hb hp|refine LW.is (s_Q ?_)|refine am ?_|refine ak ?_ ?_|fail)
   all_goals refine gM ?_ ?_
   all_goals rfl
def Ba{d:Int}{f:Rd→Ex×Rd}(hf:jJ f)(ka:fG 105 d f):fG 76 d (oi 8 [111,114] f):=by
 intro r hr;have k0:=ka r hr;have hr1:=(hf r).ok hr;unfold oi;generalize hW:gw 8 [111,114] f ((f r).2.l.length+1) (f r).1 (f r).2=W;refine iG func76 ntmps76 (fun w0 E0 hG=> ?_);(repeat' first|intro hb hp|refine LW.is (s_Q ?_)|refine am ?_|refine ak ?_ ?_|fail)
 refine ae (ι:=Nat×Ex×Rd) (fun i=>⟨[(5,.ptr 5 0),(4,.ptr 4 0),(1,aI d),(0,.ptr 1000 0)],[(1000,ep i.2.2),(5,⟨78,.l (i.2.1.cs.map .iv)⟩),(4,Gw)],[]⟩) (fun i=>i.1) (fun i=>gw 8 [111,114] f i.1 i.2.1 i.2.2=W∧i.2.2.l.length<i.1∧RdOk i.2.2) (i0:=((f r).2.l.length+1,(f r).1,(f r).2)) ?_ ⟨hW,Nat.lt_succ_self _,hr1⟩ ?_
 · exact LJ
 clear hW k0 hr1 hr;rintro ⟨n,e,r⟩ ⟨hI,hn,hr⟩ K hK;dsimp only at hI hn hr hK⊢;cases n with
 |zero=>omega
 |succ n=>
 unfold gw at hI;cases hb:r.bad with
 |true=>
  rw[if_pos hb] at hI;subst hI;have q:(!r.bad)=false:=by rw[hb];rfl
  refine wz ?_;all_goals refine gM ?_ ?_
  all_goals rfl
 |false=>
  rw[if_neg (by rw[hb];decide)] at hI;have q:(!r.bad)=true:=by rw[hb];rfl
  have k1:=aQ (gs:=cA) r [[111,114]] hr dD;cases h1:(al r [[111,114]]).1 with
  |true=>
   rw[if_pos h1] at hI;have hl:=lX h1 dD;have h2:=ka (al r [[111,114]]).2 ((aV r _).ok hr);have hs:=hf (al r [[111,114]]).2;have hok:=hs.ok ((aV r _).ok hr);have hle:=hs.le;rw[h1] at k1;generalize f (al r [[111,114]]).2=p at*
   generalize (al r [[111,114]]).2=r1 at*
   obtain⟨x,r2⟩:=p;dsimp only at h2 hI hok hle;(repeat' first|intro hb hp|refine LW.is (s_Q ?_)|refine DR.is (d_Q ?_)|refine am ?_|refine ak ?_ ?_|fail)
   exact hK _ (n,BJ 8 e x,r2) ⟨hI,by dsimp only;omega,hok⟩ (Nat.lt_succ_self _) (Wk.mk' kK F4 (wB (.cons U U (ua 8 e x) B1)) .nil)
  |false=>
   rw[if_neg (by rw[h1];decide)] at hI;subst hI;rw[h1,cE h1] at k1;(repeat' first|intro hb hp|refine LW.is (s_Q ?_)|refine am ?_|refine ak ?_ ?_|fail)
   all_goals refine gM ?_ ?_
   all_goals rfl
def IL(op:Int)(a:Ex): [I op,I 0,I 0,S [],S [],S [],I 0,.sl [a.cs]] =(ex1 op a).cs:=by
 show _= [I op,I 0,I 0,S [],S [],S [],I 0,.sl ([a].map Ex.c)];rw[List.map_cons,aN];rfl
def IK(op:Int)(a b:Ex): [I op,I 0,I 0,S [],S [],S [],I 0,.sl [a.cs,b.cs]] =(BJ op a b).cs:=by
 show _= [I op,I 0,I 0,S [],S [],S [],I 0,.sl ([a,b].map Ex.c)];rw[List.map_cons,List.map_cons,aN,aN];rfl
def Ay:fG 149 7 xM:=by
 intro r hr;refine iG func149 ntmps149 (fun w0 E0 hG=> ?_);refine wz ?_;all_goals refine gM ?_ ?_
 all_goals rfl
def Hk{d:Int}(h0:0≤d)(h6:d≤6){t s:Rd→Ex×Rd}(hs:jJ s)(kt:fG 149 (d+1) t)(ks:fG 184 d s):fG 149 d (qp t s):=by
 intro r hr;have qd:decide (6<d)=false:=decide_eq_false C;refine iG func149 ntmps149 (fun w0 E0 hG=> ?_);unfold qp;cases hb:r.bad with
 |true=>
  rw[if_pos U];refine wz ?_;all_goals refine gM ?_ ?_
  all_goals rfl
 |false=>
  rw[if_neg dD];have k1:=aQ (gs:=cA) r [[110,111,116]] hr dD;cases h1:(al r [[110,111,116]]).1 with
  |true=>
   rw[if_pos U];have k2:=kt (al r [[110,111,116]]).2 ((aV r _).ok hr);rw[h1] at k1;generalize t (al r [[110,111,116]]).2=p at*
   generalize (al r [[110,111,116]]).2=r1 at*
   obtain⟨x,r2⟩:=p;dsimp only at k2⊢;rw[←IL];(repeat' first|intro hb hp|refine LW.is (s_Q ?_)|refine am ?_|refine ak ?_ ?_|fail)
   all_goals refine gM ?_ ?_
   all_goals rfl
  |false=>
   rw[if_neg dD];rw[h1,cE h1] at k1;have k2:=ks r hr;have hok:=(hs r).ok hr;generalize s r=p at*
   obtain⟨e,r1⟩:=p;dsimp only at k2 hok⊢;have k3:=aQ (gs:=cA) r1 [[105,115],[110,117,108,108]] hok dD;cases h3:(al r1 [[105,115],[110,117,108,108]]).1 with
   |true=>
    rw[if_pos U];rw[h3] at k3;generalize (al r1 [[105,115],[110,117,108,108]]).2=r2 at*
    dsimp only;rw[←IL];(repeat' first|intro hb hp|refine LW.is (s_Q ?_)|refine am ?_|refine ak ?_ ?_|fail)
    all_goals refine gM ?_ ?_
    all_goals rfl
   |false=>
   rw[if_neg dD];rw[h3,cE h3] at k3;have k4:=aQ (gs:=cA) r1 [[61]] hok dD;cases h4:(al r1 [[61]]).1 with
   |true=>
    rw[if_pos U];have kz:=ks (al r1 [[61]]).2 ((aV r1 _).ok hok);rw[h4] at k4;generalize s (al r1 [[61]]).2=p at*
    generalize (al r1 [[61]]).2=r2 at*
    obtain⟨x,r3⟩:=p;dsimp only at kz⊢;rw[←IK];(repeat' first|intro hb hp|refine LW.is (s_Q ?_)|refine DR.is (d_Q ?_)|refine am ?_|refine ak ?_ ?_|fail)
    all_goals refine gM ?_ ?_
    all_goals rfl
   |false=>
   rw[if_neg dD];rw[h4,cE h4] at k4;have k5:=aQ (gs:=cA) r1 [[60]] hok dD;cases h5:(al r1 [[60]]).1 with
   |true=>
    rw[if_pos U];have kz:=ks (al r1 [[60]]).2 ((aV r1 _).ok hok);rw[h5] at k5;generalize s (al r1 [[60]]).2=p at*
    generalize (al r1 [[60]]).2=r2 at*
    obtain⟨x,r3⟩:=p;dsimp only at kz⊢;rw[←IK];(repeat' first|intro hb hp|refine LW.is (s_Q ?_)|refine DR.is (d_Q ?_)|refine am ?_|refine ak ?_ ?_|fail)
    all_goals refine gM ?_ ?_
    all_goals rfl
   |false=>
   rw[if_neg dD];rw[h5,cE h5] at k5;(repeat' first|intro hb hp|refine LW.is (s_Q ?_)|refine am ?_|refine ak ?_ ?_|fail)
   all_goals refine gM ?_ ?_
   all_goals rfl
def Fq:Prop:= ∀r,RdOk r→CallG cA prog 232 [.ptr 1000 0] [(1000,ep r)] [(1000,ep (kT r).2)] [] (.tup [.agg ((kT r).1.1.c.map .iv),.iv (B (kT r).1.2)])
def Ml{r:Rd}(h:(kT r).1.2=false):(kT r).2=r:=by
 unfold kT at h⊢;repeat' split at h
 all_goals first|(cases h;done)|skip
 rename_i h1 h2 h3 h4;rw[if_neg h1,if_neg h2,if_neg h3,if_neg h4]
def Jt{d:Int}(h0:0≤d)(h6:d≤6){o:Rd→Ex×Rd}(ho:jJ o)(kl:Fq)(ko:fG 76 (d+1) o):fG 211 d (qq o):=by
 intro r hr;have qd:decide (6<d)=false:=decide_eq_false C;refine iG func211 ntmps211 (fun w0 E0 hG=> ?_);unfold qq;cases hb:r.bad with
 |true=>
  rw[if_pos U];refine wz ?_;all_goals refine gM ?_ ?_
  all_goals rfl
 |false=>
  rw[if_neg dD];have k1:=aQ (gs:=cA) r [[40]] hr dD;cases h1:(al r [[40]]).1 with
  |true=>
   rw[if_pos U];have hk:=(aV r [[40]]).ok hr;have k2:=ko (al r [[40]]).2 hk;have hok:=(ho (al r [[40]]).2).ok hk;have k3:=dv (gs:=cA) (o (al r [[40]]).2).2 [[41]] hok dD;rw[h1] at k1;generalize aL (o (al r [[40]]).2).2 [[41]] =r3 at*
   generalize o (al r [[40]]).2=p at*
   generalize (al r [[40]]).2=r1 at*
   obtain⟨x,r2⟩:=p;dsimp only at k2 k3⊢;(repeat' first|intro hb hp|refine LW.is (s_Q ?_)|refine am ?_|refine ak ?_ ?_|fail)
   all_goals refine gM ?_ ?_
   all_goals rfl
  |false=>
   rw[if_neg dD];rw[h1,cE h1] at k1;have k2:=kl r hr;cases h2:(kT r).1.2 with
   |true=>
    rw[if_pos U];rw[h2] at k2;generalize (kT r).1.1=v at*
    generalize (kT r).2=r2 at*
    (repeat' first|intro hb hp|refine LW.is (s_Q ?_)|refine am ?_|refine ak ?_ ?_|fail)
    all_goals refine gM ?_ ?_
    all_goals rfl
   |false=>
    rw[if_neg dD];rw[h2,Ml h2] at k2;have k3:=CA (JX r hr);generalize qQ r=p at*
    obtain⟨x,r2⟩:=p;dsimp only at k3⊢;(repeat' first|intro hb hp|refine LW.is (s_Q ?_)|refine am ?_|refine ak ?_ ?_|fail)
    all_goals refine gM ?_ ?_
    all_goals rfl
end Go.Proofs.Y
namespace Go.Proofs.Y
open Go.Abs
attribute [local irreducible] L Code.wp bodyPost Exit.then Exit.inBlock
variable [Errs]
def HS(kl:Fq): ∀(k:Nat),k≤6→fG 149 (7 - (k:Int)) (Mb k)∧fG 76 (7 - (k:Int)) (mf k)
 |0,_=>⟨Ay,Ba (dR oL) (xL oL Ay)⟩
 |k+1,hk=>by
  obtain⟨h1,h2⟩:=HS kl k C;have e:(7 - ((k+1:Nat):Int))+1=7 - (k:Int):=C;have ht:fG 149 (7 - ((k+1:Nat):Int)) (Mb (k+1)):=
   Hk C C (vY (mZ (fj k))) (by rw[e];exact h1) (JN (mZ (fj k)) (Jt C C (fj k) kl (by rw[e];exact h2)))
  exact⟨ht,Ba (dR (jH (k+1))) (xL (jH (k+1)) ht)⟩
def IJ(kl:Fq):fG 76 1 (mf 6):=(HS kl 6 dD).2
end Go.Proofs.Y
namespace Go.Proofs.Y
open Go.Abs Go.Proofs.Tryz
attribute [local irreducible] L Code.wp bodyPost Exit.then Exit.inBlock
variable [Errs]
def MM: ∀(l:List UInt8) (a u:Nat),Lib.parseUint10 a l= .ok u→0≤(u:Int):=fun _ _ _ _=>by omega
def Lj{s:Str}{v:Int}(h:Lib.atoiAll s= .ok v)(hk:TokOk s):0≤v:=by
 cases s with
 |nil=>cases h
 |cons c t=>
  by_cases h45:c.toNat=45
  · have hc:c=45:=by apply UInt8.toNat_inj.1;exact h45
    have hl:=hk.2.2 (by rw[hc];rfl);have ht:t= []:=by simpa using hl
    subst ht;simp[Lib.atoiAll,h45,Lib.parseMag] at h
  · simp only[Lib.atoiAll,h45,if_false,false_and] at h;split at h
    · cases h
    · cases h
    · split at h
      · cases h
      · cases h;omega
def Km{s:Str}{v:Int}(h:Dn s=some v)(hk:TokOk s):0≤v∧v≤1000000:=by
 unfold Dn at h;split at h
 · rename_i n hn;split at h
   · rename_i hc;cases h;exact⟨Lj hn hk,hc.2⟩
   · cases h
 · cases h
def Bk{r:Rd}(h:RdOk r):TokOk (eB r).1:=by
 unfold eB;split
 · exact⟨by simp,by simp,by simp⟩
 · rename_i hf;obtain⟨l,bad⟩:=r;cases l with
   |nil=>exact absurd U hf
   |cons s l=>exact h.w s sP
def tj{r:Rd}(h:RdOk r):0≤(dl r).1∧(dl r).1≤1000000:=by
 unfold dl;split
 · rename_i n hn;exact Km hn (Bk h)
 · simp
def Ko:Fq:=by
 intro r hr;have kf:=yn (gs:=cA) r;have k1:=aQ (gs:=cA) r [[110,117,108,108]] hr dD;refine iG func232 ntmps232 (fun w0 E0 hG=> ?_);unfold kT;cases h1:(al r [[110,117,108,108]]).1 with
 |true=>
  rw[if_pos U];rw[h1] at k1;generalize (al r [[110,117,108,108]]).2=r1 at*
  generalize r.front=s at*
  (repeat' first|intro hb hp|refine LW.is (s_Q ?_)|refine am ?_|refine ak ?_ ?_|fail)
  all_goals refine gM ?_ ?_
  all_goals rfl
 |false=>
 rw[if_neg dD];rw[h1,cE h1] at k1;have k2:=aQ (gs:=cA) r [[45]] hr dD;cases h2:(al r [[45]]).1 with
 |true=>
  rw[if_pos U];rw[h2] at k2;have hok:=(aV r [[45]]).ok hr;have kn:=qt (al r [[45]]).2 hok;obtain⟨n0,n1⟩:=tj hok;generalize dl (al r [[45]]).2=p at*
  generalize (al r [[45]]).2=r1 at*
  obtain⟨n,r2⟩:=p;dsimp only at*
  rw[←Int.zero_sub];generalize r.front=s at*
  (repeat' first|intro hb hp|refine LW.is (s_Q ?_)|refine am ?_|refine ak ?_ ?_|fail)
  all_goals refine gM ?_ ?_
  all_goals rfl
 |false=>
 rw[if_neg dD];rw[h2,cE h2] at k2;have hfo:=hr.front;have knx:=vv (gs:=cA) r;have hnx:(eB r).1=r.front:=by unfold eB;split<;>simp_all
 rw[hnx] at knx;have hft:r.front≠ [] →TokOk r.front:=fun h=>by rw[←hnx];exact Bk hr
 have kn:=qt r hr;obtain⟨n0,n1⟩:=tj hr;generalize dl r=pn at*
 generalize (eB r).2=rx at*
 obtain⟨n,rn⟩:=pn;dsimp only at*
 cases hf:r.front with
 |nil=>
  rw[hf] at kf;rw[if_neg sP,if_neg sP];have q:(!(([]:Str)== []))=false:=rfl;(repeat' first|intro hb hp|refine LW.is (s_Q ?_)|refine am ?_|refine ak ?_ ?_|fail)
  all_goals refine gM ?_ ?_
  all_goals rfl
 |cons c t=>
  rw[hf] at kf knx hft hfo;have htk:=hft sP;have q:(!((c::t:Str)== []))=true:=rfl;have g0:(c::t:Str)[(0:Int).toNat]?=some c:=rfl;by_cases hd:lh c=true
  · rw[if_pos ⟨by simp,hd⟩];have hd':=hd;simp only[lh,aE,decide_eq_true_eq] at hd';have q1:decide ((48:Int)≤(c.toNat:Int))=true:=decide_eq_true C;have q2:decide ((c.toNat:Int)≤57)=true:=decide_eq_true C;(repeat' first|intro hb hp|(refine LW.is ?_;first|refine s_Q ?_|refine ag U (bF U U dD g0) ?_)|refine am ?_|refine ak ?_ ?_|fail)
    all_goals refine gM ?_ ?_
    all_goals rfl
  · rw[if_neg (fun h=>hd h.2)];have hd': ¬(48≤c.toNat∧c.toNat≤57):=by simpa[lh] using hd
    by_cases h39:c=39
    · rw[if_pos ⟨by simp,h39⟩];subst h39;have hl:2≤(39::t:Str).length:=htk.2.1 U;have e0:(39::t:Str).length=t.length+1:=rfl;have q3:((((39:UInt8).toNat:Nat):Int)==39)=true:=rfl;have es:((39::t:Str).drop (1:Int).toNat).take ((((39::t:Str).length:Int) - 1).toNat - (1:Int).toNat)=(vb (39::t)).s:=by
       show(t.drop 0).take _=t.take _;rw[List.drop_zero];congr 1;simp
      have kg:=(aX (vb (39::t))).toG (gs:=cA);generalize hv:vb (39::t)=v at*
      have ev:v=⟨2,0,v.s⟩:=by rw[←hv];rfl
      obtain⟨vk,vn,vs⟩:=v;cases ev;dsimp only at*
      generalize aw ⟨2,0,vs⟩=gd at*
      obtain⟨lx,bx⟩:=rx;cases bx with
      |true=>
       (repeat' first|intro hb hp|(refine LW.is ?_;first|refine s_Q ?_|refine ag U (bF U U dD g0) ?_|refine ag U (uq U U U dD C C es) ?_)|refine am ?_|refine ak ?_ ?_|fail)
       all_goals refine gM ?_ ?_
       all_goals rfl
      |false=>
       (repeat' first|intro hb hp|(refine LW.is ?_;first|refine s_Q ?_|refine ag U (bF U U dD g0) ?_|refine ag U (uq U U U dD C C es) ?_)|refine am ?_|refine ak ?_ ?_|fail)
       all_goals refine gM ?_ ?_
       all_goals rfl
    · rw[if_neg (fun h=>h39 h.2)];have q3:((c.toNat:Int)==39)=false:=by
       have:c.toNat≠39:=fun e=>h39 (UInt8.toNat_inj.1 e)
       simp;omega
      by_cases ha:48≤c.toNat
      · have q1:decide ((48:Int)≤(c.toNat:Int))=true:=decide_eq_true C;have q2:decide ((c.toNat:Int)≤57)=false:=decide_eq_false C;(repeat' first|intro hb hp|(refine LW.is ?_;first|refine s_Q ?_|refine ag U (bF U U dD g0) ?_)|refine am ?_|refine ak ?_ ?_|fail)
        all_goals refine gM ?_ ?_
        all_goals rfl
      · have q1:decide ((48:Int)≤(c.toNat:Int))=false:=decide_eq_false C;(repeat' first|intro hb hp|(refine LW.is ?_;first|refine s_Q ?_|refine ag U (bF U U dD g0) ?_)|refine am ?_|refine ak ?_ ?_|fail)
        all_goals refine gM ?_ ?_
        all_goals rfl
def tC:fG 76 1 (mf 6):=IJ Ko
end Go.Proofs.Y
namespace Go.Proofs.Y
open Go.Abs Go.Proofs.Tryz
attribute [local irreducible] L Code.wp bodyPost Exit.then Exit.inBlock
def dN{α:Type}(step:Rd→α×Rd):Nat→List α→Rd→List α×Rd
 |0,l,r=>(l,r)
 |n+1,l,r=>
  if r.bad then(l,r)
  else if(al (step r).2 [[44]]).1 then dN step n (l++ [(step r).1]) (al (step r).2 [[44]]).2
  else(l++ [(step r).1],(al (step r).2 [[44]]).2)
def aP{α:Type}(step:Rd→α×Rd)(r:Rd):List α×Rd:=dN step (r.l.length+1) [] r
def AH{α:Type}{step:Rd→α×Rd}(h: ∀r,Sf r (step r).2): ∀(n:Nat) (l:List α) (r:Rd),Sf r (dN step n l r).2
 |0,l,r=> .refl r
 |n+1,l,r=>by
  unfold dN;split
  · exact .refl r
  split
  · exact((h r).trans (aV _ _)).trans (AH h n _ _)
  · exact(h r).trans (aV _ _)
def ig{α:Type}{step:Rd→α×Rd}(h: ∀r,Sf r (step r).2)(r:Rd):Sf r (aP step r).2:=AH h _ _ _
def yb{α:Type}{step:Rd→α×Rd}(h: ∀r,Sf r (step r).2): ∀(n:Nat) (l:List α) (r:Rd),(dN step n l r).1.length≤l.length+r.l.length+1
 |0,l,r=>by simp[dN];omega
 |n+1,l,r=>by
  unfold dN;split
  · dsimp only;omega
  have h1:=(h r).le;split
  · rename_i h2;have h3:=lX h2 dD;have:=yb h n (l++ [(step r).1]) (al (step r).2 [[44]]).2;simp only[gV,lC,List.length_nil] at this;omega
  · simp
def Ik{α:Type}{step:Rd→α×Rd}(h: ∀r,Sf r (step r).2)(r:Rd):(aP step r).1.length≤r.l.length+1:=by have:=yb h (r.l.length+1) [] r;simpa[aP] using this
def Bm{α:Type}{step:Rd→α×Rd}: ∀(n:Nat) (l:List α) (r:Rd),l≠ [] →(dN step n l r).1≠ []
 |0,l,r,h=>h
 |n+1,l,r,h=>by
  unfold dN;split
  · exact h
  split
  · exact Bm n _ _ sP
  · simp
def zy{α:Type}{step:Rd→α×Rd}{r:Rd}(h:r.bad=false):(aP step r).1≠ []:=by
 unfold aP dN;rw[if_neg (by rw[h];decide)];split
 · exact Bm _ _ _ sP
 · simp
def fE{β γ:Type}{a:List (Nat×β)}{b:List (Nat×γ)}(h:(keys a).all (fun i=>(b.lookup i).isSome)=true): ∀id∈keys a,(b.lookup id).isSome=true:=fun id hid=>aT h id hid
variable [Errs]
abbrev pB:Box:=⟨101,.l [.ptr 1000 0]⟩
structure Grows {α:Type} (f:FuncId) (caps:List AV) (b0:Box) (b:Nat→Nat→Box) (g:List α→Box) (step:Rd→α×Rd):Prop where
 cp: ∀id,id≠1001→id≠1003→AV.ments id caps=false:=by intro id h1 h2;simp[AV.ments,AV.ment,Ne.symm h1,Ne.symm h2]
 cr:AV.rens (Abs.sws [(1002,1004)]) caps=caps:=by rfl
 z:b0.cs.isEmpty=false:=by rfl
 zm: ∀id,b0.ment id=false:=by intro id;rfl
 zi: ∀l,AV.mentsIn l b0.cs=true:=by intro l;rfl
 v: ∀i n,(b i n).cs.isEmpty=false:=by intro i n;rfl
 vt: ∀i n,(b i n).ty=b0.ty:=by intro i n;rfl
 vm: ∀i n id,id≠i→(b i n).ment id=false:=by intro i n id h;simp[Box.ment,AV.ments,AV.ment,Ne.symm h]
 vi: ∀i n l,l.contains i=true→AV.mentsIn l (b i n).cs=true:=by intro i n l h;simp only[Box.cs_l,AV.mentsIn,AV.mentIn,h,Bool.and_self]
 vr: ∀n,(b 1004 n).ren (Abs.sws [(1002,1004)])=b 1002 n:=by intro n;rfl
 gn: ∀l,l≠ [] →(g l).cs.isEmpty=false
 gt: ∀l l',(g l).ty=(g l').ty:=by intro l l';rfl
 gm: ∀l id,(g l).ment id=false:=by intro l id;rfl
 gi: ∀l m,AV.mentsIn m (g l).cs=true:=by intro l m;simp only[Box.cs_r,List.replicate_zero,List.append_nil];exact AV.mentsIn_iv _ _
 gr: ∀l,(g l).ren (Abs.sws [(1002,1004)])=g l:=by intro l;rfl
 c0: ∀r,RdOk r→CallG cA prog f caps [(1000,ep r),(1001,b0),(1003,pB)] [(1000,ep (step r).2),(1001,b 1002 1),(1003,pB),(1002,g [(step r).1])] [] (.tup [])
 c1: ∀r l,RdOk r→l≠ [] →l.length≤1000000→CallG cA prog f caps [(1000,ep r),(1001,b 1002 l.length),(1003,pB),(1002,g l)] [(1000,ep (step r).2),(1001,b 1004 (l.length+1)),(1003,pB),(1002,⟨(g l).ty,.l []⟩),(1004,g (l++ [(step r).1]))] [] (.tup [])
def vD{α:Type}{f:FuncId}{caps:List AV}{b0:Box}{b:Nat→Nat→Box}{g:List α→Box}{step:Rd→α×Rd}(h:Grows f caps b0 b g step)(r:Rd)(hb:r.bad=true):
 CallG cA prog 71 [.ptr 1000 0,.fn f caps] [(1000,ep r),(1001,b0),(1003,pB)] [(1000,ep r),(1001,b0),(1003,pB)] [] (.tup []):=by
 refine iG func71 ntmps71 (fun w0 E0 hG=> ?_);refine wz ?_;refine ae (ι:=Nat) (fun i=>⟨[(0,.ptr 1000 0),(1,.fn f caps)],[(1000,ep r),(1001,b0),(1003,pB)],[]⟩) (fun i=>i) (fun i=>True) (i0:=0) ?_ trivial ?_
 · exact Wk.mkX ay F2 (fun s v h=>h) .nil
 intro i _ K hK;have q:(!r.bad)=false:=by rw[hb];rfl
 refine wz ?_;apply aM;rfl;rfl;exact Wk.mkX ay .nil (fun s v h=>h) .nil;rfl
def vE{α:Type}{f:FuncId}[CallTy prog f]{caps:List AV}{b0:Box}{b:Nat→Nat→Box}{g:List α→Box}{step:Rd→α×Rd}(h:Grows f caps b0 b g step)(hs: ∀r,Sf r (step r).2)(r:Rd)(hr:RdOk r)(hb:r.bad=false):
 CallG cA prog 71 [.ptr 1000 0,.fn f caps] [(1000,ep r),(1001,b0),(1003,pB)] [(1000,ep (aP step r).2),(1001,b 1002 (aP step r).1.length),(1003,pB),(1002,g (aP step r).1)] [] (.tup []):=by
 unfold aP;generalize hW:dN step (r.l.length+1) [] r=W;refine iG func71 ntmps71 (fun w0 E0 hG=> ?_);have c2:=h.cp 1002 dD dD;have c4:=h.cp 1004 dD dD;have c12:=h.cp 12 dD dD;have z12:=h.zm 12;have v12:=fun i n=>h.vm i n 12
 have g12:=fun l=>h.gm l 12
 have z2:=h.zm 1002;have z4:=h.zm 1004;refine wz ?_;refine ae (ι:=Nat×List α×Rd) (fun i=>match i.2.1 with
  | [] =>⟨[(0,.ptr 1000 0),(1,.fn f caps)],[(1000,ep i.2.2),(1001,b0),(1003,pB)],[]⟩
  |x::l=>⟨[(0,.ptr 1000 0),(1,.fn f caps)],[(1000,ep i.2.2),(1001,b 1002 (x::l).length),(1003,pB),(1002,g (x::l))],[]⟩) (fun i=>i.1) (fun i=>dN step i.1 i.2.1 i.2.2=W∧i.2.2.l.length<i.1∧RdOk i.2.2∧i.2.1.length+i.2.2.l.length≤1000000∧(i.2.1= [] →i.2.2.bad=false)) (i0:=(r.l.length+1,[],r)) ?_ ⟨hW,Nat.lt_succ_self _,hr,(by have:=hr.n;simpa using this),fun _=>hb⟩ ?_
 · exact Wk.mkX ay F2 (fun s v h=>h) .nil
 clear hW hr hb;rintro ⟨n,l,r⟩ ⟨hI,hn,hr,hlen,hbad⟩ K hK;dsimp only at hI hn hr hlen hbad;cases n with
 |zero=>omega
 |succ n=>
 unfold dN at hI;have hsr:=hs r;have hok:=hsr.ok hr;have hle:=hsr.le;have ka:=aQ (gs:=cA) (step r).2 [[44]] hok dD;have hoa:=(aV (step r).2 [[44]]).ok hok;cases l with
 |nil=>
  have hb:=hbad rfl;rw[if_neg (by rw[hb];decide)] at hI;have q:(!r.bad)=true:=by rw[hb];rfl
  have kc:=h.c0 r hr;have m1:=h.vi 1002 1 [1002,1000,1001,1003] rfl;have m2:=h.gi [(step r).1] [1002,1000,1001,1003];cases h1:(al (step r).2 [[44]]).1 with
  |true=>
   have hlt:=lX h1 dD;rw[if_pos h1] at hI;rw[h1] at ka;generalize step r=p at*
   obtain⟨x,r1⟩:=p;dsimp only at*
   generalize (al r1 [[44]]).2=r2 at*
   (repeat' first|intro hb hp|apply pi [1002] (f:=f) (avs:= []) (bxi:= [(1000,ep r),(1001,b0),(1003,pB)]);rfl;exact hG;rfl;exact kc;exact fS;exact B3;exact(by simp[St.fresh,AV.ment,AV.ments,c2,z2,show Box.ment 1002 pB=false from rfl,show∀r,Box.ment 1002 (ep r)=false from fun _=>rfl]);exact(by simp[dW,keys,h.z]);exact(by simp[keys,AV.mentsIn,AV.mentIn,m1,m2]);rfl|(refine LW.is ?_;first|refine s_Q ?_|apply mB;rfl;rfl;rfl;rfl;rfl;(apply eC;rfl;rfl);(apply eC;rfl;rfl);rfl;rfl;exact(by simp[St.fresh,AV.ment,AV.ments,c12,z12,v12 1002 1 dD,g12,show Box.ment 12 pB=false from rfl,show∀r,Box.ment 12 (ep r)=false from fun _=>rfl]))|refine am ?_|refine ak ?_ ?_|fail)
   exact hK _ (n,[x],r2) ⟨hI,by dsimp only;omega,hoa,by simp only[lC,List.length_nil] at hlen⊢;omega,fun e=>by cases e⟩ (Nat.lt_succ_self _) wK
  |false=>
   rw[if_neg (by rw[h1];decide)] at hI;subst hI;rw[h1] at ka;generalize step r=p at*
   obtain⟨x,r1⟩:=p;dsimp only at*
   generalize (al r1 [[44]]).2=r2 at*
   (repeat' first|intro hb hp|apply pi [1002] (f:=f) (avs:= []) (bxi:= [(1000,ep r),(1001,b0),(1003,pB)]);rfl;exact hG;rfl;exact kc;exact fS;exact B3;exact(by simp[St.fresh,AV.ment,AV.ments,c2,z2,show Box.ment 1002 pB=false from rfl,show∀r,Box.ment 1002 (ep r)=false from fun _=>rfl]);exact(by simp[dW,keys,h.z]);exact(by simp[keys,AV.mentsIn,AV.mentIn,m1,m2]);rfl|(refine LW.is ?_;first|refine s_Q ?_|apply mB;rfl;rfl;rfl;rfl;rfl;(apply eC;rfl;rfl);(apply eC;rfl;rfl);rfl;rfl;exact(by simp[St.fresh,AV.ment,AV.ments,c12,z12,v12 1002 1 dD,g12,show Box.ment 12 pB=false from rfl,show∀r,Box.ment 12 (ep r)=false from fun _=>rfl]))|refine am ?_|refine ak ?_ ?_|fail)
   apply L.endQ0;rfl;rfl;exact Wk.mk' kK .nil B4 .nil;rfl
 |cons y l=>
  have kc:=h.c1 r (y::l) hr sP (by simp only[lC] at hlen⊢;omega);have m1:=fun n=>h.vi 1004 n [1004,1000,1001,1003,1002] rfl
  have m2:=fun l=>h.gi l [1004,1000,1001,1003,1002]
  cases hb:r.bad with
  |true=>
   rw[if_pos hb] at hI;subst hI;have q:(!r.bad)=false:=by rw[hb];rfl
   refine wz ?_;apply aM;rfl;rfl;exact Wk.mk' kK .nil B4 .nil;rfl
  |false=>
  rw[if_neg (by rw[hb];decide)] at hI;have q:(!r.bad)=true:=by rw[hb];rfl
  cases h1:(al (step r).2 [[44]]).1 with
  |true=>
   have hlt:=lX h1 dD;rw[if_pos h1] at hI;rw[h1] at ka;generalize step r=p at*
   obtain⟨x,r1⟩:=p;dsimp only at*
   generalize (al r1 [[44]]).2=r2 at*
   have e:(b 1004 ((y::l).length+1)).ren (Abs.sws [(1002,1004)])=b 1002 ((y::l)++ [x]).length:=by rw[gV];exact h.vr _
   (repeat' first|intro hb hp|apply pi [1004] (f:=f) (avs:= []) (bxi:= [(1000,ep r),(1001,b 1002 (y::l).length),(1003,pB),(1002,g (y::l))]);rfl;exact hG;rfl;exact kc;exact fS;exact B4;exact(by simp[St.fresh,AV.ment,AV.ments,c4,(fun n=>h.vm 1002 n 1004 dD),(fun l=>h.gm l 1004),show Box.ment 1004 pB=false from rfl,show∀r,Box.ment 1004 (ep r)=false from fun _=>rfl]);exact(by simp[dW,keys,h.v,h.gn]);exact(by simp[keys,AV.mentsIn,AV.mentIn,m1,m2]);rfl|(refine LW.is ?_;first|refine s_Q ?_|apply mB;rfl;rfl;rfl;rfl;rfl;(apply eC;rfl;rfl);(apply eC;rfl;rfl);rfl;rfl;exact(by simp[St.fresh,AV.ment,AV.ments,c12,(fun n=>v12 1002 n dD),(fun n=>v12 1004 n dD),g12,show∀t,Box.ment 12 (Box.mk t (.l []))=false from fun _=>rfl,show Box.ment 12 pB=false from rfl,show∀r,Box.ment 12 (ep r)=false from fun _=>rfl]))|refine am ?_|refine ak ?_ ?_|fail)
   (refine gK [(1002,1004)] rfl rfl rfl rfl ?_)
   exact hK _ (n,(y::l)++ [x],r2) ⟨hI,by dsimp only;omega,hoa,by simp only[gV,lC,List.length_nil] at hlen⊢;omega,fun e=>by cases e⟩ (Nat.lt_succ_self _) (Wk.mk' kK (wF (.cons rfl (Sub.of_eq (by rw[AV.ren,h.cr])) .nil)) (wB (.cons rfl ((Box.ren_ty _).trans ((h.vt _ _).trans (h.vt _ _).symm)) (Subs.of_eq (congrArg Box.cs e)) (wB (.cons rfl ((Box.ren_ty _).trans (h.gt _ _)) (Subs.of_eq (congrArg Box.cs (h.gr _))) .nil)))) .nil)
  |false=>
   rw[if_neg (by rw[h1];decide)] at hI;subst hI;rw[h1] at ka;generalize step r=p at*
   obtain⟨x,r1⟩:=p;dsimp only at*
   generalize (al r1 [[44]]).2=r2 at*
   have e:(b 1004 ((y::l).length+1)).ren (Abs.sws [(1002,1004)])=b 1002 ((y::l)++ [x]).length:=by rw[gV];exact h.vr _
   (repeat' first|intro hb hp|apply pi [1004] (f:=f) (avs:= []) (bxi:= [(1000,ep r),(1001,b 1002 (y::l).length),(1003,pB),(1002,g (y::l))]);rfl;exact hG;rfl;exact kc;exact fS;exact B4;exact(by simp[St.fresh,AV.ment,AV.ments,c4,(fun n=>h.vm 1002 n 1004 dD),(fun l=>h.gm l 1004),show Box.ment 1004 pB=false from rfl,show∀r,Box.ment 1004 (ep r)=false from fun _=>rfl]);exact(by simp[dW,keys,h.v,h.gn]);exact(by simp[keys,AV.mentsIn,AV.mentIn,m1,m2]);rfl|(refine LW.is ?_;first|refine s_Q ?_|apply mB;rfl;rfl;rfl;rfl;rfl;(apply eC;rfl;rfl);(apply eC;rfl;rfl);rfl;rfl;exact(by simp[St.fresh,AV.ment,AV.ments,c12,(fun n=>v12 1002 n dD),(fun n=>v12 1004 n dD),g12,show∀t,Box.ment 12 (Box.mk t (.l []))=false from fun _=>rfl,show Box.ment 12 pB=false from rfl,show∀r,Box.ment 12 (ep r)=false from fun _=>rfl]))|refine am ?_|refine ak ?_ ?_|fail)
   (refine gK [(1002,1004)] rfl rfl rfl rfl ?_)
   apply L.endQ0;rfl;rfl;exact Wk.mk' kK .nil (wB (.cons rfl ((Box.ren_ty _).trans ((h.vt _ _).trans (h.vt _ _).symm)) (Subs.of_eq (congrArg Box.cs e)) (wB (.cons rfl ((Box.ren_ty _).trans (h.gt _ _)) (Subs.of_eq (congrArg Box.cs (h.gr _))) .nil)))) .nil;rfl
end Go.Proofs.Y
namespace Go.Proofs.Y
open Go.Abs
def Ft:Str:= [105,110,116]
def xk:Str:= [116,101,120,116]
def tc:Str:= [109,117,115,116]
def rK:Str:= [119,104,101,114,101]
def bu:Str:= [99,114,101,97,116,101]
def bZ:Str:= [116,97,98,108,101]
def ez:Str:= [105,110,100,101,120]
def wON:Str:= [111,110]
def iR:Str:= [100,114,111,112]
def ew:Str:= [105,110,115,101,114,116]
def jK:Str:= [105,110,116,111]
def ic:Str:= [118,97,108,117,101,115]
def fq:Str:= [100,101,108,101,116,101]
def fp:Str:= [102,114,111,109]
def go:Str:= [117,112,100,97,116,101]
def tN:Str:= [115,101,116]
def jj:Str:= [115,101,108,101,99,116]
def ff:Str:= [111,114,100,101,114]
def Ac:Str:= [98,121]
def xl:Str:= [100,101,115,99]
def kB:Str:= [108,105,109,105,116]
def wm(n:Str)(t:Int)(r:Rd):Col×Rd:=(⟨n,t,(al r [tc]).1⟩,(al r [tc]).2)
def iq(r:Rd):Col×Rd:=
 if(al (aq r).2 [Ft]).1 then wm (aq r).1 1 (al (aq r).2 [Ft]).2
 else if(al (aq r).2 [xk]).1 then wm (aq r).1 2 (al (aq r).2 [xk]).2
 else wm (aq r).1 0 ⟨(aq r).2.l,true⟩
def di(r:Rd):Ex×Rd:=if(al r [rK]).1 then mf 6 (al r [rK]).2 else(nilE,r)
def mI(r:Rd):List Ex×Rd:=((aP (mf 6) (aL r [[40]])).1,aL (aP (mf 6) (aL r [[40]])).2 [[41]])
def mG(r:Rd):Ast×Rd:=(⟨(aq r).1,(mf 6 (aL (aq r).2 [[61]])).1⟩,(mf 6 (aL (aq r).2 [[61]])).2)
def ia:Stm:=⟨0,[],[],[],[],[],[],[],[],nilE,[],false,-1⟩
def mL(r:Rd):Stm×Rd:=
 ({ia with kind:=1,name:=(aq r).1,cols:=(aP iq (aL (aq r).2 [[40]])).1},aL (aP iq (aL (aq r).2 [[40]])).2 [[41]])
def qR(r:Rd):Rd:=aL (aq r).2 [wON]
def ue(r:Rd):Rd:=aL (aq r).2 [[40]]
def sb(r:Rd):Stm×Rd:=
 ({ia with kind:=2,name:=(aq r).1,table:=(aq (qR r)).1,col:=(aq (ue (qR r))).1},aL (aq (ue (qR r))).2 [[41]])
def vc(r:Rd):Stm×Rd:=({ia with kind:=3,name:=(aq r).1},(aq r).2)
def mJ(r:Rd):Stm×Rd:=({ia with kind:=4,table:=(aq r).1,rows:=(aP mI (aL (aq r).2 [ic])).1},(aP mI (aL (aq r).2 [ic])).2)
def mK(r:Rd):Stm×Rd:=({ia with kind:=5,table:=(aq r).1,wh:=(di (aq r).2).1},(di (aq r).2).2)
def nk(r:Rd):List Ast×Rd:=aP mG (aL (aq r).2 [tN])
def mF(r:Rd):Stm×Rd:=({ia with kind:=6,table:=(aq r).1,sets:=(nk r).1,wh:=(di (nk r).2).1},(di (nk r).2).2)
def io(r:Rd):List Ex×Rd:=if(al r [[42]]).1 then([],(al r [[42]]).2) else aP (mf 6) r
def kU(r:Rd):List Str×Rd:=aP aq (aL r [fp])
def jL(r:Rd):(List Ex×Bool)×Rd:=
 if(al r [ff,Ac]).1 then(([(mf 6 (al r [ff,Ac]).2).1],(al (mf 6 (al r [ff,Ac]).2).2 [xl]).1),(al (mf 6 (al r [ff,Ac]).2).2 [xl]).2)
 else(([],false),r)
def ip(r:Rd):Int×Rd:=if(al r [kB]).1 then dl (al r [kB]).2 else(-1,r)
def mH(r:Rd):Stm×Rd:=
 ({ia with kind:=7,out:=(io r).1,frm:=(kU (io r).2).1,wh:=(di (kU (io r).2).2).1,ord:=(jL (di (kU (io r).2).2).2).1.1,down:=(jL (di (kU (io r).2).2).2).1.2,n:=(ip (jL (di (kU (io r).2).2).2).2).1},
   (ip (jL (di (kU (io r).2).2).2).2).2)
def fi(r:Rd):Stm×Rd:=
 if(al r [bu,bZ]).1 then mL (al r [bu,bZ]).2
 else if(al r [bu,ez]).1 then sb (al r [bu,ez]).2
 else if(al r [iR,bZ]).1 then vc (al r [iR,bZ]).2
 else if(al r [ew,jK]).1 then mJ (al r [ew,jK]).2
 else if(al r [fq,fp]).1 then mK (al r [fq,fp]).2
 else if(al r [go]).1 then mF (al r [go]).2
 else if(al r [jj]).1 then mH (al r [jj]).2
 else(ia,⟨r.l,true⟩)
def rY(n:Str)(t:Int)(r:Rd):Sf r (wm n t r).2:=aV r _
def uI(r:Rd):Sf r (iq r).2:=by
 unfold iq;split
 · exact((bA r).trans (aV _ _)).trans (rY _ _ _)
 split
 · exact((bA r).trans (aV _ _)).trans (rY _ _ _)
 · exact((bA r).trans (.mark _ true)).trans (rY _ _ _)
def oa(r:Rd):Sf r (di r).2:=by
 unfold di;split
 · exact(aV r _).trans (fj 6 _)
 · exact .refl r
def zd(r:Rd):Sf r (mI r).2:=((bJ r _).trans (ig (fj 6) _)).trans (bJ _ _)
def uH(r:Rd):Sf r (mG r).2:=((bA r).trans (bJ _ _)).trans (fj 6 _)
def CX(r:Rd):Sf r (io r).2:=by
 unfold io;split
 · exact aV r _
 · exact ig (fj 6) r
def ED(r:Rd):Sf r (kU r).2:=(bJ r _).trans (ig bA _)
def Hz(r:Rd):Sf r (jL r).2:=by
 unfold jL;split
 · exact((aV r _).trans (fj 6 _)).trans (aV _ _)
 · exact .refl r
def HA(r:Rd):Sf r (ip r).2:=by
 unfold ip;split
 · exact(aV r _).trans (rW _)
 · exact .refl r
attribute [local irreducible] io kU di jL ip aP mf aq aL al iq mI mG
def xw(r:Rd):Sf r (mH r).2:=((((CX r).trans (ED _)).trans (oa _)).trans (Hz _)).trans (HA _)
def xz(r:Rd):Sf r (mL r).2:=(((bA r).trans (bJ _ _)).trans (ig uI _)).trans (bJ _ _)
def EC(r:Rd):Sf r (sb r).2:=(((((bA r).trans (bJ _ _)).trans (bA _)).trans (bJ _ _)).trans (bA _)).trans (bJ _ _)
def xx(r:Rd):Sf r (mJ r).2:=((bA r).trans (bJ _ _)).trans (ig zd _)
def xy(r:Rd):Sf r (mK r).2:=(bA r).trans (oa _)
def EB(r:Rd):Sf r (nk r).2:=((bA r).trans (bJ _ _)).trans (ig uH _)
attribute [local irreducible] nk
def xu(r:Rd):Sf r (mF r).2:=(EB r).trans (oa _)
def zc(r:Rd):Sf r (fi r).2:=by
 unfold fi;split
 · exact(aV r _).trans (xz _)
 split
 · exact(aV r _).trans (EC _)
 split
 · exact(aV r _).trans (bA _)
 split
 · exact(aV r _).trans (xx _)
 split
 · exact(aV r _).trans (xy _)
 split
 · exact(aV r _).trans (xu _)
 split
 · exact(aV r _).trans (xw _)
 · exact .mark r true
def fL:Nat→List Stm→Rd→List Stm×Rd
 |0,l,r=>(l,r)
 |n+1,l,r=>if r.l= [] ∨r.bad=true then(l,r) else fL n (l++ [(fi r).1]) (aL (fi r).2 [[59]])
def nM(s:Str):Rd:=match cW s with
 |some l=>⟨l,false⟩
 |none=>⟨[],true⟩
def cj(s:Str):List Stm×Int:=
 if 1500<s.length then([],2)
 else if(fL ((nM s).l.length+1) [] (nM s)).2.bad then([],1)
 else if 6<(fL ((nM s).l.length+1) [] (nM s)).1.length then([],2)
 else((fL ((nM s).l.length+1) [] (nM s)).1,0)
end Go.Proofs.Y
namespace Go.Proofs.Y
open Go.Abs Go.Proofs.Tryz
attribute [local irreducible] L Code.wp bodyPost Exit.then Exit.inBlock
variable [Errs]
def Fi(r:Rd)(hr:RdOk r):CallG cA prog 73 [.ptr 1000 0] [(1000,ep r)] [(1000,ep (iq r).2)] [] (.agg ((iq r).1.c.map .iv)):=by
 have k1:=CA (dI r hr);have ho:=(bA r).ok hr;unfold iq wm;generalize aq r=p at*
 obtain⟨nm,r1⟩:=p;dsimp only at*
 refine iG func73 ntmps73 (fun w0 E0 hG=> ?_);have k2:=aQ (gs:=cA) r1 [Ft] ho dD;cases h2:(al r1 [Ft]).1 with
 |true=>
  rw[if_pos U];rw[h2] at k2;have k4:=aQ (gs:=cA) (al r1 [Ft]).2 [tc] ((aV r1 _).ok ho) dD;generalize (al r1 [Ft]).2=r2 at*
  generalize al r2 [tc] =p at*
  obtain⟨b,r3⟩:=p;dsimp only at*
  (repeat' first|intro hb hp|refine LW.is (s_Q ?_)|refine am ?_|refine ak ?_ ?_|fail)
  all_goals refine gM ?_ ?_
  all_goals rfl
 |false=>
 rw[if_neg dD];rw[h2,cE h2] at k2;have k3:=aQ (gs:=cA) r1 [xk] ho dD;cases h3:(al r1 [xk]).1 with
 |true=>
  rw[if_pos U];rw[h3] at k3;have k4:=aQ (gs:=cA) (al r1 [xk]).2 [tc] ((aV r1 _).ok ho) dD;generalize (al r1 [xk]).2=r2 at*
  generalize al r2 [tc] =p at*
  obtain⟨b,r3⟩:=p;dsimp only at*
  (repeat' first|intro hb hp|refine LW.is (s_Q ?_)|refine am ?_|refine ak ?_ ?_|fail)
  all_goals refine gM ?_ ?_
  all_goals rfl
 |false=>
 rw[if_neg dD];rw[h3,cE h3] at k3;have k4:=aQ (gs:=cA) ⟨r1.l,true⟩ [tc] ((Sf.mark r1 true).ok ho) dD;generalize al ⟨r1.l,true⟩ [tc] =p at*
 obtain⟨b,r3⟩:=p;dsimp only at*
 (repeat' first|intro hb hp|refine LW.is (s_Q ?_)|refine am ?_|refine ak ?_ ?_|fail)
 all_goals refine gM ?_ ?_
 all_goals rfl
def pY(r:Rd)(hr:RdOk r):CallG cA prog 77 [.ptr 1000 0] [(1000,ep r)] [(1000,ep (di r).2)] [] (.agg ((di r).1.cs.map .iv)):=by
 have k1:=aQ (gs:=cA) r [rK] hr dD;unfold di;refine iG func77 ntmps77 (fun w0 E0 hG=> ?_);cases h1:(al r [rK]).1 with
 |true=>
  rw[if_pos U];rw[h1] at k1;have k2:=tC (al r [rK]).2 ((aV r _).ok hr);generalize (al r [rK]).2=r1 at*
  generalize mf 6 r1=p at*
  obtain⟨e,r2⟩:=p;dsimp only at*
  (repeat' first|intro hb hp|refine LW.is (s_Q ?_)|refine am ?_|refine ak ?_ ?_|fail)
  all_goals refine gM ?_ ?_
  all_goals rfl
 |false=>
  rw[if_neg dD];rw[h1,cE h1] at k1;(repeat' first|intro hb hp|refine LW.is (s_Q ?_)|refine am ?_|refine ak ?_ ?_|fail)
  all_goals refine gM ?_ ?_
  all_goals rfl
end Go.Proofs.Y
namespace Go.Proofs.Y
open Go.Abs Go.Proofs.Tryz
attribute [local irreducible] L Code.wp bodyPost Exit.then Exit.inBlock
abbrev sB(k:Int)(nm tb:Str)(c4 c5 c6 c7 c8:AV):Box:=⟨80,.l [aI k,aS nm,aS tb,aS [],c4,c5,c6,c7,c8,aI 0,aI 0,aI 0,aS [],aS [],aS [],aI 0,.nils,.nils,aB false,aI (-1)]⟩
def row_ne{α:Type}{f:α→List IV}{k:Nat}(hk: ∀x,(f x).length=k)(h0:0<k){l:List α}(h:l≠ []):(l.map f).flatten≠ []:=
 aD (k:=k) (fun e he=>by obtain⟨x,_,rfl⟩:=mM he;exact hk x) h0 (by simpa using h)
def kM{α:Type}{f:α→List IV}{k:Nat}{ty:TypeId}(hk: ∀x,(f x).length=k)(h0:0<k){l:List α}(h:l≠ []):(Box.mk ty (.r (l.map f).flatten 0)).cs.isEmpty=false:=by
 have:=row_ne hk h0 h;cases hq:(l.map f).flatten with
 |nil=>exact absurd hq this
 |cons x xs=>rfl
def dU{α:Type}{f:α→List IV}{k:Nat}(hk: ∀x,(f x).length=k)(l:List α): ∀e∈l.map f,e.length=k:=fun e he=>by obtain⟨x,_,rfl⟩:=mM he;exact hk x
def ij{α:Type}{f:α→List IV}(l:List α)(x:α):(l.map f).take l.length++ [f x] =(l++ [x]).map f:=by rw[tL sP,pA];rfl
def cK{k:Nat}{x:List IV}(h:x.length=k): ∀e∈ [x],e.length=k:=fun e he=>by rw[List.mem_singleton.1 he];exact h
variable [Errs]
def Mu(nm:Str):Grows 72 [.ptr 1001 0,.ptr 1003 0] (sB 1 nm [] .nils .nils .nils .nils .nils) (fun i n=>sB 1 nm [] (.bsh i 0 n 3) .nils .nils .nils .nils) (fun l=>⟨63,.r (l.map Col.c).flatten 0⟩) iq where
 gn l h:=kM (f:=Col.c) (k:=3) (fun _=>rfl) dD h
 c0 r hr:=by
  have kc:=Fi r hr;generalize iq r=p at*
  obtain⟨x,r1⟩:=p;dsimp only at*
  refine iG func72 ntmps72 (fun w0 E0 hG=> ?_);(repeat' first|intro hb hp|(refine DR.is ?_;first|refine d_Q ?_|refine zV 1002 (news:= [x.c]) U U U (cK U) (cN _ _) (by simp[maxLen]) sP U ?_)|refine am ?_|refine ak ?_ ?_|fail)
  exact aM U U wK U
 c1 r l hr hl hn:=by
  have kc:=Fi r hr;generalize iq r=p at*
  obtain⟨x,r1⟩:=p;dsimp only at*
  refine iG func72 ntmps72 (fun w0 E0 hG=> ?_);(repeat' first|intro hb hp|(refine DR.is ?_;first|refine d_Q ?_|apply pH 1004 (es:=l.map Col.c) (n:=l.length) (news:= [x.c]) (er:=(l++ [x]).map Col.c) (nr:=l.length+1);rfl;rfl;rfl;rfl;exact .inl (row_ne (f:=Col.c) (k:=3) (fun _=>rfl) dD hl);exact dU (f:=Col.c) (k:=3) (fun _=>rfl) l;exact cK U;exact(by rw[lM];exact Nat.le_refl _);exact cN _ _;exact(by simp[maxLen];omega);exact(by simp;omega);rfl;exact ij l x;rfl)|refine am ?_|refine ak ?_ ?_|fail)
  exact aM U U wK U
end Go.Proofs.Y
namespace Go.Proofs.Y
open Go.Abs Go.Proofs.Tryz
attribute [local irreducible] L Code.wp bodyPost Exit.then Exit.inBlock
variable [Errs]
def jo(x:Ex):x.c.length=8:=by rw[aN];rfl
def jZ:List IV:= [I 0,I 0,I 0,S [],S [],S [],I 0,.sl []]
def HB{α:Type}(l:List α)(y z:α):(l++ [y]).set l.length z=l++ [z]:=by simp
def Ih(l:List Ex)(x:Ex):(l.map Ex.c++ [jZ]).set l.length x.cs=(l++ [x]).map Ex.c:=by
 have:=HB (l.map Ex.c) jZ x.cs;rw[lM] at this;rw[this,pA,List.map_cons,List.map_nil,aN]
def LE(l:List Ex): ∀e∈l.map Ex.c++ [jZ],e.length=8:=fun e he=>by
 rcases mA he with h|h
 · exact dU jo l e h
 · rw[List.mem_singleton.1 h];rfl
def Mq(O:IV):Grows 80 [.ptr 1001 0,.ptr 1003 0] (sB 7 [] [] .nils .nils .nils .nils (.iv O)) (fun i n=>sB 7 [] [] .nils .nils .nils (.bsh i 0 n 1) (.iv O)) (fun l=>⟨9,.r (l.map Str.c).flatten 0⟩) aq where
 gn l h:=kM (f:=Str.c) (k:=1) (fun _=>rfl) dD h
 c0 r hr:=by
  have kc:=CA (dI r hr);generalize aq r=p at*
  obtain⟨x,r1⟩:=p;dsimp only at*
  refine iG func80 ntmps80 (fun w0 E0 hG=> ?_);(repeat' first|intro hb hp|(refine DR.is ?_;first|refine d_Q ?_|refine zV 1002 (news:= [Str.c x]) U U U (cK U) (cN _ _) (by simp[maxLen]) sP U ?_)|refine am ?_|refine ak ?_ ?_|fail)
  exact aM U U wK U
 c1 r l hr hl hn:=by
  have kc:=CA (dI r hr);generalize aq r=p at*
  obtain⟨x,r1⟩:=p;dsimp only at*
  refine iG func80 ntmps80 (fun w0 E0 hG=> ?_);(repeat' first|intro hb hp|(refine DR.is ?_;first|refine d_Q ?_|apply pH 1004 (es:=l.map Str.c) (n:=l.length) (news:= [Str.c x]) (er:=(l++ [x]).map Str.c) (nr:=l.length+1);rfl;rfl;rfl;rfl;exact .inl (row_ne (f:=Str.c) (k:=1) (fun _=>rfl) dD hl);exact dU (f:=Str.c) (k:=1) (fun _=>rfl) l;exact cK U;exact(by rw[lM];exact Nat.le_refl _);exact cN _ _;exact(by simp[maxLen];omega);exact(by simp;omega);rfl;exact ij l x;rfl)|refine am ?_|refine ak ?_ ?_|fail)
  exact aM U U wK U
def Mr:Grows 79 [.ptr 1001 0,.ptr 1003 0] (sB 7 [] [] .nils .nils .nils .nils .nils) (fun i n=>sB 7 [] [] .nils .nils .nils .nils (.bsh i 0 n 8)) (fun l=>⟨78,.r (l.map Ex.c).flatten 0⟩) (mf 6) where
 gn l h:=kM jo dD h
 c0 r hr:=by
  have kc:=tC r hr;generalize mf 6 r=p at*
  obtain⟨x,r1⟩:=p;dsimp only at*
  have he: [jZ].set 0 x.cs= [x].map Ex.c:=by rw[List.map_cons,aN];rfl
  refine iG func79 ntmps79 (fun w0 E0 hG=> ?_);(repeat' first|intro hb hp|(refine DR.is ?_;first|refine d_Q ?_|refine zV 1002 (news:= [jZ]) U U U (cK U) (cN _ _) (by simp[maxLen]) sP U ?_|refine bk U (az (off':=0) U U dD dD U) ?_|refine dV (es:= [jZ]) (i:=0) (e:=x.cs) (er:= [x].map Ex.c) U U U U U U (cK U) U Nat.one_pos he ?_)|refine am ?_|refine ak ?_ ?_|fail)
  exact aM U U wK U
 c1 r l hr hl hn:=by
  have kc:=tC r hr;generalize mf 6 r=p at*
  obtain⟨x,r1⟩:=p;dsimp only at*
  refine iG func79 ntmps79 (fun w0 E0 hG=> ?_);(repeat' first|intro hb hp|(refine DR.is ?_;first|refine d_Q ?_|refine pH 1004 (es:=l.map Ex.c) (n:=l.length) (news:= [jZ]) (er:=l.map Ex.c++ [jZ]) (nr:=l.length+1) U U U U (.inl (row_ne jo dD hl)) (dU jo l) (cK U) (by rw[lM];exact Nat.le_refl _) (cN _ _) (by simp[maxLen];omega) (by simp;omega) U (by rw[tL sP]) U ?_|refine bk U (az (off':=l.length*8) U U C C (by rw[iN,Nat.zero_add])) ?_|refine dV (es:=l.map Ex.c++ [jZ]) (i:=l.length) (e:=x.cs) (er:=(l++ [x]).map Ex.c) U U U U U U (LE l) U sP (Ih l x) ?_)|refine am ?_|refine ak ?_ ?_|fail)
  exact aM U U wK U
def uk:Grows 75 [.ptr 1001 0,.ptr 1003 0] (⟨76,.l [.nils]⟩) (fun i n=>⟨76,.l [.bsh i 0 n 8]⟩) (fun l=>⟨78,.r (l.map Ex.c).flatten 0⟩) (mf 6) where
 gn l h:=kM jo dD h
 c0 r hr:=by
  have kc:=tC r hr;generalize mf 6 r=p at*
  obtain⟨x,r1⟩:=p;dsimp only at*
  have he: [jZ].set 0 x.cs= [x].map Ex.c:=by rw[List.map_cons,aN];rfl
  refine iG func75 ntmps75 (fun w0 E0 hG=> ?_);(repeat' first|intro hb hp|(refine DR.is ?_;first|refine d_Q ?_|refine zV 1002 (news:= [jZ]) U U U (cK U) (cN _ _) (by simp[maxLen]) sP U ?_|refine bk U (az (off':=0) U U dD dD U) ?_|refine dV (es:= [jZ]) (i:=0) (e:=x.cs) (er:= [x].map Ex.c) U U U U U U (cK U) U Nat.one_pos he ?_)|refine am ?_|refine ak ?_ ?_|fail)
  exact aM U U wK U
 c1 r l hr hl hn:=by
  have kc:=tC r hr;generalize mf 6 r=p at*
  obtain⟨x,r1⟩:=p;dsimp only at*
  refine iG func75 ntmps75 (fun w0 E0 hG=> ?_);(repeat' first|intro hb hp|(refine DR.is ?_;first|refine d_Q ?_|refine pH 1004 (es:=l.map Ex.c) (n:=l.length) (news:= [jZ]) (er:=l.map Ex.c++ [jZ]) (nr:=l.length+1) U U U U (.inl (row_ne jo dD hl)) (dU jo l) (cK U) (by rw[lM];exact Nat.le_refl _) (cN _ _) (by simp[maxLen];omega) (by simp;omega) U (by rw[tL sP]) U ?_|refine bk U (az (off':=l.length*8) U U C C (by rw[iN,Nat.zero_add])) ?_|refine dV (es:=l.map Ex.c++ [jZ]) (i:=l.length) (e:=x.cs) (er:=(l++ [x]).map Ex.c) U U U U U U (LE l) U sP (Ih l x) ?_)|refine am ?_|refine ak ?_ ?_|fail)
  exact aM U U wK U
end Go.Proofs.Y
