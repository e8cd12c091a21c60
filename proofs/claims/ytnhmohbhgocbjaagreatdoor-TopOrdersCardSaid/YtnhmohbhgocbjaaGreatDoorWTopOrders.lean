/- Lemmas towards the law. Conditions: each one says its own. -/
import Derived.Test.YtnhmohbhgocbjaaGreatDoorZU16
set_option linter.all false
set_option maxHeartbeats 64000000
set_option maxRecDepth 100000
namespace Go.Proofs.Y
open Go Go.Abs
instance:A0 Tryz.prog 19:=⟨kR⟩
end Go.Proofs.Y
namespace Go.Abs
section
variable {P:Program}{c:C7}{st:St}{fn:Func}{res:AV}{rs:List ResultVar}{y z u:IV}{cs:List AV}
variable {bx':List (Nat×A5)}
end
end Go.Abs
namespace Go.Proofs.Y
open Go.Abs
attribute [local irreducible] L Code.wp bodyPost Exit.then Exit.inBlock
def eqSl_iff: ∀{l m:List Str},wt l m=true↔l=m
 | [],[] =>by simp[wt]
 | [],_::_=>by simp[wt]
 |_::_,[] =>by simp[wt]
 |a::l,b::m=>by simp[wt,eqSl_iff]
end Go.Proofs.Y
namespace Go.Proofs.Y
open Go.Abs Go.Proofs.Tryz
attribute [local irreducible] L Code.wp bodyPost Exit.then Exit.inBlock
def sameRows_any(R:List (List A3))(hl:R.length<=100000000)(hr: ∀r∈R,r.length<=100000000):CallA prog 22 [.iv (.sl (R.map ai)),.iv (.sl (R.map ai))] [] [] [] (aB true):=by
 have q0:((((R.map ai).length:Nat):Int) !=(((R.map ai).length:Nat):Int))=false:=by simp
 refine iA func22 ntmps22 (fun w0 E0=> ?_);refine wz ?_;refine ae (ι:=Nat) (fun i=>⟨[(14,aI (i:Int)),(13,aI ((R.map ai).length:Int)),(0,.iv (.sl (R.map ai))),(1,.iv (.sl (R.map ai)))],[],[]⟩) (fun i=>R.length - i) (fun i=>True) (i0:=0) ?_ trivial ?_
 · exact wL
 intro i _ K hK;cases T:R[i]? with
 |none=>
  have aR:=gc (l:=R.map ai) (bz T);clear hK;refine wz ?_;all_goals refine aU ?_
  all_goals rfl
 |some x=>
  have aR:=fZ (l:=R.map ai) (cM (f:=ai) T);have a1:=fM T;have a2:=hr x (gE T);have g1:(R.map ai)[((i:Nat):Int).toNat]?=some [.sl (x.map A3.c)]:=by rw[iN,gP,T];rfl
  have q1:((((x.map A3.c).length:Nat):Int) !=(((x.map A3.c).length:Nat):Int))=false:=by simp
  clear hr q0;refine wz ?_;refine ae (ι:=Nat) (fun j=>⟨[(33,aI (j:Int)),(32,aI ((x.map A3.c).length:Int)),(5,aI (i:Int)),(14,aI (i:Int)),(13,aI ((R.map ai).length:Int)),(0,.iv (.sl (R.map ai))),(1,.iv (.sl (R.map ai)))],[],[]⟩) (fun j=>x.length - j) (fun j=>True) (i0:=0) ?_ trivial ?_
  · exact wL
  intro j _ K2 ad;cases hy:x[j]? with
  |none=>
   have ar:=gc (l:=x.map A3.c) (bz hy);clear ad;refine wz ?_;refine hK _ (i+1) trivial C ?_;exact wL
  |some v=>
   have ar:=fZ (l:=x.map A3.c) (cM (f:=A3.c) hy);have a0:=fM hy;have g2:(x.map A3.c)[((j:Nat):Int).toNat]?=some [I v.k,I v.n,S v.s]:=by rw[iN,gP,hy];rfl
   have q2:(!((v.k==v.k) && ((v.n==v.n) && ((v.s==v.s) && true))))=false:=by simp
   clear hK;refine wz ?_;refine ad _ (j+1) trivial C ?_;exact wL
end Go.Proofs.Y
namespace Go.Proofs.Y
open Go.Abs Go.Proofs.Tryz
attribute [local irreducible] L Code.wp bodyPost Exit.then Exit.inBlock
variable [C3]
def quiet_any{gs:aw}(x:Str)(r:D3):CallG gs prog 16 ([.ptr 1010 0,.agg [aS x],r.av] ++ []) [] [] [] (aB true):=by
 refine iG func16 ntmps16 (fun w0 E0 T=> ?_);refine wz ?_;all_goals exact L.ends U U sE wK
def playGo(g:C0)(l:List Str):C0:=l.foldl (fun g x=>(fz g x).1) g
def playM(l:List Str):C0:=playGo eng0 (l.take 40)
def playGo_ok: ∀(l:List Str) {g:C0},B6 g->B6 (playGo g l)
 | [],_,h=>h
 |x::l,g,h=>playGo_ok l (la h x)
def play_ok(l:List Str):B6 (playM l):=playGo_ok _ tW
def play_any(l:List Str)(hl:l.length<=140737488355328):
 CallG cH prog 15 [.iv (.sl (l.map Str.c)),.fn 16 []] [] [(1010,(playM l).b)] [] (.tup [.ptr 1010 0,aB true]):=by
 have ka:=FU;have kn:=Er (gs:=cH);generalize hZ:playM l=Z;refine iG func15 ntmps15 (fun w0 E0 hG=> ?_);(repeat' first|intro hb hp|refine ac [1010] rfl hG kn .nil .nil rfl rfl rfl rfl ?_|refine am ?_|refine al ?_ ?_|fail)
 refine ae (ι:=Nat×C0) (fun i=>⟨[(7,aI (i.1:Int)),(0,.iv (.sl (l.map Str.c))),(1,.fn 16 []),(6,.ptr 1010 0)],[(1010,i.2.b)],[]⟩) (fun i=>l.length - i.1) (fun i=>B6 i.2/\i.1<=40/\playGo i.2 ((l.take 40).drop i.1)=Z) (i0:=(0,eng0)) ?_ ⟨tW,by decide,hZ⟩ ?_
 · exact wL
 rintro ⟨i,g⟩ ⟨hg,hi,T⟩ K hK;dsimp only at hg hi T hK;by_cases ar:i<40
 case neg=>
  have q2:decide ((i:Int)<40)=false:=decide_eq_false C;rw[dL (by rw[lT];omega)] at T;have T:g=Z:=T;subst T;clear hK;by_cases a2:i<l.length
  · have q1:decide ((i:Int)<((l.map Str.c).length:Int))=true:=decide_eq_true (by rw[lM];omega);refine wz ?_;all_goals exact L.ends U U fR wK
  · have q1:decide ((i:Int)<((l.map Str.c).length:Int))=false:=decide_eq_false (by rw[lM];omega);refine wz ?_;all_goals exact L.ends U U fR wK
 have q2:decide ((i:Int)<40)=true:=decide_eq_true C;cases hx:l[i]? with
 |none=>
  have q1:=gc (l:=l.map Str.c) (bz hx);rw[dL (by rw[lT];have:=gO hx;omega)] at T;have T:g=Z:=T;subst T;clear hK;refine wz ?_;all_goals exact L.ends U U fR wK
 |some x=>
  have q1:=fZ (l:=l.map Str.c) (cM (f:=Str.c) hx);have a1:=fM hx;have g1:(l.map Str.c)[((i:Nat):Int).toNat]?=some [S x]:=by rw[iN,gP,hx];rfl
  have ad:(l.take 40)[i]?=some x:=by rw[List.getElem?_take,if_pos ar];exact hx
  have aR:(l.take 40).drop i=x::(l.take 40).drop (i+1):=fu ad;rw[aR] at T;have kd:=oI g hg x;have a0:=la hg x;have kq:=quiet_any (gs:=cH) x (fz g x).2;(repeat' first|intro hb hp|refine ac [] rfl hG kd fS B1 rfl rfl rfl rfl ?_|refine DR.is (eY (f:=16) U hG U kq U .nil U U U ?_)|refine am ?_|refine al ?_ ?_|fail)
  exact hK _ (i+1,(fz g x).1) ⟨a0,by omega,T⟩ oD wL
end Go.Proofs.Y
namespace Go.Proofs.Y
open Go.Abs
attribute [local irreducible] L Code.wp bodyPost Exit.then Exit.inBlock
def MI(g:C0)(x:Str):(fz g x).1.n<=g.n+1/\g.n<=(fz g x).1.n:=by
 unfold fz;split
 · exact⟨by dsimp only;omega,by dsimp only;omega⟩
 split
 · exact⟨by dsimp only;omega,by dsimp only;omega⟩
 split
 · exact⟨by dsimp only;omega,by dsimp only;omega⟩
 · exact⟨by dsimp only;omega,by dsimp only;omega⟩
def AE: ∀(l:List Str) (g:C0),(playGo g l).n<=g.n+l.length
 | [],g=>by show g.n<=_;omega
 |x::l,g=>by
  have h1:=AE l (fz g x).1;have h2:=(MI g x).1;have e:playGo g (x::l)=playGo (fz g x).1 l:=rfl;rw[e,lC];omega
def Lw(l:List Str):(playM l).n<=40:=by
 have:=AE (l.take 40) eng0;have e:eng0.n=0:=rfl;rw[lT] at this;rw[playM];omega
def Ag(c:B0)(ps:List Pg)(x:Str):B0×List Pg×D3:=
 if(cj x).2≠0 then(c,ps,⟨(cj x).2,0,[]⟩)
 else match ib c ps ln 0 (cj x).1 with
  | .error e=>(c,ps,⟨e.1,e.2,[]⟩)
  | .ok r=>r
def zr{c:B0}{ps:List Pg}{n:Int}{x:Str}(h:n<150):fz ⟨c,ps,n⟩ x=(⟨(Ag c ps x).1,(Ag c ps x).2.1,n+1⟩,(Ag c ps x).2.2):=by
 have h1: ¬150<=n:=C;unfold fz Ag;dsimp only;rw[if_neg h1];by_cases h2:(cj x).2≠0
 · rw[if_pos h2,if_pos h2]
 · rw[if_neg h2,if_neg h2];cases ib c ps ln 0 (cj x).1<;>rfl
def Fh(s:A9)(w:Nat)(J:List (List A3)):(Al s w J).length<=J.length/\ ∀r∈Al s w J,r.length=s.out.length:=by
 refine⟨?_,fun r hr=> ?_⟩
 · rw[Al,lM];refine Nat.le_trans (m:=((J.filter (bL s.wh)).mergeSort (cL (dc s w))).length) ?_ (by rw[List.length_mergeSort];exact List.length_filter_le ..);unfold qN;split
   · rw[lT];omega
   · exact Nat.le_refl _
 · obtain⟨x,_,rfl⟩:=mM hr;rw[yQ,lM]
def ym(r:D3):Prop:=r.rows.length<=1000000/\ ∀x∈r.rows,x.length<=1000000
def my(a b:Int):ym ⟨a,b,[]⟩:=⟨by simp,by simp⟩
def Fl{c:B0}{ps:List Pg}{D:Str->List (List A3)}(h:EI c ps D){s b:A9}(hs:D8 s)(hb:aJ c s=(b,0)):ym (cK c ps b).rep:=by
 obtain⟨hg,a4,hp⟩:=ee hb;have a5:=(eD hp).1;by_cases h7:b.kind=7
 · have T:=He C hp;rw[cK,if_neg C,if_neg C,if_neg C,if_neg C,if_neg C,if_pos h7];have a3:=T.len;have a1: ∀m∈s.frm,(ab c m).2=true:=fun m hm=>by
    obtain⟨i,hi⟩:=List.getElem?_of_mem hm;exact T.tab i m hi
   have a6:lU (s.frm.map fun n=>(ab c n).1)<=8:=Nat.le_trans (wc h.db.cat a1) C;have a7:=T.outL;have a8:=hs.out;obtain⟨n0,ad⟩: ∃n0,s.frm[0]?=some n0:=⟨_,gG C⟩
   have hm:=(bU (T.tab 0 n0 ad)).1;have ar:b.frm.getD 0 [] =n0:=by rw[T.frm,List.getD_eq_getElem?_getD,ad];rfl
   obtain⟨f1,f2,f3,_⟩:=jX h.db hm b.wh;have a9:=h.few _ hm;have ba:b.frm.length=s.frm.length:=by rw[T.frm]
   obtain⟨s1,s2⟩:=Fh b (ab c n0).1.cols.length (og c ps b (ci ps (ab c n0).1 (bO c (ab c n0).1 0 b.wh)));refine⟨?_,fun x hx=> ?_⟩
   · show(jM c ps b).length<=1000000;rw[jM,ar];refine Nat.le_trans s1 ?_;unfold og;split
     · rename_i h2;obtain⟨n1,aR⟩: ∃n1,s.frm[1]?=some n1:=⟨_,gG C⟩
       have a0:=(bU (T.tab 1 n1 aR)).1;have a2:b.frm.getD 1 [] =n1:=by rw[T.frm,List.getD_eq_getElem?_getD,aR];rfl
       have bh:=h.few _ a0;rw[a2];refine Nat.le_trans (kY (k:=30) (fun x hx=> ?_)) C;rw[lM];have:=(rq h.db a0 x (bo x b.wh)).2.2.1;omega
     · omega
   · have hx:x∈jM c ps b:=hx;rw[jM,ar] at hx;have:=s2 x hx;omega
 · unfold cK;repeat' split
   all_goals first|exact my _ _|exact absurd (by assumption) h7
def vH: ∀(l:List A9) {c:B0} {ps:List Pg} {r:D3} {i:Int} {x:B0×List Pg×D3},(∃D,EI c ps D)->(∀s∈l,D8 s)->ym r->ib c ps r i l= .ok x->ym x.2.2
 | [],c,ps,r,i,x,_,_,h,T=>by
   rw[ib] at T;cases T;exact h
 |s::l,c,ps,r,i,x,⟨D,hd⟩,hs,h,T=>by
  rw[ib] at T;split at T
  · cases T
  split at T
  · cases T
  rename_i h1 _;have hb:aJ c s=((aJ c s).1,0):=Prod.ext U (Decidable.not_not.1 h1);exact vH l (rN hd hb) (fun s' ad=>hs s' (List.mem_cons_of_mem _ ad)) (Fl hd (hs s (List.mem_cons_self ..)) hb) T
def Bs{g:C0}(h:B6 g)(x:Str):ym (fz g x).2:=by
 unfold fz;split
 · exact my _ _
 split
 · exact my _ _
 split
 · exact my _ _
 · rename_i r hr;exact vH _ h.db (ut x) (my _ _) hr
variable [C3]
end Go.Proofs.Y
namespace Go.Proofs.Y
open Go.Abs
def split_low{w:Str}(h0:w≠ [])(T:w.all iP=true){r:Str}(hr:(r.headD 0|>iP)=false):cW (w++r)=(cW r).map (w:: ·):=by
 cases w with
 |nil=>exact absurd U h0
 |cons c w=>
  simp only[List.all_cons,aE] at T;have hc: ¬(c=32\/c=10):=by
   rintro (rfl|rfl)
   · simp[iP] at T
   · simp[iP] at T
  have ad:((w++r).takeWhile iP)=w:=by
   clear h0 hc;obtain⟨_,T⟩:=T;induction w with
   |nil=>
    cases r with
    |nil=>rfl
    |cons a r=>simp at hr;simp[hr]
   |cons a w ih=>
    simp only[List.all_cons,aE] at T;rw[List.cons_append,List.takeWhile_cons,if_pos T.1,ih T.2]
  have ht:fc c (w++r)=some (w.length+1):=by
   unfold fc;rw[if_pos T.1,ad,Nat.add_comm]
  rw[List.cons_append,uj hc ht];simp
def split_sp(r:Str):cW (32::r)=cW r:=sJ (.inl U)
def split_semi(r:Str):cW (59::r)=(cW r).map ([59]:: ·):=by
 have:fc 59 r=some 1:=by unfold fc;rw[if_neg dD,if_neg dD,if_neg dD];decide
 rw[uj dD this];rfl
def named_low{s:Str}(h:bF s=true):s≠ [] /\s.all iP=true/\ ∀w∈words,s≠w:=by
 simp only[bF,aE,decide_eq_true_eq,Bool.not_eq_true',List.any_eq_false,beq_iff_eq] at h;obtain⟨h1,h2,h3,h4⟩:=h;exact⟨fun e=>by rw[e] at h2;simp at h2,h1,fun w T e=>h4 w T e⟩
def at_not{w:Str}{x:List Str}{b:Bool}{u:Str}{us:List Str}(h:w≠u):ak ⟨w::x,b⟩ (u::us)=(false,⟨w::x,b⟩):=by
 unfold ak;dsimp only;split
 · rfl
 · rw[if_neg];intro e;rw[eqSl_iff] at e;rw[lC,List.take_succ_cons] at e;exact h (List.cons.inj e).1
def at_one{w:Str}{x:List Str}{b:Bool}:ak ⟨w::x,b⟩ [w] =(true,⟨x,b⟩):=by
 unfold ak;dsimp only;rw[if_neg sP,if_pos (by rw[eqSl_iff];simp)];simp
def at_two{w u:Str}{x:List Str}{b:Bool}:ak ⟨w::u::x,b⟩ [w,u] =(true,⟨x,b⟩):=by
 unfold ak;dsimp only;rw[if_neg sP,if_pos (by rw[eqSl_iff];simp)];simp
structure Ends (w:Str):Prop where
 dot:w≠ [46]
 plus:w≠ [43]
 minus:w≠ [45]
 is:w≠ [105,115]
 eq:w≠ [61]
 lt:w≠ [60]
 and:w≠ [97,110,100]
 or:w≠ [111,114]
 comma:w≠ [44]
def name_read{s:Str}(h:bF s=true){x:List Str}:aq ⟨s::x,false⟩=(s,⟨x,false⟩):=by
 have h0:=(named_low h).1;have e:(⟨s::x,false⟩:Rd).front=s:=rfl;unfold aq eB;rw[e,if_neg h0];simp[h]
def rfE(s:Str):Ex:= .mk 2 af [] s 0 []
def low_ne{s:Str}(h:s.all iP=true)(h0:s≠ []){w:Str}{c:UInt8}(T:w= [c])(hc:iP c=false):s≠w:=fun e=>by
 rw[e,T] at h;simp[hc] at h
def lit_name{s:Str}(h:bF s=true){x:List Str}:(kM ⟨s::x,false⟩).1.2=false:=by
 obtain⟨h0,h1,h2⟩:=named_low h;have e:(⟨s::x,false⟩:Rd).front=s:=rfl;unfold kM;rw[at_not (h2 [110,117,108,108] (by simp[words]))];rw[if_neg Bool.false_ne_true,at_not (low_ne h1 h0 U dD),if_neg Bool.false_ne_true,e];cases s with
 |nil=>exact absurd U h0
 |cons c s=>
  simp only[List.all_cons,aE] at h1;have T:lb c=false:=by
   have:=h1.1;simp only[iP,lb,aE,decide_eq_true_eq] at this|-;simp;omega
  have hq:c≠39:=by rintro rfl;simp[iP] at h1
  rw[if_neg (by simp[T]),if_neg (by simp[hq])]
def ref_name{s w:Str}(h:bF s=true)(T:Ends w){x:List Str}:qD ⟨s::w::x,false⟩=(rfE s,⟨w::x,false⟩):=by
 unfold qD;rw[name_read h];dsimp only;rw[at_not T.dot,if_neg Bool.false_ne_true];rfl
def atom_name{o:Rd->Ex×Rd}{s w:Str}(h:bF s=true)(T:Ends w){x:List Str}:qe o ⟨s::w::x,false⟩=(rfE s,⟨w::x,false⟩):=by
 obtain⟨h0,h1,h2⟩:=named_low h;unfold qe;rw[if_neg Bool.false_ne_true,at_not (low_ne h1 h0 U dD),if_neg Bool.false_ne_true,lit_name h,if_neg Bool.false_ne_true,ref_name h T]
def sum_name{o:Rd->Ex×Rd}{s w:Str}(h:bF s=true)(T:Ends w){x:List Str}:AC (qe o) ⟨s::w::x,false⟩=(rfE s,⟨w::x,false⟩):=by
 unfold AC;rw[atom_name h T];dsimp only;unfold lZ;rw[if_neg Bool.false_ne_true,at_not T.plus,if_neg Bool.false_ne_true,at_not T.minus,if_neg Bool.false_ne_true]
def t_name{s w:Str}(h:bF s=true)(T:Ends w){x:List Str}(k:Nat):Lv (k+1) ⟨s::w::x,false⟩=(rfE s,⟨w::x,false⟩):=by
 obtain⟨h0,h1,h2⟩:=named_low h;show pZ _ _ _=_;unfold pZ;rw[if_neg Bool.false_ne_true,at_not (h2 [110,111,116] (by simp[words])),if_neg Bool.false_ne_true,sum_name h T];dsimp only;rw[at_not T.is,if_neg Bool.false_ne_true,at_not T.eq,if_neg Bool.false_ne_true,at_not T.lt,if_neg Bool.false_ne_true]
def o_name{s w:Str}(h:bF s=true)(T:Ends w){x:List Str}(k:Nat):ma (k+1) ⟨s::w::x,false⟩=(rfE s,⟨w::x,false⟩):=by
 have ha:My (Lv (k+1)) ⟨s::w::x,false⟩=(rfE s,⟨w::x,false⟩):=by
  unfold My nY;rw[t_name h T];dsimp only;unfold gw;rw[if_neg Bool.false_ne_true,at_not T.and,if_neg Bool.false_ne_true]
 unfold ma Mx nY;rw[ha];dsimp only;unfold gw;rw[if_neg Bool.false_ne_true,at_not T.or,if_neg Bool.false_ne_true]
def list_one{α:Type}{f:Rd->α×Rd}{r:Rd}{a:α}{w:Str}{x:List Str}(T:r.bad=false)(hf:f r=(a,⟨w::x,false⟩))(hw:w≠ [44]):aP f r=([a],⟨w::x,false⟩):=by
 unfold aP dM;rw[if_neg (by rw[T];decide),hf];dsimp only;rw[at_not hw,if_neg Bool.false_ne_true];rfl
def ends_of{w:Str}(h:([[46],[43],[45],[105,115],[61],[60],[97,110,100],[111,114],[44]]:List Str).all (fun u=>w !=u)=true):Ends w:=by
 simp only[List.all_cons,List.all_nil,aE,bne_iff_ne,Bool.and_true] at h;obtain⟨h1,h2,h3,h4,h5,T,h7,h8,h9⟩:=h;exact⟨h1,h2,h3,h4,h5,T,h7,h8,h9⟩
def ordW(c t:Str)(tl:List Str):List Str:=ji::c::fi::t::eZ::zB::c::tl
def ord_head{c t:Str}(hc:bF c=true)(ht:bF t=true){w:Str}{x:List Str}(hw:Ends w):
 fe ⟨ordW c t (w::x),false⟩=
  ({ia with kind:=7,out:= [rfE c],frm:= [t],ord:= [rfE c],down:=(ak ⟨w::x,false⟩ [wO]).1,n:=(ip (ak ⟨w::x,false⟩ [wO]).2).1},(ip (ak ⟨w::x,false⟩ [wO]).2).2):=by
 obtain⟨c0,c1,c2⟩:=named_low hc;have T:Ends fi:=ends_of dD;have hO:io ⟨c::fi::t::eZ::zB::c::w::x,false⟩=([rfE c],⟨fi::t::eZ::zB::c::w::x,false⟩):=by
  unfold io;rw[at_not (low_ne c1 c0 U dD),if_neg Bool.false_ne_true];exact list_one U (o_name hc T 5) dD
 have hF:kP ⟨fi::t::eZ::zB::c::w::x,false⟩=([t],⟨eZ::zB::c::w::x,false⟩):=by
  unfold kP aL;rw[at_one,if_pos U];exact list_one U (name_read ht) dD
 have hW:dh ⟨eZ::zB::c::w::x,false⟩=(nilE,⟨eZ::zB::c::w::x,false⟩):=by
  unfold dh;rw[at_not dD,if_neg Bool.false_ne_true]
 have hR:jJ ⟨eZ::zB::c::w::x,false⟩=(([rfE c],(ak ⟨w::x,false⟩ [wO]).1),(ak ⟨w::x,false⟩ [wO]).2):=by
  unfold jJ;rw[at_two,if_pos U];dsimp only;rw[o_name hc hw 5]
 unfold fe ordW;rw[at_not dD,if_neg Bool.false_ne_true,at_not dD,if_neg Bool.false_ne_true,at_not dD,if_neg Bool.false_ne_true,at_not dD,if_neg Bool.false_ne_true,at_not dD,if_neg Bool.false_ne_true,
  at_not dD,if_neg Bool.false_ne_true,at_one,if_pos U]
 unfold mC;rw[hO];dsimp only;rw[hF];dsimp only;rw[hW];dsimp only;rw[hR];rfl
def script_one{l:List Str}{s:A9}(h:fe ⟨l,false⟩=(s,⟨[[59]],false⟩))(hl:l≠ [])(n:Nat):fH (n+2) [] ⟨l,false⟩=([s],⟨[],false⟩):=by
 unfold fH;rw[if_neg (by simp[hl]),h];dsimp only;unfold aL;rw[at_one,if_pos U];unfold fH;rw[if_pos (.inl U)];rfl
def ps_one{t:Str}{l:List Str}{s:A9}(hs:cW t=some l)(hl:l≠ [])(ht:t.length<=1500)(h:fe ⟨l,false⟩=(s,⟨[[59]],false⟩)):cj t=([s],0):=by
 have hn:l.length+1=(l.length - 1)+2:=by have:=gU hl;omega
 unfold cj nF;rw[if_neg C,hs];dsimp only;rw[hn,script_one h hl,if_neg Bool.false_ne_true,if_neg sP]
def stm_ord{c t:Str}(hc:bF c=true)(ht:bF t=true):fe ⟨ordW c t [[59]],false⟩=({ia with kind:=7,out:= [rfE c],frm:= [t],ord:= [rfE c]},⟨[[59]],false⟩):=by
 rw[ord_head hc ht (ends_of dD),at_not dD];dsimp only;unfold ip;rw[at_not dD,if_neg Bool.false_ne_true];rfl
def stm_desc{c t:Str}(hc:bF c=true)(ht:bF t=true):fe ⟨ordW c t [wO,[59]],false⟩=({ia with kind:=7,out:= [rfE c],frm:= [t],ord:= [rfE c],down:=true},⟨[[59]],false⟩):=by
 rw[ord_head hc ht (ends_of dD),at_one];dsimp only;unfold ip;rw[at_not dD,if_neg Bool.false_ne_true];rfl
def stm_limit{c t d:Str}{n:Int}(hc:bF c=true)(ht:bF t=true)(h0:d≠ [])(hd:CO d=some n):fe ⟨ordW c t [jY,d,[59]],false⟩=({ia with kind:=7,out:= [rfE c],frm:= [t],ord:= [rfE c],n:=n},⟨[[59]],false⟩):=by
 rw[ord_head hc ht (ends_of dD),at_not dD];dsimp only;have e:ip ⟨[jY,d,[59]],false⟩=(n,⟨[[59]],false⟩):=by
  unfold ip;rw[at_one,if_pos U];have T:eB ⟨[d,[59]],false⟩=(d,⟨[[59]],false⟩):=by
   unfold eB;rw[if_neg (show¬(⟨[d,[59]],false⟩:Rd).front= [] from h0)];rfl
  unfold dj;dsimp only;rw[T,hd]
 rw[e];rfl
def split_name{s:Str}(h:bF s=true){r:Str}(hr:(r.headD 0|>iP)=false):cW (s++r)=(cW r).map (s:: ·):=split_low (named_low h).1 (named_low h).2.1 hr
def split_ord{c t:Str}(hc:bF c=true)(ht:bF t=true){r:Str}{l:List Str}(hr:(r.headD 0|>iP)=false)(hl:cW r=some l):
 cW (ji++32::(c++32::(fi++32::(t++32::(eZ++32::(zB++32::(c++r)))))))=some (ordW c t l):=by
 rw[split_low dD dD U,split_sp,split_name hc U,split_sp,split_low dD dD U,split_sp,split_name ht U,split_sp,
  split_low dD dD U,split_sp,split_low dD dD U,split_sp,split_name hc hr,hl]
 rfl
def digS(n:Nat):Str:=if n<10 then [UInt8.ofNat (48+n)] else [UInt8.ofNat (48+n / 10),UInt8.ofNat (48+n % 10)]
def dig_num: ∀n,n<40->CO (digS n)=some (n:Int)/\digS n≠ [] /\(digS n).all lb=true/\cW (digS n++ [59])=some [digS n,[59]]:=by
 intro n hn;have h1:((List.range 40).all (fun n=>CO (digS n)==some (n:Int) && (!(digS n).isEmpty && (digS n).all lb)))=true:=by kernel_rfl
 have h2:=aT h1 n (List.mem_range.2 hn);simp only[aE,beq_iff_eq,Bool.not_eq_true',List.isEmpty_eq_false_iff] at h2;obtain⟨a,b,c⟩:=h2;refine⟨a,b,c,?_⟩;generalize digS n=s at*
 cases s with
 |nil=>exact absurd U b
 |cons d s=>
  simp only[List.all_cons,aE] at c;have hl:iP d=false:=by
   have:=c.1;simp only[iP,lb,aE,decide_eq_true_eq] at this|-;simp;omega
  have hc: ¬(d=32\/d=10):=by
   rintro (rfl|rfl)
   · simp[lb] at c
   · simp[lb] at c
  have T: ∀s:Str,s.all lb=true->((s++ [59]).takeWhile lb)=s:=fun s hs=>by
   induction s with
   |nil=>rfl
   |cons a s ih=>
    simp only[List.all_cons,aE] at hs;rw[List.cons_append,List.takeWhile_cons,if_pos hs.1,ih hs.2]
  have ht:fc d (s++ [59])=some (s.length+1):=by
   unfold fc;rw[if_neg (by rw[hl];decide),if_pos c.1,T s c.2,Nat.add_comm]
  rw[List.cons_append,uj hc ht];simp[split_semi,rB]
end Go.Proofs.Y
namespace Go.Proofs.Y
open Go.Abs Go.Proofs.Tryz
attribute [local irreducible] L Code.wp bodyPost Exit.then Exit.inBlock
def sqM(x:Ex)(t:Str)(d:Bool)(n:Int):A9:={ia with kind:=7,out:= [x],frm:= [t],ord:= [x],down:=d,n:=n}
def bind_sq(c:B0)(x:Ex)(t:Str):(∃f,f≠0/\ ∀d n,(aJ c (sqM x t d n)).2=f)\/ ∃e,∀d n,aJ c (sqM x t d n)=(sqM e t d n,0):=by
 by_cases hf:gh c (sqM x t false 0)=false
 · exact .inl ⟨1,by decide,fun d n=>by unfold aJ;rw[if_pos (show gh c (sqM x t d n)=false from hf)]⟩
 have hp: ∀d n,aJ c (sqM x t d n)=if(iH c (sqM x t d n)).2≠0 then(La,(iH c (sqM x t d n)).2) else((iH c (sqM x t d n)).1,0):=fun d n=>by
  unfold aJ;rw[if_neg (show¬gh c (sqM x t d n)=false from hf)];rfl
 generalize hA:eG ([t].zipIdx.map fun p=>(ce c [t] p).2)=A;generalize hT:([t].zipIdx.map fun p=>(ce c [t] p).1)=T;generalize hB:eG ([x].map fun y=>(an T y).2.2)=B;have hc: ∀d n,iH c (sqM x t d n)=if A≠0 then(sqM x t d n,A) else if B≠0 then(sqM x t d n,B) else(sqM (an T x).1 t d n,0):=fun d n=>by
  unfold iH sqM;dsimp only;rw[hA,hT,hB,if_neg sP];split
  · rfl
  split
  · rfl
  · rfl
 by_cases h1:A≠0
 · refine .inl ⟨A,h1,fun d n=> ?_⟩;rw[hp,hc,if_pos h1,if_pos h1]
 by_cases h2:B≠0
 · refine .inl ⟨B,h2,fun d n=> ?_⟩;rw[hp,hc,if_neg h1,if_pos h2,if_pos h2]
 refine .inr ⟨(an T x).1,fun d n=> ?_⟩;rw[hp,hc,if_neg h1,if_neg h2];rfl
def sq_bad{c:B0}{ps:List Pg}{X:Str}{s:A9}(hX:cj X=([s],0))(T:(aJ c s).2≠0):(Ag c ps X).2.2.code≠0:=by
 unfold Ag;rw[hX];dsimp only;rw[if_neg sP,ib,if_pos T];exact T
def sq_ok{c:B0}{ps:List Pg}{X:Str}{s b:A9}(T:cj X=([s],0))(hb:aJ c s=(b,0))(hk:b.kind=7):Ag c ps X=(c,ps,⟨0,0,jM c ps b⟩):=by
 have ho:cK c ps b=⟨c,ps,⟨0,0,jM c ps b⟩,0⟩:=by
  unfold cK;simp[hk]
 unfold Ag;rw[T];dsimp only;rw[if_neg sP,ib,hb];dsimp only;rw[if_neg sP,ho];dsimp only;rw[if_neg sP,ib]
structure I2 (A B C:List (List A3)) (m:Nat):Prop where
 len:B.length=A.length
 one: ∀x∈A,x.length=1
 two: ∀x∈B,x.length=1
 up:A.Pairwise (fun x y=>cA (x.getD 0 af) (y.getD 0 af)<=0)
 dn:B.Pairwise (fun x y=>0<=cA (x.getD 0 af) (y.getD 0 af))
 some:C=A.take m
def sq_sorted(e:Ex)(t:Str)(d:Bool)(n:Int)(W:Nat)(J:List (List A3)):((J.mergeSort (cL (dc (sqM e t d n) W))).map (yQ (sqM e t d n))).Pairwise (fun x y=>yE d (cA (x.getD 0 af) (y.getD 0 af))<=0):=by
 have h:=rL (sqM e t d n) W;have hs:=List.pairwise_mergeSort (le:=cL (dc (sqM e t d n) W)) (fun a b c h1 h2=>(xu (s:=sqM e t d n) (wide:=W) (l:= []) sP).tr a b c h1 h2) (fun a b=>(xu (s:=sqM e t d n) (wide:=W) (l:= []) sP).tot a b) J;rw[List.pairwise_map];refine hs.imp (fun{a b} T=> ?_);have h1:dc (sqM e t d n) W a b<=0:=by
  have:=h.anti a b;simp only[cL,Bool.not_eq_true',decide_eq_false_iff_not] at T;omega
 have h2:qF d a b [e] =yE d (cA (aC a e) (aC b e)):=by
  unfold qF;split
  · rename_i h;rw[h];rfl
  · rfl
 show yE d (cA (aC a e) (aC b e))<=0;rw[<-h2];by_cases h3:qF d a b [e] =0
 · omega
 · have h4:dc (sqM e t d n) W a b=qF d a b [e]:=by
    unfold dc;exact if_pos h3
   omega
def sq_law(c:B0)(ps:List Pg)(e:Ex)(t:Str)(m:Nat):I2 (jM c ps (sqM e t false (-1))) (jM c ps (sqM e t true (-1))) (jM c ps (sqM e t false (m:Int))) m:=by
 obtain⟨W,J,T⟩: ∃(W:Nat) (J:List (List A3)),∀d n,jM c ps (sqM e t d n)=(qN (sqM e t d n) (J.mergeSort (cL (dc (sqM e t d n) W)))).map (yQ (sqM e t d n)):=⟨(ab c t).1.cols.length,(og c ps (sqM e t false 0) (ci ps (ab c t).1 (bO c (ab c t).1 0 nilE))).filter (bL nilE),fun d n=>rfl⟩
 have hl: ∀d (l:List (List A3)),qN (sqM e t d (-1)) l=l:=fun d l=>by
  unfold qN;exact if_neg (by simp[sqM])
 have hm: ∀(l:List (List A3)),qN (sqM e t false (m:Int)) l=l.take m:=fun l=>by
  unfold qN;by_cases h:(m:Int)<(l.length:Int)
  · exact if_pos ⟨Int.natCast_nonneg m,h⟩
  · have:l.take m=l:=tL C;rw[this];exact if_neg (fun h'=>h h'.2)
 rw[T,T,T,hl,hl,hm];have u1:=sq_sorted e t false (-1) W J;have u2:=sq_sorted e t true (-1) W J;refine⟨by simp,fun x hx=> ?_,fun x hx=> ?_,u1,u2.imp (fun{a b} h=> ?_),?_⟩
 · obtain⟨y,_,rfl⟩:=mM hx;rfl
 · obtain⟨y,_,rfl⟩:=mM hx;rfl
 · have:(0:Int) - cA (a.getD 0 af) (b.getD 0 af)<=0:=h;omega
 · rw[List.map_take];rfl
abbrev qSz9(c t:Str):Str:= [115,101,108,101,99,116,32] ++c++ [32,102,114,111,109,32] ++t++ [32,111,114,100,101,114,32,98,121,32] ++c
def ps_q{c t tl:Str}{l:List Str}{s:A9}(hc:bF c=true)(ht:bF t=true)(hr:(tl.headD 0|>iP)=false)(hl:cW tl=some l)(hn:tl.length<=100)(h:fe ⟨ordW c t l,false⟩=(s,⟨[[59]],false⟩)):cj (qSz9 c t++tl)=([s],0):=by
 have e:qSz9 c t++tl=ji++32::(c++32::(fi++32::(t++32::(eZ++32::(zB++32::(c++tl)))))):=by
  simp[qSz9,ji,fi,eZ,zB]
 have T:c.length<=8:=by simp only[bF,aE,decide_eq_true_eq] at hc;exact hc.2.2.1
 have n2:t.length<=8:=by simp only[bF,aE,decide_eq_true_eq] at ht;exact ht.2.2.1
 refine ps_one (l:=ordW c t l) (by rw[e];exact split_ord hc ht hr hl) (by simp[ordW]) ?_ h;simp only[qSz9,gV,lC,List.length_nil];omega
def orders{g:C0}(hn:g.n+2<150){c t:Str}(hc:bF c=true)(ht:bF t=true){m:Nat}(hm:m<40){D:Str}(hD:digS m=D){T Z2 Z3:C0×D3}(e1:fz g (qSz9 c t++ [59])=T)(e2:fz T.1 (qSz9 c t++ [32,100,101,115,99,59])=Z2)(e3:fz Z2.1 (qSz9 c t++ [32,108,105,109,105,116,32] ++D++ [59])=Z3):
 T.2.code≠0\/(T.2.code=0/\Z2.2.code=0/\Z3.2.code=0/\I2 T.2.rows Z2.2.rows Z3.2.rows m):=by
 obtain⟨cat,ps,n⟩:=g;dsimp only at hn;have p1:cj (qSz9 c t++ [59])=([sqM (rfE c) t false (-1)],0):=ps_q hc ht U (by rw[split_semi,rB];rfl) dD (stm_ord hc ht);have p2:cj (qSz9 c t++ [32,100,101,115,99,59])=([sqM (rfE c) t true (-1)],0):=by
  refine ps_q hc ht U ?_ dD (stm_desc hc ht);rw[split_sp,show([100,101,115,99,59]:Str)=wO++ [59] from rfl,split_low dD dD U,split_semi,rB];rfl
 have p3:cj (qSz9 c t++ [32,108,105,109,105,116,32] ++D++ [59])=([sqM (rfE c) t false (m:Int)],0):=by
  obtain⟨d1,d2,_,d3⟩:=dig_num m hm;rw[hD] at d1 d2 d3;have ad:D.length<=2:=by rw[<-hD];unfold digS;split<;>simp
  have e:qSz9 c t++ [32,108,105,109,105,116,32] ++D++ [59] =qSz9 c t++(32::(jY++32::(D++ [59]))):=by simp[jY]
  rw[e];refine ps_q hc ht U ?_ (by simp[jY];omega) (stm_limit hc ht d2 d1);rw[split_sp,split_low dD dD U,split_sp,d3];rfl
 rcases bind_sq cat (rfE c) t with⟨f,hf,hb⟩|⟨e,hb⟩
 · left
   rw[<-e1,zr C];exact sq_bad p1 (by rw[hb];exact hf)
 · right
   rw[zr C,sq_ok p1 (hb _ _) U] at e1;subst e1;dsimp only at e2|-;rw[zr C,sq_ok p2 (hb _ _) U] at e2;subst e2;dsimp only at e3|-;rw[zr C,sq_ok p3 (hb _ _) U] at e3;subst e3;exact⟨rfl,rfl,rfl,sq_law cat ps e t m⟩
def pair_at{α:Type}{R:α->α->Prop}: ∀{l:List α} {j:Nat} {x y:α},l.Pairwise R->l[j]?=some x->l[j+1]?=some y->R x y
 | [],j,x,y,_,T,_=>by simp at T
 |a::l,0,x,y,h,T,hy=>by
  simp at T hy;subst T;exact(List.pairwise_cons.1 h).1 y (gE hy)
 |a::l,j+1,x,y,h,T,hy=>pair_at (List.pairwise_cons.1 h).2 (by simpa using T) (by simpa using hy)
def s_convB{P:Program}{c:C7}{ops:Array Oper}{Q:Exit->Act->World->Prop}{rest:List Oper}{fr:List (Nat×AV)}{bx:List (Nat×A5)}{tk:List (Nat×C9)}{d:Nat}{ty:TypeId}{pos:String}{T:Array Edge}{x:Operand}{s t:TypeId}{k k0:IntKind}{m:Int}{b:UInt8}(ad:Nat.ble (d+1) c.nt=true)(hx:St.ev ⟨fr,bx,tk⟩ x= .iv (.im (.int k m)))[ht:D9 P t .u8][hs:D9 P s k0](hq:IntKind.u8.wrap m=(b.toNat:Int))
 (h:LW P c ⟨(d,.iv (.im (.int .u8 (b.toNat:Int))))::fr,bx,tk⟩ ops Q rest):LW P c ⟨fr,bx,tk⟩ ops Q (⟨some d,.convert s t x,ty,pos,T,none⟩::rest):=by
 exact s_v (v:= .iv (.im (.int .u8 (b.toNat:Int)))) h ad (by rw[<-hq];exact Ck hx)
def rem40(n:Int): ∃m:Nat,m<40/\(n.tmod 40+40).tmod 40=(m:Int):=by
 have h1:=Int.lt_tmod_of_pos n (show(0:Int)<40 by decide);have h2:=Int.tmod_lt_of_pos (n.tmod 40+40) (show(0:Int)<40 by decide);have h3:=Int.tmod_nonneg 40 (show 0<=n.tmod 40+40 by omega);exact⟨((n.tmod 40+40).tmod 40).toNat,by omega,(Int.toNat_of_nonneg h3).symm⟩
def dig2: ∀m,m<40->IntKind.u8.wrap (48+((m:Nat):Int).tdiv 10)=((UInt8.ofNat (48+m / 10)).toNat:Int)/\IntKind.u8.wrap (48+((m:Nat):Int).tmod 10)=((UInt8.ofNat (48+m % 10)).toNat:Int)/\0<=((m:Nat):Int).tdiv 10/\((m:Nat):Int).tdiv 10<=9/\0<=((m:Nat):Int).tmod 10/\((m:Nat):Int).tmod 10<=9:=by
 intro m hm;have h1:((List.range 40).all (fun m=>(IntKind.u8.wrap (48+((m:Nat):Int).tdiv 10)==((UInt8.ofNat (48+m / 10)).toNat:Int)) && ((IntKind.u8.wrap (48+((m:Nat):Int).tmod 10)==((UInt8.ofNat (48+m % 10)).toNat:Int)) && (decide (0<=((m:Nat):Int).tdiv 10) && (decide (((m:Nat):Int).tdiv 10<=9) && (decide (0<=((m:Nat):Int).tmod 10) && decide (((m:Nat):Int).tmod 10<=9)))))))=true:=by kernel_rfl
 have h2:=aT h1 m (List.mem_range.2 hm);simpa only[aE,beq_iff_eq,decide_eq_true_eq] using h2
def dig_c(m:Nat):(m<10/\digS m= [UInt8.ofNat (48+m % 10)])\/(¬m<10/\digS m= [UInt8.ofNat (48+m / 10),UInt8.ofNat (48+m % 10)]):=by
 by_cases h:m<10
 · exact .inl ⟨h,by rw[digS,if_pos h,Nat.mod_eq_of_lt h]⟩
 · exact .inr ⟨h,by rw[digS,if_neg h]⟩
variable [C3]
def rowsQ_any(g:C0)(T:B6 g)(x:Str):CallG cH prog 19 [.ptr 1010 0,aS x] [(1010,g.b)] [(1010,(fz g x).1.b)] [] (.tup [.iv (.sl ((fz g x).2.rows.map ai)),aB ((fz g x).2.code==0)]):=by
 have kd:=oI g T x;refine iG func19 ntmps19 (fun w0 E0 hG=> ?_);(repeat' first|intro hb hp|refine ac [] rfl hG kd fS B1 rfl rfl rfl rfl ?_|refine am ?_|refine al ?_ ?_|fail)
 all_goals exact L.ends U U fR wK
def topOrders_any(l:List Str)(hl:l.length<=140737488355328)(t c:Str)(a0:t.length<=140737488355328)(a8:c.length<=140737488355328)(n:Int)(bl: -9223372036854775808<=n)(bm:n<=9223372036854775807):
 CallG cH prog 4 [.iv (.sl (l.map Str.c)),aS t,aS c,aI n] [] [] [] (aB true):=by
 have hg:=play_ok l;have hn:=Lw l;have k1:=play_any l hl;generalize playM l=g at*
 have kt:=Cc (jd t a0);have kc:=Cc (jd c a8);refine iG func4 ntmps4 (fun w0 E0 T=> ?_);cases ht:bF t with
 |false=>
  rw[ht] at kt;(repeat' first|intro hb hp|refine ac [1010] rfl T k1 fS .nil rfl rfl rfl rfl ?_|refine LW.is (dK (ha:=rfl) U T kt U ?_)|refine am ?_|refine al ?_ ?_|fail)
  all_goals exact L.ends U U sE wK
 |true=>
 rw[ht] at kt;cases hc:bF c with
 |false=>
  rw[hc] at kc;(repeat' first|intro hb hp|refine ac [1010] rfl T k1 fS .nil rfl rfl rfl rfl ?_|(refine LW.is ?_;first|refine dK (ha:=rfl) U T kt U ?_|refine dK (ha:=rfl) U T kc U ?_)|refine am ?_|refine al ?_ ?_|fail)
  all_goals exact L.ends U U sE wK
 |true=>
 rw[hc] at kc;have n1:c.length<=8:=by simp only[bF,aE,decide_eq_true_eq] at hc;exact hc.2.2.1
 have n2:t.length<=8:=by simp only[bF,aE,decide_eq_true_eq] at ht;exact ht.2.2.1
 obtain⟨m,hm,hr⟩:=rem40 n;have a7:=dig2 m hm;rw[<-hr] at a7;obtain⟨w1,w2,w3,w4,w5,w6⟩:=a7;have b1:=Int.lt_tmod_of_pos n (show(0:Int)<40 by decide);have b2:=Int.tmod_lt_of_pos n (show(0:Int)<40 by decide);have bp:(0:Int)<40:=by decide
 have bP:(0:Int)<10:=by decide
 have r0: -9223372036854775808<=(n.tmod 40+40).tmod 40:=C;have r1:(n.tmod 40+40).tmod 40<=9223372036854775807:=C;have a1:=dig_c m;generalize UInt8.ofNat (48+m / 10)=e0 at*
 generalize UInt8.ofNat (48+m % 10)=e1 at*
 have j1:=rowsQ_any g hg (qSz9 c t++ [59]);have a2:=la hg (qSz9 c t++ [59]);have s1:=Bs hg (qSz9 c t++ [59]);have ho:=fun D hD=>orders (g:=g) C hc ht hm (D:=D) hD U U U
 generalize fz g (qSz9 c t++ [59])=Z1 at*
 have j2:=rowsQ_any Z1.1 a2 (qSz9 c t++ [32,100,101,115,99,59]);have a3:=la a2 (qSz9 c t++ [32,100,101,115,99,59]);have s2:=Bs a2 (qSz9 c t++ [32,100,101,115,99,59]);generalize fz Z1.1 (qSz9 c t++ [32,100,101,115,99,59])=Z2 at*
 have j3:=rowsQ_any Z2.1 a3 (qSz9 c t++ [32,108,105,109,105,116,32] ++digS m++ [59]);have bR:=la a3 (qSz9 c t++ [32,108,105,109,105,116,32] ++digS m++ [59]);have ho:=ho (digS m) U;have hq:decide ((n.tmod 40+40).tmod 40<10)=decide (m<10):=by rw[hr];exact decide_eq_decide.2 C
 generalize hZ:fz Z2.1 (qSz9 c t++ [32,108,105,109,105,116,32] ++digS m++ [59])=Z3 at*
 rcases ho with h1|⟨h1,h2,h3,ho⟩
 · have q1:(Z1.2.code==0)=false:=by simpa using h1
   rw[q1] at j1;rcases a1 with⟨ad,hD⟩|⟨ad,hD⟩<;>(rw[hD] at j3;first|rw[decide_eq_true ad] at hq|rw[decide_eq_false ad] at hq)<;>
   ((repeat' first|intro hb hp|refine s_convB rfl rfl (by first|exact w1|exact w2) ?_|refine ac [1010] U T k1 fS .nil U U U U ?_|refine ac [] U T j1 fS B1 U U U U ?_|refine ac [] U T j2 fS B1 U U U U ?_|refine ac [] U T j3 fS B1 U U U U ?_|(refine LW.is ?_;first|refine ag U (zV (bs:= [e0,e1]) U) ?_|refine ag U (iU U U C C) ?_|refine ag U (bn U U dD sP U) ?_|refine dK (ha:=rfl) U T kt U ?_|refine dK (ha:=rfl) U T kc U ?_)|refine am ?_|refine al ?_ ?_|fail)
    all_goals exact L.ends U U sE wK)
 have q1:(Z1.2.code==0)=true:=by rw[h1];rfl
 have q2:(Z2.2.code==0)=true:=by rw[h2];rfl
 have q3:(Z3.2.code==0)=true:=by rw[h3];rfl
 rw[q1] at j1;rw[q2] at j2;rw[q3] at j3;apply L.tail (ι:=Unit) (fun _=>⟨[(109,aI 0),(108,aI ((Z1.2.rows.map ai).length:Int)),(16,.iv (.sl (Z3.2.rows.map ai))),(14,.iv (.sl (Z2.2.rows.map ai))),(12,.iv (.sl (Z1.2.rows.map ai))),(3,aI ((n.tmod 40+40).tmod 40))],[],[]⟩) (fun _=>True)
 · intro tl;rcases a1 with⟨ad,hD⟩|⟨ad,hD⟩<;>(rw[hD] at j3;first|rw[decide_eq_true ad] at hq|rw[decide_eq_false ad] at hq)<;>
   ((repeat' first|intro hb hp|refine s_convB rfl rfl (by first|exact w1|exact w2) ?_|refine ac [1010] U T k1 fS .nil U U U U ?_|refine ac [] U T j1 fS B1 U U U U ?_|refine ac [] U T j2 fS B1 U U U U ?_|refine ac [] U T j3 fS B1 U U U U ?_|(refine LW.is ?_;first|refine ag U (zV (bs:= [e0,e1]) U) ?_|refine ag U (iU U U C C) ?_|refine ag U (bn U U dD sP U) ?_|refine dK (ha:=rfl) U T kt U ?_|refine dK (ha:=rfl) U T kc U ?_)|refine am ?_|refine al ?_ ?_|fail)
    exact tl () _ trivial (Wk.mk' kK (wG (wG (wF (wF (wF (wG .nil)))))) .nil .nil))
 intro _ _;clear j1 j2 j3 k1 kt kc w1 w2 hq a1;obtain⟨o1,o2,o3,o4,o5,o6⟩:=ho;have s3:=Bs a3 (qSz9 c t++ [32,108,105,109,105,116,32] ++digS m++ [59]);rw[hZ] at s3;obtain⟨bS,bW⟩:=s1;generalize Z1.2.rows=A at*
 generalize Z2.2.rows=B at*
 generalize Z3.2.rows=a4 at*
 refine ae (ι:=Nat) (fun i=>⟨[(109,aI (i:Int)),(108,aI ((A.map ai).length:Int)),(16,.iv (.sl (a4.map ai))),(14,.iv (.sl (B.map ai))),(12,.iv (.sl (A.map ai))),(3,aI ((n.tmod 40+40).tmod 40))],[],[]⟩) (fun i=>A.length - i) (fun _=>True) (i0:=0) ?_ trivial ?_
 · exact(Wk.mk' kK (wG (wG (wF (wF (wF (wG .nil)))))) .nil .nil)
 intro i _ K hK;cases hx:A[i]? with
 |none=>
  have a0:=gc (l:=A.map ai) (bz hx);have kS:=sameRows_any (A.take m) (by rw[lT];exact Nat.le_trans (Nat.min_le_right ..) C) (fun r hr=>by have:=o2 r (mT hr);omega);subst o6;clear hK;have b3:(A.map ai).length=A.length:=lM ..;have kA: ∀e∈A.map ai,e.length=1:=fun e he=>by obtain⟨y,_,rfl⟩:=mM he;rfl
  have v0:0<=(if((A.map ai).length:Int)<(n.tmod 40+40).tmod 40 then((A.map ai).length:Int) else(n.tmod 40+40).tmod 40):=by split<;>omega
  have v1:(if((A.map ai).length:Int)<(n.tmod 40+40).tmod 40 then((A.map ai).length:Int) else(n.tmod 40+40).tmod 40)<=((A.map ai).length:Int):=by split<;>omega
  have v2:(A.map ai).take (if((A.map ai).length:Int)<(n.tmod 40+40).tmod 40 then((A.map ai).length:Int) else(n.tmod 40+40).tmod 40).toNat=(A.take m).map ai:=by
   rw[List.map_take];split
   · rw[iN,tL nR,tL C]
   · rw[hr,iN]
  (repeat' first|intro hb hp|refine LW.is (ag U (ez U U kA v0 v1 v2) ?_)|refine am ?_|refine al ?_ ?_|fail)
  all_goals exact L.ends U U sE wK
 |some x=>
  have a0:=fZ (l:=A.map ai) (cM (f:=ai) hx);have bi:=fM hx;obtain⟨y,hy⟩: ∃y,B[i]?=some y:=⟨_,gG C⟩
  have lx:=o2 x (gE hx);have aR:=o3 y (gE hy);have g1:(A.map ai)[((i:Nat):Int).toNat]?=some (ai x):=by rw[iN,gP,hx];rfl
  have g2:(B.map ai)[((i:Nat):Int).toNat]?=some (ai y):=by rw[iN,gP,hy];rfl
  have t1:(((x.map A3.c).length:Int) !=1)=false:=by rw[lM,lx];rfl
  have t2:(((y.map A3.c).length:Int) !=1)=false:=by rw[lM,aR];rfl
  have t3:(((B.map ai).length:Int) !=((A.map ai).length:Int))=false:=by rw[lM,lM,o1];exact bne_self_eq_false _
  cases i with
  |zero=>
   have q0:decide ((0:Int)<((0:Nat):Int))=false:=rfl;refine wz ?_;exact hK _ 1 trivial C wL
  |succ i=>
   obtain⟨x',a5⟩: ∃y,A[i]?=some y:=⟨_,gG C⟩
   obtain⟨y',a6⟩: ∃y,B[i]?=some y:=⟨_,gG C⟩
   have a9:=o2 x' (gE a5);have ba:=o3 y' (gE a6);have q0:decide ((0:Int)<((i+1:Nat):Int))=true:=decide_eq_true C;have g3:(A.map ai)[(((i+1:Nat):Int) - 1).toNat]?=some (ai x'):=by
    rw[show(((i+1:Nat):Int) - 1).toNat=i by omega,gP,a5];rfl
   have g4:(B.map ai)[(((i+1:Nat):Int) - 1).toNat]?=some (ai y'):=by
    rw[show(((i+1:Nat):Int) - 1).toNat=i by omega,gP,a6];rfl
   have ar: ∀z:List A3,z.length=1->(z.map A3.c)[(0:Int).toNat]?=some (z.getD 0 af).c:=fun z bh=>by
    match z,bh with
    | [a],_=>rfl
   have g5:=ar x lx;have g6:=ar y aR;have g7:=ar x' a9;have g8:=ar y' ba;have u1:=pair_at o4 a5 hx;have u2:=pair_at o5 a6 hy;have ka:=ny (x'.getD 0 af) (x.getD 0 af);have kb:=ny (y'.getD 0 af) (y.getD 0 af);have u3:decide ((0:Int)<cA (x'.getD 0 af) (x.getD 0 af))=false:=decide_eq_false C;have u4:decide (cA (y'.getD 0 af) (y.getD 0 af)<0)=false:=decide_eq_false C;refine wz ?_;exact hK _ (i+2) trivial C wL
end Go.Proofs.Y
