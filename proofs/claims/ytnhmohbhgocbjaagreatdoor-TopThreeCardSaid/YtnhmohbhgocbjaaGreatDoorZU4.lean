/- Lemmas towards the law. Conditions: each one says its own. -/
import Derived.Test.YtnhmohbhgocbjaaGreatDoorZU3
import Derived.ChangeArms
import Derived.ChangeOld
import Derived.OpenShut
import Derived.Carry
import Derived.SizedLaws
import Derived.MapKept
import Derived.WideLaws
import Derived.JoinedCond
import Derived.Lib.ItoaNum
set_option linter.all false
set_option maxHeartbeats 64000000
set_option maxRecDepth 100000
namespace Go.Abs
open Go.RowKit (Below)
inductive CT where
 |bool
 |int (k:IntKind)
 |str
 |sl (e:TypeId)
 deriving DecidableEq
def vC(P:Program)(T:TypeId->Option (List CT)):List Field->Nat->Nat->Option (List CT)
 | [],off,tot=>if off=tot then some [] else none
 |f::fs,off,tot=>match T f.type with
  |some cts=>if f.offset=off/\P.cellsOf f.type=cts.length then(vC P T fs (off+cts.length) tot).map (cts++ ·) else none
  |none=>none
def tE(P:Program):Nat->TypeId->Option (List CT)
 |0,_=>none
 |n+1,t=>match P.underlying t with
  |some .bool=>some [.bool]
  |some (.int k)=>some [.int k]
  |some .string=>some [.str]
  |some (.slice e)=>some [.sl e]
  |some (.struct fs)=>vC P (tE P n) fs.toList 0 (P.cellsOf t)
  |_=>none
mutual
def IV.sz:IV->Nat
 | .im (.string s)=>s.size+1
 | .im _=>1
 | .sl es=>Cq es+1
def Cq:List (List IV)->Nat
 | [] =>0
 |e::es=>yC e+Cq es
def yC:List IV->Nat
 | [] =>0
 |x::xs=>x.sz+yC xs
end
def ui: ∀(a b:List IV),yC (a++b)=yC a+yC b
 | [],b=>by simp[yC]
 |x::a,b=>by simp[yC,ui a b];omega
abbrev Book:=List (TypeId×Nat×List CT)
def Book.has(T:Book):CT->Bool
 | .sl e=>(T.lookup e).isSome
 |_=>true
def Book.ok(P:Program)(T:Book):Bool:=T.all fun p=>decide (tE P 9 p.1=some p.2.2) && decide (P.cellsOf p.1=p.2.2.length) && decide (0<p.2.2.length) && p.2.2.all T.has && decide (P.bytesOf p.1=p.2.1)
inductive F0 (P:Book):CT->IV->Prop
 |bool {b:Bool}:F0 P .bool (.im (.bool b))
 |int {k:IntKind} {n:Int} (h:(Lit.int k n).wf=true):F0 P (.int k) (.im (.int k n))
 |str {s:ByteArray} (h:s.size<=reachBytes):F0 P .str (.im (.string s))
 |sl {e:TypeId} {es:List (List IV)} {n:Nat} {cts:List CT} (hm:es.length*n<=reachBytes) (hl:P.lookup e=some (n,cts)) (h1: ∀(j:Nat) (x:List IV),es[j]?=some x->x.length=cts.length)
   (h: ∀(j:Nat) (x:List IV) (i:Nat) (c:CT) (y:IV),es[j]?=some x->cts[i]?=some c->x[i]?=some y->F0 P c y):F0 P (.sl e) (.sl es)
def Fits(P:Book)(cts:List CT)(xs:List IV):Prop:=xs.length=cts.length/\ ∀(i:Nat) (c:CT) (y:IV),cts[i]?=some c->xs[i]?=some y->F0 P c y
def Reps(φ:Nat->Nat)(w:World)(xs:List IV)(cs:List Value):Prop:=xs.length=cs.length/\ ∀(i:Nat) (y:IV) (v:Value),xs[i]?=some y->cs[i]?=some v->C8 φ w y v
def uf{α β:Type}{R:α->β->Prop}{a a':List α}{b b':List β}(hl:a.length=b.length)
 (h: ∀(i:Nat) (x:α) (y:β),a[i]?=some x->b[i]?=some y->R x y) (h': ∀(i:Nat) (x:α) (y:β),a'[i]?=some x->b'[i]?=some y->R x y):
 ∀(i:Nat) (x:α) (y:β),(a++a')[i]?=some x->(b++b')[i]?=some y->R x y:=by
 intro i x y T hy;by_cases hi:i<a.length
 · rw[gL hi] at T;rw[gL C] at hy;exact h i x y T hy
 · rw[List.getElem?_append_right C] at T;rw[List.getElem?_append_right C,<-hl] at hy;exact h' _ x y T hy
def Fits.append{P:Book}{a b:List CT}{x y:List IV}(h:Fits P a x)(k:Fits P b y):Fits P (a++b) (x++y):=
 ⟨by simp[h.1,k.1],uf h.1.symm h.2 k.2⟩
def Reps.append{φ:Nat->Nat}{w:World}{x y:List IV}{a b:List Value}(h:Reps φ w x a)(k:Reps φ w y b):Reps φ w (x++y) (a++b):=
 ⟨by simp[h.1,k.1],uf h.1 h.2 k.2⟩
def Fits.nil{P:Book}:Fits P [] []:=⟨rfl,fun i c y h=>by simp at h⟩
def Reps.nil{φ:Nat->Nat}{w:World}:Reps φ w [] []:=⟨rfl,fun i c y h=>by simp at h⟩
def Fits.one{P:Book}{c:CT}{x:IV}(h:F0 P c x):Fits P [c] [x]:=⟨rfl,fun i c' y h1 h2=>by
 cases i with
 |zero=>simp at h1 h2;subst h1;subst h2;exact h
 |succ i=>simp at h1⟩
def Reps.one{φ:Nat->Nat}{w:World}{x:IV}{v:Value}(h:C8 φ w x v):Reps φ w [x] [v]:=⟨rfl,fun i c' y h1 h2=>by
 cases i with
 |zero=>simp at h1 h2;subst h1;subst h2;exact h
 |succ i=>simp at h1⟩
def fL(w:World)(b:Nat):Nat:=match w.heap[b]? with
 |some (.cells c _ _)=>c.size
 |_=>0
def jT{w:World}{b:Nat}(h:w.heap.size<=b):fL w b=0:=by
 have:w.heap[b]?=none:=by simpa using h
 simp[fL,this]
def iY{w:World}{b o:Nat}{v:Value}(h:w.cell? ⟨b,o,none⟩=some v):o<fL w b:=by
 unfold World.cell? at h;unfold fL;split at h
 · rename_i c _ _ hc;simp only at hc;rw[hc];simp at h;exact(Array.getElem?_eq_some_iff.1 h).1
 · cases h
section
variable {H:Type}{enc:TypeId×Value->H}{P:Program}{w:World}
def jq(f:DataW H->Nat)(T:List (DataW H)):Nat:=(T.map f).foldr (· + ·) 0
structure G3 (f:DataW H->Nat):Prop where
 str: ∀s:List UInt8,s.length+1<=f (.lit (.string s))
 lit: ∀l:Lit,1<=f (.lit l)
 nil:1<=f .nil
 slice: ∀es sp:List (DataW H),jq f es+1<=f (.slice es sp)
 agg: ∀es:List (DataW H),jq f es<=f (.agg es)
def ta{α:Type}{R:Nat->α->Prop}: ∀(n:Nat),(∀i,i<n-> ∃x,R i x)-> ∃l:List α,l.length=n/\ ∀(i:Nat) (x:α),l[i]?=some x->R i x
 |0,_=>⟨[],rfl,fun i x h=>by simp at h⟩
 |n+1,h=>by
  obtain⟨l,hl,hr⟩:=ta n (fun i hi=>h i C);obtain⟨x,hx⟩:=h n C;refine⟨l++ [x],by simp[hl],fun i y T=> ?_⟩;by_cases hi:i<l.length
  · rw[gL hi] at T;exact hr i y T
  · rw[List.getElem?_append_right C] at T;have:i - l.length=0:=by
     have:=(gS T).1;simp at this;omega
    rw[this] at T;simp at T;subst T;have:i=n:=C;subst this;exact hx
def DT{f:DataW H->Nat}: ∀{es:List (List IV)} {ys:List (DataW H)},es.length=ys.length->(∀(i:Nat) (e:List IV) (y:DataW H),es[i]?=some e->ys[i]?=some y->yC e<=f y)->Cq es<=jq f ys
 | [],ys,_,_=>by simp[Cq]
 |e::es,[],h,_=>by simp at h
 |e::es,y::ys,hl,h=>by
  have h0:=h 0 e y U U;have:=DT (es:=es) (ys:=ys) (f:=f) (by simpa using hl) (fun i e y h1 h2=>h (i+1) e y (by simpa using h1) (by simpa using h2));simp[Cq,jq] at this|-;omega
def Book.get{T:Book}(hT:T.ok P=true){e:TypeId}{n:Nat}{cts:List CT}(h:T.lookup e=some (n,cts)):tE P 9 e=some cts/\P.cellsOf e=cts.length/\0<cts.length/\cts.all T.has=true/\P.bytesOf e=n:=by
 have:=aT hT _ (dY h);simp only[aE,decide_eq_true_eq] at this;exact⟨this.1.1.1.1,this.1.1.1.2,this.1.1.2,this.1.2,this.2⟩
def nM{e:TypeId}: ∀{ds:List (DataW H)} {i:Nat} {d:DataW H},ds[i]?=some d->(DataW.weightsAll P e ds).all (· <=reachBytes)=true->(DataW.weights P e d).all (· <=reachBytes)=true
 | [],i,d,h,_=>by simp at h
 |d0::ds,0,d,h,T=>by
  simp only[DataW.weightsAll,List.all_append,aE] at T;simp at h;subst h;exact T.1
 |d0::ds,i+1,d,h,T=>by
  simp only[DataW.weightsAll,List.all_append,aE] at T;exact nM (by simpa using h) T.2
def Jc(P:Program)(t:TypeId)(d:DataW H):Prop:=(DataW.weights P t d).all (· <=reachBytes)=true
def uQ{f:DataW H->Nat}(hf:G3 f){T:Book}(hT:T.ok P=true): ∀(fuel n:Nat) (t:TypeId) (cs:List Value) (x:DataW H×List MemPlace) (cts:List CT),
 DataW.trod enc P w 0 (fun _=>true) true fuel t cs=some x->tE P n t=some cts->cts.all T.has=true->Jc P t x.1->
 ∃xs:List IV,Fits T cts xs/\Reps (fL w) w xs cs/\yC xs<=f x.1:=by
 intro fuel;induction fuel with
 |zero=>intro n t cs x cts h;simp[DataW.trod] at h
 |succ fuel ih=>
  intro n t cs x cts h a0 a9 a3;cases n with
  |zero=>simp[tE] at a0
  |succ n=>
   unfold tE at a0;split at a0
   · rename_i hu;obtain⟨b,rfl,rfl⟩:=DataW.trod_bool hu h;cases a0;exact⟨[.im (.bool b)],.one .bool,.one (.im U),by simp[yC,IV.sz,hf.lit]⟩
   · rename_i k hu;obtain⟨m,rfl,rfl,hw⟩:=DataW.trod_int hu h;cases a0;exact⟨[.im (.int k m)],.one (.int hw),.one (.im U),by simp[yC,IV.sz,hf.lit]⟩
   · rename_i hu;obtain⟨s,rfl,rfl,hw⟩:=DataW.trod_string hu h;cases a0;have e:s.data.toList.length=s.size:=Array.length_toList;have b6:s.size<=reachBytes:=by simpa[Jc,DataW.weights,e] using a3
     refine⟨[.im (.string s)],.one (.str b6),.one (.im U),?_⟩;have:=hf.str s.data.toList;simp only[yC,IV.sz,Nat.add_zero];rw[e] at this;exact this
   · rename_i e hu;cases a0;simp only[List.all_cons,List.all_nil,Bool.and_true,Book.has] at a9;obtain⟨⟨c6,a2⟩,a4⟩:=Option.isSome_iff_exists.1 a9;obtain⟨g1,g2,g3,g4,g5⟩:=Book.get hT a4;rcases DataW.trod_slice hu h with⟨rfl,rfl⟩|⟨a,len,cap,a1,rest,n',b7,rfl,rfl,_,c7,bp,bP,a5,_,_⟩
     · exact⟨[.sl []],.one (.sl sP a4 (fun j x hx=>by simp at hx) (fun j x i c y hx=>by simp at hx)),.one .nil,by simp[yC,IV.sz,Cq,hf.nil]⟩
     · obtain rfl:n'=fuel:=C;unfold Jc at a3;simp only[DataW.weights,hu,List.all_cons,List.all_append,aE,decide_eq_true_eq,g5,lM] at a3;obtain⟨b8,b9,_⟩:=a3;have bR: ∀i,i<len-> ∃xv:List IV×List Value,Fits T a2 xv.1/\Reps (fL w) w xv.1 xv.2/\(∃y,a1[i]?=some y/\yC xv.1<=f y.1)/\xv.2.length=a2.length/\ ∀j,j<a2.length->w.cell? ((a.add (i*a2.length)).add j)=xv.2[j]?:=by
        intro i hi;have h1:=a5 i hi;have:i<a1.length:=C;rw[gG this,g2] at h1;obtain⟨bS,ba,bh⟩:=Option.bind_eq_some_iff.1 h1;obtain⟨xs,k1,k2,k3⟩:=ih 9 e bS _ a2 bh g1 g4 (nM (i:=i) (by rw[gP,gG this];rfl) b9);obtain⟨_,cb,cc⟩:=World.cells?_some ba;exact⟨(xs,bS),k1,k2,⟨_,gG this,k3⟩,cb,cc⟩
       obtain⟨l,hl,hr⟩:=ta len bR;have bW:(l.map (·.1)).length=len:=by simp[hl]
       refine⟨[.sl (l.map (·.1))],.one (.sl (by rw[bW,<-bP];exact Nat.le_trans (mR _ (Nat.le_add_right _ _)) b8) a4 ?_ ?_),?_,?_⟩
       · intro j x hx;simp only[gP,Option.map_eq_some_iff] at hx;obtain⟨xv,ar,rfl⟩:=hx;exact(hr j xv ar).1.1
       · intro j x i c y hx hc hy;simp only[gP,Option.map_eq_some_iff] at hx;obtain⟨xv,ar,rfl⟩:=hx;exact(hr j xv ar).1.2 i c y hc hy
       · refine .one ?_;by_cases h0:len=0
         · subst h0;obtain rfl:l= []:=nZ hl;exact .emp (fun h=>by cases h) bp
         · obtain⟨b1,a8⟩: ∃xv,l[0]?=some xv:=⟨_,gG C⟩
           have b2:=(hr 0 b1 a8).2.2.2.2 0 g3;have c8:=(hr 0 b1 a8).2.2.2.1;rw[gG C] at b2;obtain⟨b,o,b3⟩:=a;have ch:b3=none:=by simpa[Addr.add] using World.cell?_spot b2
           subst ch;have aR:len=(l.map (·.1)).length:=bW.symm;rw[aR];refine .sl (k:=a2.length) (fun i j=>((l.getD i ([],[])).2).getD j undef) C bp ?_ ?_ ?_ ?_
           · intro i e' he;simp only[gP,Option.map_eq_some_iff] at he;obtain⟨xv,ar,rfl⟩:=he;exact(hr i xv ar).1.1
           all_goals
            intro i e' j x' he b4;simp only[gP,Option.map_eq_some_iff] at he;obtain⟨xv,ar,rfl⟩:=he;obtain⟨q1,q2,q3,q4,q5⟩:=hr i xv ar;have hj:j<a2.length:=by rw[<-q1.1];exact(gS b4).1
            have hv:xv.2[j]?=some (xv.2.getD j undef):=by
             rw[List.getD,gG C];rfl
            have hcell:=q5 j hj;rw[aK,aK,hv] at hcell;have cR:(l.getD i ([],[]))=xv:=by rw[List.getD,ar];rfl
            try rw[cR]
            first
             |exact iY hcell
             |exact hcell
             |exact q2.2 j x' _ b4 hv
       · have h1:Cq (l.map (·.1))<=jq f (a1.map (·.1)):=DT (by simp[hl,bP]) (fun i e' y he hy=>by
          simp only[gP,Option.map_eq_some_iff] at he hy;obtain⟨xv,ar,rfl⟩:=he;obtain⟨y',cS,rfl⟩:=hy;obtain⟨_,_,⟨y2,b5,bi⟩,_,_⟩:=hr i xv ar;rw[cS] at b5;cases b5;exact bi)
         have h2:=hf.slice (a1.map (·.1)) (rest.map (·.1));simp only[yC,IV.sz,Nat.add_zero];omega
   · rename_i fs hu;obtain⟨xs,n',b7,rfl,c9,cX,a5⟩:=DataW.trod_struct hu h;obtain rfl:n'=fuel:=C;have key: ∀(fl:List Field) (yl:List (DataW H×List MemPlace)) (off:Nat) (cts:List CT),fl.length=yl.length->vC P (tE P n) fl off (P.cellsOf t)=some cts->cts.all T.has=true->off<=P.cellsOf t->(DataW.weightsEach P (fl.map (·.type)) (yl.map (·.1))).all (· <=reachBytes)=true->
      (∀(i:Nat) (f:Field),fl[i]?=some f->DataW.trod enc P w 0 (fun _=>true) true n' f.type ((cs.drop f.offset).take (P.cellsOf f.type))=yl[i]?)->
      ∃zs:List IV,Fits T cts zs/\Reps (fL w) w zs (cs.drop off)/\yC zs<=jq f (yl.map (·.1)):=by
      intro fl;induction fl with
      |nil=>
       intro yl off cts aR ad _ _ _ _;obtain rfl:yl= []:=nZ aR.symm;unfold vC at ad;split at ad
       · rename_i he;cases ad;refine⟨[],.nil,?_,by simp[yC,jq]⟩;rw[List.drop_of_length_le C];exact .nil
       · cases ad
      |cons fd fl c3=>
       intro yl off cts aR ad a6 c5 bl hg;cases yl with
       |nil=>simp at aR
       |cons y yl=>
        unfold vC at ad;split at ad
        · rename_i c1 ba;split at ad
          · rename_i a7;obtain⟨c2,bh,rfl⟩:=Option.map_eq_some_iff.1 ad;simp only[List.all_append,aE] at a6;simp only[List.map_cons,DataW.weightsEach,List.all_append,aE] at bl;have h0:=hg 0 fd U;rw[a7.1,a7.2] at h0;obtain⟨z1,k1,k2,k3⟩:=ih n fd.type _ y c1 h0 ba a6.1 bl.1;have hz:c1.length=((cs.drop off).take c1.length).length:=k1.1.symm.trans k2.1;have bi:off+c1.length<=P.cellsOf t:=by
             simp at hz;omega
            obtain⟨z2,m1,m2,m3⟩:=c3 yl (off+c1.length) c2 (by simpa using aR) bh a6.2 bi bl.2 (fun i c4 bm=>by simpa using hg (i+1) c4 (by simpa using bm));refine⟨z1++z2,k1.append m1,?_,?_⟩
            · have:cs.drop off=(cs.drop off).take c1.length++cs.drop (off+c1.length):=by
               rw[<-List.drop_drop,List.take_append_drop]
              rw[this];exact k2.append m2
            · rw[ui];simp[jq] at m3|-;omega
          · cases ad
        · cases ad
     obtain⟨zs,q1,q2,q3⟩:=key fs.toList xs 0 cts (by simp[cX]) a0 a9 (Nat.zero_le _) (by simpa[Jc,DataW.weights,hu] using a3) (fun i fd bm=>a5 i fd (by simpa using bm));exact⟨zs,q1,by simpa using q2,Nat.le_trans q3 (hf.agg _)⟩
   · cases a0
end
def CallG.below{gs:aw}{P:Program}{f:FuncId}{args:List AV}{v:Value}(hv:v.oneCell'=true)
 (h: ∀(E:B9) (w:World) (us:List Value),RelL E w args us->Glob gs E w->Calls P f us.toArray w fun e w'=>e= .returned v/\Below w.heap.size w w'):CallG gs P f args [] [] [] (.iv (.im v)):=by
 intro E w us hr hh hG;refine(h E w us hr hG).mono ?_;rintro e w' ⟨he,hb⟩;refine⟨v,E,he,.iv (.im hv),⟨fun id b h=>by simp at h,fun id t h=>by simp at h,fun i j b b' h=>by simp at h,fun i j t t' g h=>by simp at h,fun i j b t h=>by simp at h,fun i b h=>by simp at h,fun i t g h=>by simp at h,
  fun b T=>hh.new b (Nat.le_trans hb.size T),fun b _=>rfl,fun id h=>by simp[keys] at h,nE hb⟩⟩
def Glob.sub{gs T:aw}{E:B9}{w:World}(hs: ∀p∈T,p∈gs)(h:Glob gs E w):Glob T E w:=
 ⟨⟨h.1.1,fun g xs hm=>h.1.2 g xs (hs _ hm)⟩,fun g xs hm=>h.2 g xs (hs _ hm)⟩
def RelL.im1{E:B9}{w:World}{v:Value}{us:List Value}(h:RelL E w [.iv (.im v)] us):us= [v]:=by
 obtain⟨hl,h⟩:=h
 match us,hl with
 | [u],_=>rw[(h 0 _ u U U).iv_im]
def C4.aside{c:C7}{E:B9}{bx:List (Nat×A5)}{tk:List (Nat×C9)}{w w':World}{g:Nat}(h:C4 c E bx tk w)(hk:D1 (· =g) w w')(hg:c.w0.heap.size<=g)(hφ:E.φ g=0)
 (hb: ∀(id:Nat) (b:A5),bx.lookup id=some b->b.cs≠ [] ->E.ρ id≠g) (ht: ∀(j:Nat) (t:C9),tk.lookup j=some t->(E.η j).ownBlock≠some g):
 C4 c E bx tk w'/\ ∀(x:AV) (u:Value),A6 E w x u->A6 E w' x u:=by
 have ad:Keeps E.φ w w':=fun b o ho=>by
  have T:b<w.heap.size:=by
   rcases Nat.lt_or_ge b w.heap.size with h1|h1
   · exact h1
   · rw[h.new b h1] at ho;cases ho
  exact World.cell?_of_block (hk.block b T (fun e=>by rw[e,hφ] at ho;cases ho))
 have mono: ∀(x:AV) (u:Value),A6 E w x u->A6 E w' x u:=fun x u hr=>A6.mono (h:=hr) ad (fun _=>Nat.le_refl _) (fun _ _=>⟨rfl,rfl⟩)
 refine⟨⟨fun id b hi hn=> ?_,fun j t hj=> ?_,h.bb,h.tt,h.bt,h.own,h.ownt,fun b ar=>h.new b (Nat.le_trans hk.size ar),h.old,h.ins,?_⟩,mono⟩
 · have T:=sA (h.box id b hi hn);obtain⟨h0,arr,ha,hl,h1,hr,hq⟩:=h.box id b hi hn;exact⟨h0,arr,by rw[hk.block _ T (hb id b hi hn)];exact ha,hl,h1,fun i x u hx hu=>mono x u (hr i x u hx hu),hq⟩
 · rcases h.tok j t hj with hn|⟨g',n,cap,cur,hv,hh,rest⟩
   · exact .inl hn
   · refine .inr ⟨g',n,cap,cur,hv,?_,rest⟩;have T:g'<w.heap.size:=(Array.getElem?_eq_some_iff.1 hh).1;rw[hk.block g' T (fun e=>ht j t hj (by rw[hv,e];rfl))];exact hh
 · exact h.kept.next hk.os hk.tape hk.output hk.size (fun k aR _=>hk.block k (Nat.lt_of_lt_of_le aR h.kept.size) C) (fun h=>False.elim h)
def Mj(es:Array MapEntry)(l:List (Int×Int)):Prop:=es.toList.map (fun e=>(e.key,e.val))=l.map (fun p=>(Value.int .i64 p.1,Value.int .i64 p.2))
def lookM(l:List (Int×Int))(k:Int):Option Int:=(l.find? (fun p=>k==p.1)).map (·.2)
def ns(k:Int): ∀(es:List MapEntry) (l:List (Int×Int)) (i:Nat),es.map (fun e=>(e.key,e.val))=l.map (fun p=>(Value.int .i64 p.1,Value.int .i64 p.2))->
 ∃r,Instr.findNow (.int .i64) (.int .i64 k) es i=some r/\r.map Prod.snd=(lookM l k).map (Value.int .i64)
 | [],[],i,_=>⟨none,rfl,rfl⟩
 | [],p::l,i,h=>by simp at h
 |e::es,[],i,h=>by simp at h
 |e::es,p::l,i,h=>by
  simp only[List.map_cons,List.cons.injEq,Prod.mk.injEq] at h;obtain⟨⟨h1,h2⟩,h3⟩:=h;cases T:k==p.1 with
  |true=>
   refine⟨some (i,e.val),by simp only[Instr.findNow,h1,Instr.sameNow,if_true];rw[T],?_⟩;rw[lookM,List.find?_cons,T,h2];rfl
  |false=>
   obtain⟨r,hr,hv⟩:=ns k es l (i+1) h3;refine⟨r,by simp only[Instr.findNow,h1,Instr.sameNow,if_true];rw[T];exact hr,?_⟩;rw[hv,lookM,lookM,List.find?_cons,T]
structure G4 (P:Program) (t:TypeId):Prop where
 h: ∃kt et,P.underlying t=some (.map kt et)/\P.underlying kt=some (.int .i64)/\(P.info? et).bind (·.zero)=some (.int .i64 0)
def Hh{P:Program}{w:World}{t:TypeId}{z:Value}(h:(P.info? t).bind (·.zero)=some z):(zeroValue t).run P w= .ok z w:=by
 cases T:P.info? t with
 |none=>rw[T] at h;simp at h
 |some i=>
  rw[T] at h;simp only[Option.bind_some] at h;simp[zeroValue,typeInfo,Sem.run_bind,run_program,Result.andThen,T,h]
section
variable {P:Program}{c:C7}{st:St}{ops:Array Oper}{Q:Exit->Act->World->Prop}{rest:List Oper}{o:Oper}
def LM(c:C7)(b:Nat)(l:List (Int×Int))(st:St)(X:Act->World->Prop):Prop:=
 ∀(a:Act) (w:World) (E:B9),Inv c E st a w->c.w0.heap.size<=b->E.φ b=0->(∃es T,w.heap[b]?=some (.map es T)/\Mj es l)->X a w
def LM.make{t:TypeId}{d:Nat}(ho:o.op= .makeMap t none)(hg:o.guard=none)(hd:o.dst=some d)(ar:Nat.ble (d+1) c.nt=true)
 (h: ∀b:Nat,LM c b [] ⟨(d,.iv (.im (.map (some b))))::st.fr,st.bx,st.tk⟩ (wpList P ops Q rest)):L c st (wpList P ops Q (o::rest)):=by
 rintro a w ⟨E,hi⟩;have T:(execOp a.eval o).run P w= .ok (.value (.map (some w.heap.size))) (w.alloc (.map #[] 0)):=by
  simp[execOp,ho,Instr.makeMap,Result.andThen]
 refine wpList_plain hg (fun K hK=>ek T (hK _ _ ?_));rw[hd];have ad:=MapKept.heap_alloc w (.map #[] 0);have aR:D1 (· =w.heap.size) w (w.alloc (.map #[] 0)):=⟨rfl,rfl,rfl,by show w.heap.size<=(w.heap.push _).size;simp,fun k hk _=>ad.2 k hk,fun _=>Nat.le_refl _⟩
 obtain⟨h1,h2⟩:=hi.heap.aside aR hi.heap.kept.size (hi.heap.new _ nR) (fun id b hb hn=>Nat.ne_of_lt (sA (hi.heap.box id b hb hn))) (fun j t' hj e=>Nat.lt_irrefl _ (jv (hi.heap.tok j t' hj) e));exact h w.heap.size _ _ E (Inv.put ⟨hi.defers,hi.size,fun s v hs=>h2 _ _ (hi.slot s v hs),h1⟩ (bT ar) (.iv (.im U))) hi.heap.kept.size (hi.heap.new _ nR) ⟨#[],0,ad.1,rfl⟩
def LM.insert{t:TypeId}{b:Nat}{l:List (Int×Int)}{x y z:Operand}{k v:Int}(ho:o.op= .insert t x y z)(hg:o.guard=none)(hd:o.dst=none)(hx:st.ev x= .iv (.im (.map (some b))))(hy:st.ev y=aI k)(hz:st.ev z=aI v)
 (ht:G4 P t) (ad:lookM l k=none) (h:LM c b (l++ [(k,v)]) st (wpList P ops Q rest)):LM c b l st (wpList P ops Q (o::rest)):=by
 rintro a w E hi hb hφ ⟨es,T,hh,he⟩;obtain⟨kt,et,t1,t2,t3⟩:=ht.h;obtain⟨r,hr,ar⟩:=ns k es.toList l 0 he;rw[ad] at ar;have a2:r=none:=by cases r with|none=>rfl|some _=>cases ar
 subst a2;have e1:a.eval x= .map (some b):=by have:=hi.ev x;rw[hx] at this;exact this.iv_im
 have e2:a.eval y= .int .i64 k:=by have:=hi.ev y;rw[hy] at this;exact this.iv_im
 have e3:a.eval z= .int .i64 v:=by have:=hi.ev z;rw[hz] at this;exact this.iv_im
 have aR:MapKept.IsKey (.int .i64) (.int .i64 k):=rfl;have a0:(execOp a.eval o).run P w= .ok .skip {w with heap:=w.heap.setIfInBounds b (.map (es.push {key:= .int .i64 k,val:= .int .i64 v,born:=T}) (T+1))}:=by
  simp[execOp,ho,e1,e2,e3,Instr.mapUpdate,run_underlying t1,MapKept.run_getObj_map hh,MapKept.run_checkKey t2 aR,MapKept.run_findKey t2 hr,MapKept.run_setObj_map _ hh,Result.andThen]
 refine wpList_plain hg (fun K hK=> ?_);unfold Oper.wp;rw[a0];simp only[Oper.upon_skip,hd,Act.put];refine hK _ _ ?_;have hs:=MapKept.heap_set (o':= .map (es.push {key:= .int .i64 k,val:= .int .i64 v,born:=T}) (T+1)) hh;have a3:D1 (· =b) w {w with heap:=w.heap.setIfInBounds b (.map (es.push {key:= .int .i64 k,val:= .int .i64 v,born:=T}) (T+1))}:=⟨rfl,rfl,rfl,by simp,fun k' _ hk=>hs.2 k' hk,fun _=>Nat.le_refl _⟩
 obtain⟨h1,h2⟩:=hi.heap.aside a3 hb hφ (fun id bb a4 hn e=>by
  obtain⟨_,arr,ha,_⟩:=hi.heap.box id bb a4 hn;rw[e,hh] at ha;cases ha) (fun j t' hj e=>by
  rcases hi.heap.tok j t' hj with hn|⟨g',n,cap,cur,hv,a1,_⟩
  · rw[hn] at e;simp[Value.ownBlock] at e
  · rw[hv] at e;simp[Value.ownBlock] at e;rw[e,hh] at a1;cases a1)
 refine h a _ E ⟨hi.defers,hi.size,fun s v hs=>h2 _ _ (hi.slot s v hs),h1⟩ hb hφ ⟨_,_,hs.1,?_⟩;unfold Mj at he|-;simp[he]
structure I3 (c c':C7):Prop where
 nt:c'.nt=c.nt
 own: ∀id∈c'.ins,c.w0.heap.size<=c'.E0.ρ id\/c.M (c'.E0.ρ id)
 ins: ∀id∈c.ins,id∈c'.ins/\c'.E0.ρ id=c.E0.ρ id/\c'.E0.η id=c.E0.η id
 old: ∀b,b<c.w0.heap.size->c'.E0.φ b=c.E0.φ b
 kept:D1 c.M c.w0 c'.w0
def EQ(c:C7)(b:Nat)(l:List (Int×Int)):Prop:=(∃es T,c.w0.heap[b]?=some (.map es T)/\Mj es l)/\ ¬c.M b
def mi{c':C7}{X:Act->World->Prop}(hk:I3 c c')(h:L c st X):L c' st X:=by
 rintro a w ⟨E,hi⟩;refine h a w ⟨E,hi.defers,hi.size.trans hk.nt,hi.slot,hi.heap.box,hi.heap.tok,hi.heap.bb,hi.heap.tt,hi.heap.bt,fun i b hl hn=> ?_,fun j t g hj hg=>Nat.le_trans hk.kept.size (hi.heap.ownt j t g hj hg),hi.heap.new,fun b hb=> ?_,fun id T=> ?_,?_⟩
 · rcases hi.heap.own i b hl hn with h1|⟨id,T,e,_⟩
   · exact .inl (Nat.le_trans hk.kept.size h1)
   · rw[<-e];exact hk.own id T
 · rw[hi.heap.old b (Nat.lt_of_lt_of_le hb hk.kept.size),hk.old b hb]
 · obtain⟨k1,k2,k3⟩:=hk.ins id T;obtain⟨e1,e2,e3⟩:=hi.heap.ins id k1;exact⟨e1.trans k2,e2.trans k3,e3⟩
 · refine hk.kept.next hi.heap.kept.os hi.heap.kept.tape hi.heap.kept.output hi.heap.kept.size (fun k ad hm=>hi.heap.kept.block k (Nat.lt_of_lt_of_le ad hk.kept.size) (fun hM=> ?_)) (fun h=>False.elim h);obtain⟨id,T,e,_⟩:=hM;rcases hk.own id T with h1|h1
   · rw[e] at h1;omega
   · rw[e] at h1;exact hm h1
def Yields.lookM{t:TypeId}{b:Nat}{l:List (Int×Int)}{x y:Operand}{k:Int}(ho:o.op= .lookup t x y true)(ht:G4 P t)(hm:EQ c b l)(hx:st.ev x= .iv (.im (.map (some b))))(hy:st.ev y=aI k):
 Yields P c st o (.tup [aI ((Abs.lookM l k).getD 0),aB (Abs.lookM l k).isSome]):=fun E a w hi=>by
 obtain⟨⟨es,aR,hh,he⟩,hM⟩:=hm;obtain⟨kt,et,t1,t2,t3⟩:=ht.h;have ar:b<c.w0.heap.size:=(Array.getElem?_eq_some_iff.1 hh).1;rw[<-hi.heap.kept.block b ar hM] at hh;obtain⟨r,hr,T⟩:=ns k es.toList l 0 he;have e1:a.eval x= .map (some b):=by have:=hi.ev x;rw[hx] at this;exact this.iv_im
 have e2:a.eval y= .int .i64 k:=by have:=hi.ev y;rw[hy] at this;exact this.iv_im
 have ad:MapKept.IsKey (.int .i64) (.int .i64 k):=rfl;have hz:=Hh (w:=w) t3;refine⟨.tuple #[.int .i64 ((Abs.lookM l k).getD 0),.bool (Abs.lookM l k).isSome],?_,.tup U (fun i cc u hc hu=> ?_)⟩
 · cases r with
   |none=>
    have:Abs.lookM l k=none:=by cases hl:Abs.lookM l k with|none=>rfl|some _=>rw[hl] at T;cases T
    simp[execOp,ho,e1,e2,Instr.lookup,run_underlying t1,MapKept.run_getObj_map hh,MapKept.run_checkKey t2 ad,MapKept.run_findKey t2 hr,hz,Result.andThen,this]
   |some q=>
    obtain⟨j,v⟩:=q;cases hl:Abs.lookM l k with
    |none=>rw[hl] at T;cases T
    |some v'=>
     rw[hl] at T;simp only[Option.map_some,Option.some.injEq] at T;subst T;simp[execOp,ho,e1,e2,Instr.lookup,run_underlying t1,MapKept.run_getObj_map hh,MapKept.run_checkKey t2 ad,MapKept.run_findKey t2 hr,Result.andThen]
 · match i,hc,hu with
   |0,hc,hu=>simp at hc hu;subst hc;subst hu;exact .iv (.im U)
   |1,hc,hu=>simp at hc hu;subst hc;subst hu;exact .iv (.im U)
   |n+2,hc,hu=>simp at hc
end
section
variable {P:Program}{c:C7}{fr:List (Nat×AV)}{bx:List (Nat×A5)}{tk:List (Nat×C9)}{ops:Array Oper}{Q:Exit->Act->World->Prop}{rest:List Oper}
 {d:Nat} {ty:TypeId} {pos:String} {aft:Array Edge} {st:St}
def LW.mk(h:L c st (wpList P ops Q rest)):LW P c st ops Q rest:=by unfold LW;exact h
def VV.mk{o:Oper}{v:AV}{tb:List Nat}(h: ∀st':St,(∀x∈o.op.operands,st'.ev x=st.ev x)->(∀id∈tb,st'.bx.lookup id=st.bx.lookup id)->Yields P c st' o v):VV P c st o v tb:=by unfold VV;exact h
def DK{gs:aw}{b:Nat}{l:List (Int×Int)}{X:Act->World->Prop}(hG:Glob gs c.E0 c.w0)(aR:st.tk= [])(ad:st.bx.all (fun p=> !p.2.cs.isEmpty)=true)
 (h: ∀c':C7,c'.ins=keys st.bx->I3 c c'->EQ c' b l->Glob gs c'.E0 c'.w0->L c' st X):LM c b l st X:=by
 rintro a w E hi hb hφ ⟨es,a0,hh,he⟩;have ar: ∀(id:Nat) (bb:A5),st.bx.lookup id=some bb->bb.cs≠ []:=fun id bb hl=>by
  have:=aT ad _ (dY hl);simpa using this
 refine h ⟨c.nt,w,E,keys st.bx⟩ U ⟨rfl,fun id T=> ?_,fun id T=> ?_,fun b' a1=>hi.heap.old b' a1,hi.heap.kept⟩ ⟨⟨es,a0,hh,he⟩,?_⟩ (hG.keep hi) a w ⟨E,hi.defers,hi.size,hi.slot,?_⟩
 · obtain⟨bb,hl⟩:=it T;exact hi.heap.own id bb hl (ar id bb hl)
 · obtain⟨e1,e2,e3⟩:=hi.heap.ins id T;obtain⟨bb,hl⟩:=Option.isSome_iff_exists.1 e3;exact⟨mL hl,e1,e2⟩
 · rintro ⟨id,T,e,_⟩;obtain⟨bb,hl⟩:=it T;obtain⟨_,arr,ha,_⟩:=hi.heap.box id bb hl (ar id bb hl);dsimp only at e;rw[e,hh] at ha;cases ha
 · refine⟨hi.heap.box,hi.heap.tok,hi.heap.bb,hi.heap.tt,hi.heap.bt,fun i bb hl hn=> .inr ⟨i,mL hl,rfl,(hi.heap.box i bb hl hn).1⟩,fun j t g hj=>by rw[aR] at hj;simp at hj,hi.heap.new,fun _ _=>rfl,fun id T=> ?_,D1.refl _ _⟩;obtain⟨bb,hl⟩:=it T;exact⟨rfl,rfl,by rw[hl];rfl⟩
def jj{t:TypeId}{b:Nat}{l:List (Int×Int)}{x y:Operand}{k:Int}{v:AV}(ht:G4 P t)(hm:EQ c b l)(hx:St.ev ⟨fr,bx,tk⟩ x= .iv (.im (.map (some b))))(hy:St.ev ⟨fr,bx,tk⟩ y=aI k)(hv: .tup [aI ((Abs.lookM l k).getD 0),aB (Abs.lookM l k).isSome] =v):
 VV P c ⟨fr,bx,tk⟩ ⟨some d,.lookup t x y true,ty,pos,aft,none⟩ v []:=
 .mk fun st' T kL=>hv▸ .lookM U ht hm ((T x oO).trans hx) ((T y oO).trans hy)
def Sub.bslE(id off:Nat):Sub (.bsl id off 0 0) .emp:=fun _ _ _ h=>by
 obtain⟨o,hu,_⟩:=h.bsl_inv;exact .emp hu
def tH{t t' e e':TypeId}{k k':Nat}{x y:Operand}{v:AV}[hs:A8 P t e k][a0:A8 P t' e' k'](hx:St.ev ⟨fr,bx,tk⟩ x=v)(hv:Sub v .emp)(hy:(St.ev ⟨fr,bx,tk⟩ y).sl?=some []):
 VV P c ⟨fr,bx,tk⟩ ⟨some d,.call {callee:= .builtin .append,args:= #[x,y],argTypes:= #[t,t']},ty,pos,aft,none⟩ .emp []:= .mk fun st' kE kL E a w hi=>by
 obtain⟨hu,a1,ar,a4⟩:=aH hs.h;obtain⟨a2,_⟩:=aH a0.h;have h0:=hi.ev x;rw[(kE x oO).trans hx] at h0;have h0:=hv _ _ _ h0;have h2:C8 E.φ w (.sl []) (a.eval y):=(hi.ev y).sl ((congrArg AV.sl? (kE y oO)).trans hy);have aR:(Builtin.lenOf (a.eval y)).run P w= .ok 0 w/\(Builtin.firstCells a1.size 0 (a.eval y)).run P w= .ok #[] w:=by
  generalize a.eval y=uy at h2;rcases h2.sl_inv with⟨T,_⟩|⟨ad,cap,T,_,_,_⟩|⟨b,o',cap,k',f,T,hc,_⟩
  · rw[T];exact⟨rfl,by simp[Builtin.firstCells]⟩
  · rw[T];exact⟨rfl,by simp[Builtin.firstCells,loadCells,loadCellsFrom]⟩
  · rw[T];exact⟨rfl,by simp[Builtin.firstCells,loadCells,loadCellsFrom]⟩
 have a3:(Builtin.append_ #[t,t'] ty #[a.eval x,a.eval y]).run P w= .ok (a.eval x) w:=by
  generalize a.eval x=ux at h0;cases h0 with
  | @emp ad _ T=>subst T;cases ad<;>simp[Builtin.append_,run_underlying hu,run_underlying a2,sizeOf,typeInfo,ar,aR.1,aR.2,storeCells]
 exact⟨a.eval x,by simp[execOp,resolve,invoke,builtin,a3],h0⟩
def CallA.pubRow{f:FuncId}{Nh:List AV}{N:Nat}{t:C9}{es:List (List IV)}(h:CallA P f Nh [] [] [(N,t)] (.row N es)):CallA P f Nh [] [] [] (.iv (.sl es)):=fun E w us hr hh=>
 (h E w us hr hh).mono (fun e w' ⟨u,E',he,hrep,T⟩=>⟨u,E',he,Sub.row _ _ _ _ _ hrep,T.wk (st:=⟨[],[],[(N,t)]⟩) (st':=⟨[],[],[]⟩) (Wk.mk' (by intro id h;simp[keys] at h) .nil .nil .nil)⟩)
def uw{f:FuncId}{args:Array Operand}{T:Array TypeId}{Nh:List AV}{t:C9}{es:List (List IV)}(ad:Nat.ble (d+1) c.nt=true)[ar:A0 P f](hc:CallA P f Nh [] [] [(d,t)] (.row d es))(ha:args.toList.map (St.ev ⟨fr,bx,tk⟩)=Nh)
 (hf:St.fresh d ⟨fr,bx,tk⟩=true) (h:LW P c ⟨(d,.row d es)::fr,bx,(d,t)::tk⟩ ops Q rest):
 LW P c ⟨fr,bx,tk⟩ ops Q (⟨some d,.call {callee:= .value (.func f),args:=args,argTypes:=T},ty,pos,aft,none⟩::rest):=
 .mk (jr (st:=⟨fr,bx,tk⟩) [d] U U ad U ar.h hc (ha▸Subs.refl _) .nil (by simp[hf]) U (by simp[keys]) U (by simp[AV.mentIn]) h.out)
def Aq{f:FuncId}{args:Array Operand}{ad:Array TypeId}{Nh:List AV}{T:AV}(ar:Nat.ble (d+1) c.nt=true)[aR:A0 P f](hc:CallA P f Nh [] [] [] T)(ha:args.toList.map (St.ev ⟨fr,bx,tk⟩)=Nh)
 (a0:AV.mentIn [] T=true) (h:LW P c ⟨(d,T)::fr,bx,tk⟩ ops Q rest):
 LW P c ⟨fr,bx,tk⟩ ops Q (⟨some d,.call {callee:= .value (.func f),args:=args,argTypes:=ad},ty,pos,aft,none⟩::rest):=
 .mk (L.call0 (st:=⟨fr,bx,tk⟩) U U ar U aR.h hc (ha▸Subs.refl _) a0 h.out)
def L.rowS0(K N s s2:Nat){X:Act->World->Prop}{k m m':Nat}{ty:TypeId}(a9:c.ins= [])(hb:st.bx.lookup K=some ⟨ty,.r [] m⟩)(bW:0<m)
 (hs:st.fr.lookup s=some (.bsh K 0 0 k)) (ba:st.fr.lookup s2=some (.bsh K 0 m' k)) (b2:0<m') (hf:st.fresh N=true) (h:L c ⟨(s,.row N [])::st.fr,(K,⟨ty,.l []⟩)::st.bx,(N,⟨ty,k⟩)::st.tk⟩ X):L c st X:=by
 rintro a w ⟨E,hi⟩;have T:(⟨ty,.r [] m⟩:A5).cs≠ []:=fun e=>by
  simp only[A5.cs_r,List.map_nil,List.nil_append] at e;have:=congrArg List.length e;simp at this;omega
 obtain⟨h0,arr,ha,b3,h1,hr,bh⟩:=hi.heap.box K _ hb T;have aR:=hi.slot s _ hs;obtain⟨cap,o,hu,b4,b5,ar,bi⟩:=aR.bsh_inv;have a0:C4 c E ((K,⟨ty,.l []⟩)::st.bx) st.tk w:=hi.heap.reBox hb T (fun h=>absurd U h);have bl:K≠N:=(St.fresh_bx hf hb).1;have a3:St.fresh N ⟨st.fr,(K,⟨ty,.l []⟩)::st.bx,st.tk⟩=true:=by
  simp only[St.fresh,List.all_cons,aE] at hf|-;exact⟨⟨hf.1.1,by simpa[A5.ment,AV.ments] using bl,hf.1.2⟩,hf.2⟩
 have a1:cap*k<=arr.length:=bh k cap ar;have a4:c.w0.heap.size<=E.ρ K:=by
  rcases hi.heap.own K _ hb T with h|⟨id,a5,_⟩
  · exact h
  · rw[a9] at a5;cases a5
 have a6: ∀(i:Nat) (b1:A5),List.lookup i ((K,(⟨ty,.l []⟩:A5))::st.bx)=some b1->b1.cs≠ [] ->i≠K/\st.bx.lookup i=some b1:=fun i b1 h hn=>by
  by_cases e:i=K
  · subst e;rw[aj] at h;cases h;exact(hn U).elim
  · rw[aa e] at h;exact⟨e,h⟩
 obtain⟨bR,o2,_,bS,_,a2,_⟩:=(hi.slot s2 _ ba).bsh_inv;have b6:=(mV (ar.symm.trans a2)).2;have bm:o=0:=by rw[bi C];simp
 subst bm;obtain⟨ht,mono⟩:=C4.turn (st:=⟨st.fr,(K,⟨ty,.l []⟩)::st.bx,st.tk⟩) a0 a3 0 (.slice (some ⟨E.ρ K,0,none⟩) 0 cap);refine h a w ⟨_,hi.defers,hi.size,fun s' v hv=> ?_,ht.addTok (id:=N) (t:=⟨ty,k⟩) ?_ (fun j t' g hj hl hg ad=> ?_) (fun i b1 bp a7 ad=> ?_) (fun g hg=> ?_)⟩
 · by_cases e:s'=s
   · subst e;simp only[aj,Option.some.injEq] at hv;subst hv;exact .row (by simp[hu]) (by rw[hu];exact .emp (fun e=>by cases e) C)
   · simp only[aa e] at hv;exact mono v _ (St.fresh_fr hf hv) (hi.slot s' v hv)
 · refine .inr ⟨E.ρ K,0,cap,arr.toArray,by simp,ha,by omega,by omega,by simpa using a1,?_⟩;show E.φ (E.ρ K)<=_;rw[h0];exact Nat.zero_le _
 · simp only[if_true,Value.ownBlock,Option.some.injEq] at ad;simp only[if_neg hj] at hg;exact hi.heap.bt K j _ t' hb T hl (by rw[hg,ad])
 · obtain⟨a8,h2⟩:=a6 i b1 bp a7;have bP:i≠N:=(St.fresh_bx hf h2).1;simp only[if_true,Value.ownBlock,Option.some.injEq,if_neg bP] at ad;exact a8 (hi.heap.bb i K b1 _ h2 hb a7 T ad.symm)
 · simp only[if_true,Value.ownBlock,Option.some.injEq] at hg;rw[<-hg];exact a4
end
section
variable {P:Program}{c:C7}{st:St}{ops:Array Oper}{Q:Exit->Act->World->Prop}{rest:List Oper}{o:Oper}
def yn(N:List Nat){gs:aw}{f:FuncId}{x:Operand}{args:Array Operand}{aR:Array TypeId}{avs caps:List AV}{bxi T:List (Nat×A5)}{ad:AV}{d:Nat}(hg:o.guard=none)(hd:o.dst=some d)(a0:Nat.ble (d+1) c.nt=true)(hG:Glob gs c.E0 c.w0)
 (ho:o.op= .call {callee:= .value x,args:=args,argTypes:=aR}) (hx:st.ev x= .fn f caps) (a1:dP P f=true) (hc:CallG gs P f (avs++caps) bxi T [] ad) (ha:Subs (args.toList.map st.ev) avs)
 (a2:E3 st.bx bxi) (hN:N.all (fun id=>st.fresh id)=true) (a3:dV N bxi T=true) (a4:T.all (fun p=>AV.mentsIn (N++keys bxi) p.2.cs)=true) (a5:AV.mentIn (N++keys bxi) ad=true)
 (h:L c ⟨(d,ad)::st.fr,T++st.bx,st.tk⟩ (wpList P ops Q rest)):L c st (wpList P ops Q (o::rest)):=
 mY N hg hd a0 hG (fun E a w hi=>by
  have hv:=hi.ev x;rw[hx] at hv;generalize hu:a.eval x=u at hv;cases hv with
  | @fn _ _ us hl hr=>
    refine⟨args.toList.map a.eval++us,?_,((hi.evs args).sub ha).append ⟨hl,hr⟩⟩;have ar:(args.toList.map a.eval++us).toArray=args.map a.eval++us.toArray:=by apply Array.ext';simp
    rw[ar];simp[execOp,ho,resolve,hu,Deferred.ofValue,invoke,eJ a1]) hc a2 hN a3 U a4 a5 h
def oY(N:List Nat){fr:List (Nat×AV)}{bx:List (Nat×A5)}{tk:List (Nat×C9)}{d:Nat}{ty:TypeId}{pos:String}{aft:Array Edge}{gs:aw}{f:FuncId}{x:Operand}{args:Array Operand}{ar:Array TypeId}{avs caps:List AV}{bxi T:List (Nat×A5)}{ad:AV}(aR:Nat.ble (d+1) c.nt=true)(hG:Glob gs c.E0 c.w0)(hx:St.ev ⟨fr,bx,tk⟩ x= .fn f caps)[a0:A0 P f]
 (hc:CallG gs P f (avs++caps) bxi T [] ad) (ha:Subs (args.toList.map (St.ev ⟨fr,bx,tk⟩)) avs) (a1:E3 bx bxi) (hN:N.all (fun id=>St.fresh id ⟨fr,bx,tk⟩)=true) (a2:dV N bxi T=true) (a3:T.all (fun p=>AV.mentsIn (N++keys bxi) p.2.cs)=true) (a4:AV.mentIn (N++keys bxi) ad=true)
 (h:LW P c ⟨(d,ad)::fr,T++bx,tk⟩ ops Q rest):
 LW P c ⟨fr,bx,tk⟩ ops Q (⟨some d,.call {callee:= .value x,args:=args,argTypes:=ar},ty,pos,aft,none⟩::rest):=
 .mk (yn N (st:=⟨fr,bx,tk⟩) U U aR hG U hx a0.h hc ha a1 hN a2 a3 a4 (LW.out h))
end
class C3 where
 s:Value
 r:Value
 hs:s= .nilIface\/ ∃te pe,s= .iface te pe
 hr:r= .nilIface\/ ∃te pe,r= .iface te pe
def CallG.sub{gs T:aw}{P:Program}{f:FuncId}{args:List AV}{bx bx':List (Nat×A5)}{ad:List (Nat×C9)}{ar:AV}(hs: ∀p∈T,p∈gs)(h:CallG T P f args bx bx' ad ar):CallG gs P f args bx bx' ad ar:=
 fun E w us h1 h2 h3=>h E w us h1 h2 (h3.sub hs)
def A6.tup2{E:B9}{w:World}{x y:IV}{u v:Value}(h:C8 E.φ w x u)(k:C8 E.φ w y v):A6 E w (.tup [.iv x,.iv y]) (.tuple #[u,v]):=by
 refine .tup (us:= [u,v]) U (fun i c z hc T=> ?_)
 match i with
 |0=>simp at hc T;subst hc;subst T;exact .iv h
 |1=>simp at hc T;subst hc;subst T;exact .iv k
 |i+2=>simp at hc
def Glob.one{gs:aw}{E:B9}{w:World}{g:Nat}{v:Value}(h:Glob gs E w)(hm:(g,[IV.im v])∈gs):w.cell? ⟨g,0,none⟩=some v:=by
 obtain⟨_,u,h1,h2⟩:=h.2 g _ hm 0 _ U;rw[h1,h2.im_eq]
def Lt(π:Nat->Nat)(fr:List (Nat×AV)):List (Nat×AV):=fr.map (fun p=>(p.1,p.2.ren π))
def Inv.ren{c:C7}{E:B9}{st:St}{a:Act}{w:World}(π T:Nat->Nat)(ar: ∀n,T (π n)=n)(ad: ∀n,π (T n)=n)(hf: ∀id∈c.ins,π id=id)(hi:Inv c E st a w):
 Inv c ⟨E.φ,fun i=>E.ρ (T i),fun i=>E.η (T i)⟩ ⟨Lt π st.fr,eK π st.bx,wm π st.tk⟩ a w:=by
 have hE:(B9.of π ⟨E.φ,fun i=>E.ρ (T i),fun i=>E.η (T i)⟩)=E:=by simp[B9.of,ar]
 have a2: ∀id∈c.ins,T id=id:=fun id h=>by have:=ar id;rwa [hf id h] at this
 have aR: ∀(i:Nat) (b:A5),(eK π st.bx).lookup i=some b-> ∃b0,st.bx.lookup (T i)=some b0/\b0.ren π=b:=fun i b hb=>by
  unfold eK at hb;rw[lF ar ad (A5.ren π),Option.map_eq_some_iff] at hb;exact hb
 have a0: ∀(i:Nat) (t:C9),(wm π st.tk).lookup i=some t->st.tk.lookup (T i)=some t:=fun i t ht=>by
  unfold wm at ht;have:=lF ar ad (fun t:C9=>t) st.tk i;rw[this] at ht;simpa using ht
 have ho:=hi.heap;refine⟨hi.defers,hi.size,fun s v hv=> ?_,fun i b hb hn=> ?_,fun i t ht=>ho.tok (T i) t (a0 i t ht),fun i j b b' h1 h2 hn a3 he=> ?_,fun i j t t' g h1 h2 h3 h4=> ?_,fun i j b t h1 hn hj=> ?_,fun i b hb hn=> ?_,fun j t g hj hg=>ho.ownt (T j) t g (a0 j t hj) hg,ho.new,ho.old,fun i a1=> ?_,ho.kept⟩
 · have hl:(Lt π st.fr).lookup s=(st.fr.lookup s).map (AV.ren π):=vb (AV.ren π) st.fr s;rw[hl,Option.map_eq_some_iff] at hv;obtain⟨v0,h0,rfl⟩:=hv;exact A6.doren v0 (by rw[hE];exact hi.slot s v0 h0)
 · obtain⟨b0,h0,rfl⟩:=aR i b hb;have:=BoxOk.doren (π:=π) (E:=⟨E.φ,fun i=>E.ρ (T i),fun i=>E.η (T i)⟩) (by rw[hE];exact ho.box (T i) b0 h0 (A5.ren_ne.1 hn));rw[ad] at this;exact this
 · obtain⟨b0,h0,rfl⟩:=aR i b h1;obtain⟨b1,h3,rfl⟩:=aR j b' h2;have:=ho.bb (T i) (T j) b0 b1 h0 h3 (A5.ren_ne.1 hn) (A5.ren_ne.1 a3) he;rw[<-ad i,this,ad]
 · have:=ho.tt (T i) (T j) t t' g (a0 i t h1) (a0 j t' h2) h3 h4;rw[<-ad i,this,ad]
 · obtain⟨b0,h0,rfl⟩:=aR i b h1;exact ho.bt (T i) (T j) b0 t h0 (A5.ren_ne.1 hn) (a0 j t hj)
 · obtain⟨b0,h0,rfl⟩:=aR i b hb;exact ho.own (T i) b0 h0 (A5.ren_ne.1 hn)
 · obtain⟨e1,e2,e3⟩:=ho.ins i a1;refine⟨by simpa[a2 i a1] using e1,by simpa[a2 i a1] using e2,?_⟩;obtain⟨b,hb⟩:=Option.isSome_iff_exists.1 e3;show(List.lookup i (eK π st.bx)).isSome=true;unfold eK;rw[show i=π i from(hf i a1).symm,kT ar (A5.ren π),hb];rfl
def gK(l:List (Nat×Nat)){c:C7}{st:St}{f':List (Nat×AV)}{b':List (Nat×A5)}{t':List (Nat×C9)}{X:Act->World->Prop}(hf:c.ins.all (fun id=>sws l id==id)=true)(h1:Lt (sws l) st.fr=f')(h2:eK (sws l) st.bx=b')(h3:wm (sws l) st.tk=t')(h:L c ⟨f',b',t'⟩ X):L c st X:=by
 rintro a w ⟨E,hi⟩;subst h1;subst h2;subst h3;exact h a w ⟨_,hi.ren (sws l) (Fa l) (mo l) (qx l) (fun id T=>by simpa using aT hf id T)⟩
section
variable {P:Program}{c:C7}{st:St}{ops:Array Oper}{Q:Exit->Act->World->Prop}{rest:List Oper}{o:Oper}
def IZ(N:List Nat){gs:aw}{f:FuncId}{args:Array Operand}{aR:Array TypeId}{avs:List AV}{bxi T:List (Nat×A5)}{ad:AV}{d:Nat}(hg:o.guard=none)(hd:o.dst=some d)(a0:Nat.ble (d+1) c.nt=true)(hG:Glob gs c.E0 c.w0)
 (ho:o.op= .call {callee:= .value (.func f),args:=args,argTypes:=aR}) (a1:dP P f=true) (hc:CallG gs P f avs bxi T [] ad) (ha:Subs (args.toList.map st.ev) avs)
 (a2:E3 st.bx bxi) (hN:N.all (fun id=>st.fresh id)=true) (a3:dV N bxi T=true) (a4:T.all (fun p=>AV.mentsIn (N++keys bxi) p.2.cs)=true) (a5:AV.mentIn (N++keys bxi) ad=true)
 (h:L c ⟨(d,ad)::st.fr,T++st.bx,st.tk⟩ (wpList P ops Q rest)):L c st (wpList P ops Q (o::rest)):=
 mY N hg hd a0 hG (fun E a w hi=>by
  refine⟨args.toList.map a.eval,?_,(hi.evs args).sub ha⟩;have ar:(args.toList.map a.eval).toArray=args.map a.eval:=by apply Array.ext';simp
  rw[ar];simp[execOp,ho,resolve,Act.eval,Deferred.ofValue,invoke,eJ a1]) hc a2 hN a3 U a4 a5 h
def ac(N:List Nat){fr:List (Nat×AV)}{bx:List (Nat×A5)}{tk:List (Nat×C9)}{d:Nat}{ty:TypeId}{pos:String}{aft:Array Edge}{gs:aw}{f:FuncId}{args:Array Operand}{ar:Array TypeId}{avs:List AV}{bxi T:List (Nat×A5)}{ad:AV}(aR:Nat.ble (d+1) c.nt=true)(hG:Glob gs c.E0 c.w0)[a0:A0 P f]
 (hc:CallG gs P f avs bxi T [] ad) (ha:Subs (args.toList.map (St.ev ⟨fr,bx,tk⟩)) avs) (a1:E3 bx bxi) (hN:N.all (fun id=>St.fresh id ⟨fr,bx,tk⟩)=true) (a2:dV N bxi T=true) (a3:T.all (fun p=>AV.mentsIn (N++keys bxi) p.2.cs)=true) (a4:AV.mentIn (N++keys bxi) ad=true)
 (h:LW P c ⟨(d,ad)::fr,T++bx,tk⟩ ops Q rest):
 LW P c ⟨fr,bx,tk⟩ ops Q (⟨some d,.call {callee:= .value (.func f),args:=args,argTypes:=ar},ty,pos,aft,none⟩::rest):=
 .mk (IZ N (st:=⟨fr,bx,tk⟩) U U aR hG U a0.h hc ha a1 hN a2 a3 a4 (LW.out h))
def KQ{gs:aw}(R:AV->Prop){f:FuncId}{args:Array Operand}{a3:Array TypeId}{Nh:List AV}{d:Nat}(hg:o.guard=none)(hd:o.dst=some d)(a4:Nat.ble (d+1) c.nt=true)(hG:Glob gs c.E0 c.w0)
 (ho:o.op= .call {callee:= .value (.func f),args:=args,argTypes:=a3}) (a5:dP P f=true)
 (hc: ∀(E:B9) (w:World) (us:List Value),RelL E w Nh us->Glob gs E w->Calls P f us.toArray w fun e w'=> ∃T u,R T/\e= .returned u/\A6 E w' T u/\Below w.heap.size w w') (ha:Subs (args.toList.map st.ev) Nh)
 (a6: ∀T,R T->AV.mentIn [] T=true) (h: ∀T,R T->L c ⟨(d,T)::st.fr,st.bx,st.tk⟩ (wpList P ops Q rest)):L c st (wpList P ops Q (o::rest)):=by
 rintro a w ⟨E,hi⟩;refine wpList_plain hg (fun K hK=> ?_);have a1:=(hi.evs args).sub ha;have ar:(args.toList.map a.eval).toArray=args.map a.eval:=by apply Array.ext';simp
 have a2:(execOp a.eval o).run P w= .ok (.enter f (args.toList.map a.eval).toArray) w:=by
  rw[ar];simp[execOp,ho,resolve,Deferred.ofValue,Act.eval,invoke,eJ a5]
 unfold Oper.wp;rw[a2,Oper.upon_enter];refine(hc E w _ a1 (hG.keep hi)).mono fun e w' ⟨T,u,hR,he,hu,hb⟩=> ?_
 subst he;have hk:D1 (C7.M ⟨0,w,E,[]⟩) w w':=nE hb;have hh:C4 ⟨0,w,E,[]⟩ E [] [] w':=⟨fun id b h=>by simp at h,fun id t h=>by simp at h,fun i j b b' h=>by simp at h,fun i j t t' g h=>by simp at h,fun i j b t h=>by simp at h,fun i b h=>by simp at h,fun i t g h=>by simp at h,
  fun b a7=>hi.heap.new b (Nat.le_trans hb.size a7),fun b _=>rfl,fun id h=>by simp at h,hk⟩
 obtain⟨hj,aR,a0⟩:=hi.heap.join hh (bxi:= []) (N:= []) (fun id ad=>by cases ad) (fun id ad=>by simp[keys] at ad)
  (fun id ad=>by simp[keys] at ad) (fun id ad=>by simp[keys] at ad) (fun id b hb=>by simp at hb)
 refine hK _ _ ?_;rw[hd];exact h T hR _ _ ⟨_,Inv.put (st:=⟨st.fr,[] ++st.bx,[] ++st.tk⟩) ⟨hi.defers,hi.size,fun s v hv=>a0 v _ (fun id ad=>by cases ad) (hi.slot s v hv),hj⟩ (bT a4) (aR T u (a6 T hR) hu)⟩
def Jp{gs:aw}(R:AV->Prop){fr:List (Nat×AV)}{bx:List (Nat×A5)}{tk:List (Nat×C9)}{d:Nat}{ty:TypeId}{pos:String}{aft:Array Edge}{f:FuncId}{args:Array Operand}{ad:Array TypeId}{Nh:List AV}(ar:Nat.ble (d+1) c.nt=true)(hG:Glob gs c.E0 c.w0)[aR:A0 P f]
 (hc: ∀(E:B9) (w:World) (us:List Value),RelL E w Nh us->Glob gs E w->Calls P f us.toArray w fun e w'=> ∃T u,R T/\e= .returned u/\A6 E w' T u/\Below w.heap.size w w') (ha:AV.pub.pubs (args.toList.map (St.ev ⟨fr,bx,tk⟩))=Nh)
 (a0: ∀T,R T->AV.mentIn [] T=true) (h: ∀T,R T->LW P c ⟨(d,T)::fr,bx,tk⟩ ops Q rest):
 LW P c ⟨fr,bx,tk⟩ ops Q (⟨some d,.call {callee:= .value (.func f),args:=args,argTypes:=ad},ty,pos,aft,none⟩::rest):=
 .mk (KQ R (st:=⟨fr,bx,tk⟩) U U ar hG U aR.h hc (.of_pub ha) a0 (fun T hR=>LW.out (h T hR)))
class H6 (P:Program) (t:TypeId):Prop where
 h:P.underlying t=some (.interface (P.methodsAt t))
def yt{fr:List (Nat×AV)}{bx:List (Nat×A5)}{tk:List (Nat×C9)}{d:Nat}{ty:TypeId}{pos:String}{aft:Array Edge}{x:Operand}{t t':TypeId}(T:St.ev ⟨fr,bx,tk⟩ x= .iv (.im .nilIface))[ht:H6 P t]:VV P c ⟨fr,bx,tk⟩ ⟨some d,.binOp .neq t x (.const .nilIface) t',ty,pos,aft,none⟩ (aB false) []:=
 .mk fun st' kE kL=> .im U fun E a w hi=>by
   have h:=hi.im ((kE x oO).trans T);simp[execOp,h,show a.eval (.const .nilIface)= .nilIface from rfl,eqGuard,run_neq_nil_nil w t ht.h]
def Jf{fr:List (Nat×AV)}{bx:List (Nat×A5)}{tk:List (Nat×C9)}{d:Nat}{ty:TypeId}{pos:String}{aft:Array Edge}{x:Operand}{t t' te:TypeId}{pe:Value}(T:St.ev ⟨fr,bx,tk⟩ x= .iv (.im (.iface te pe)))[ht:H6 P t]:VV P c ⟨fr,bx,tk⟩ ⟨some d,.binOp .neq t x (.const .nilIface) t',ty,pos,aft,none⟩ (aB true) []:=
 .mk fun st' kE kL=> .im U fun E a w hi=>by
   have h:=hi.im ((kE x oO).trans T);simp[execOp,h,show a.eval (.const .nilIface)= .nilIface from rfl,eqGuard,run_neq_held_nil w t te pe ht.h]
end
end Go.Abs
namespace Go.Abs
open Go.RowKit (Below)
open Go.ChangeShapes Go.WideShapes
section
variable {H:Type}{enc:TypeId×Value->H}{P:Program}{w:World}
def FV{E:B9}{w:World}{xs:List IV}{us:List Value}(h:Reps E.φ w xs us):RelL E w (xs.map .iv) us:=
 ⟨by simp[h.1],fun i c u hc hu=>by
   simp only[gP,Option.map_eq_some_iff] at hc;obtain⟨x,T,rfl⟩:=hc;exact .iv (h.2 i x u T hu)⟩
def AI{f:DataW H->Nat}(hf:G3 f){T:Book}(hT:T.ok P=true){r:Reach}{b0:Nat}{t:TypeId}{fs:Array Field}{cts:List CT}(hu:P.underlying t=some (.struct fs))(aR:tE P 9 t=some cts)(a0:cts.all T.has=true)
 {v:Value} {d:DataW H} {ps:List MemPlace} (ar:Value.okWide P w r b0 t v) (hd:DataW.Trod enc P w 0 (fun _=>true) true t v d ps) (hw:Jc P t d):
 ∃xs:List IV,Fits T cts xs/\A6 (mb (fL w)) w (.agg (xs.map .iv)) v/\yC xs<=f d:=by
 obtain⟨us,rfl,hs⟩:=okWide_struct hu ar;obtain⟨fuel,hd⟩:=hd;obtain⟨xs,h1,h2,h3⟩:=uQ hf hT fuel 9 t _ _ cts hd aR a0 hw;have ad:Reps (fL w) w xs us.toList:=by simpa[Value.cells] using h2
 refine⟨xs,h1,?_,h3⟩;have:=RelL.agg (E:=mb (fL w)) (FV ad) (fun u a1=>by
  obtain⟨i,hi,rfl⟩:=List.getElem_of_mem a1;have hx:xs[i]?=some (xs[i]'(by rw[ad.1];exact hi)):=gG _;exact(ad.2 i _ _ hx (gG hi)).oneCell)
 simpa using this
def uP{f:DataW H->Nat}(hf:G3 f){T:Book}(hT:T.ok P=true){t:TypeId}{c:CT}(ar:tE P 9 t=some [c])(aR:T.has c=true)
 {v:Value} {d:DataW H} {ps:List MemPlace} (ad:v.cells= #[v]) (hd:DataW.Trod enc P w 0 (fun _=>true) true t v d ps) (hw:Jc P t d):
 ∃x:IV,F0 T c x/\A6 (mb (fL w)) w (.iv x) v/\x.sz<=f d:=by
 obtain⟨fuel,hd⟩:=hd;obtain⟨xs,h1,h2,h3⟩:=uQ hf hT fuel 9 t _ _ [c] hd ar (by simp[aR]) hw;obtain⟨x,rfl⟩: ∃x,xs= [x]:=List.length_eq_one_iff.1 h1.1;rw[ad] at h2;exact⟨x,h1.2 0 c x U U,.iv (h2.2 0 x v U U),by simpa[yC] using h3⟩
def kQ{f:DataW H->Nat}(hf:G3 f){T:Book}(hT:T.ok P=true){r:Reach}{b0:Nat}{t e:TypeId}(hu:P.underlying t=some (.slice e))(ar:tE P 9 t=some [.sl e])(aR:T.has (.sl e)=true)
 {v:Value} {d:DataW H} {ps:List MemPlace} (ad:Value.okWide P w r b0 t v) (hd:DataW.Trod enc P w 0 (fun _=>true) true t v d ps) (hw:Jc P t d):
 ∃x:IV,F0 T (.sl e) x/\A6 (mb (fL w)) w (.iv x) v/\x.sz<=f d:=by
 obtain⟨a,len,cap,rfl⟩:=okWide_slice hu ad;exact uP hf hT ar aR U hd hw
def Hv{f:DataW H->Nat}(hf:G3 f){T:Book}(hT:T.ok P=true){r:Reach}{b0:Nat}{t:TypeId}(hu:P.underlying t=some .string)(ar:tE P 9 t=some [.str])
 {v:Value} {d:DataW H} {ps:List MemPlace} (ad:Value.okWide P w r b0 t v) (hd:DataW.Trod enc P w 0 (fun _=>true) true t v d ps) (hw:Jc P t d):
 ∃x:IV,F0 T .str x/\A6 (mb (fL w)) w (.iv x) v/\x.sz<=f d:=by
 obtain⟨s,rfl⟩:=okWide_string hu ad;exact uP hf hT ar U U hd hw
def Hw{f:DataW H->Nat}(hf:G3 f){T:Book}(hT:T.ok P=true){r:Reach}{b0:Nat}{t:TypeId}{k:IntKind}(hu:P.underlying t=some (.int k))(ar:tE P 9 t=some [.int k])
 {v:Value} {d:DataW H} {ps:List MemPlace} (ad:Value.okWide P w r b0 t v) (hd:DataW.Trod enc P w 0 (fun _=>true) true t v d ps) (hw:Jc P t d):
 ∃x:IV,F0 T (.int k) x/\A6 (mb (fL w)) w (.iv x) v/\x.sz<=f d:=by
 obtain⟨s,rfl⟩:=okWide_int hu ad;exact uP hf hT ar U U hd hw
def eS(hl:laidOutB P=true){W W':World}(hb:Below W.heap.size W W'): ∀{ts:List TypeId} {vs:List Value} {T:List (DataW H)} {ps:List MemPlace},
 ts.all (fun t=>P.readableRec t && decide (t<P.types.size))=true->DataW.TrodAll enc P W 0 (fun _=>true) true ts vs T ps->DataW.TrodAll enc P W' 0 (fun b=>decide (b<W.heap.size)) true ts vs T ps
 | [],[],[],_,_,h=>h
 | [],[],_::_,_,_,h=>h.elim
 | [],_::_,_,_,_,h=>h.elim
 |t::ts,[],_,_,_,h=>h.elim
 |t::ts,v::vs,[],_,_,h=>h.elim
 |t::ts,v::vs,d::T,ps,ht,h=>by
  simp only[List.all_cons,aE,decide_eq_true_eq] at ht;obtain⟨p,q,h1,h2,rfl⟩:=h;have lt: ∀x∈p,x.block<W.heap.size:=by obtain⟨m,hm⟩:=h1;exact DataW.trod_lt m _ _ _ hm
  exact⟨p,q,Below.trod hl ht.1.1 ht.1.2 h1 hb lt,eS hl hb ht.2 h2,rfl⟩
end
def F0.str_inv{T:Book}{x:IV}(h:F0 T .str x): ∃s:List UInt8,x=S s/\s.length<=reachBytes:=by
 cases h with
 | @str s hs=>
   have e:s.data.toList.length=s.size:=Array.length_toList;exact⟨s.data.toList,by simp,by rw[e];exact hs⟩
def F0.int_inv{T:Book}{x:IV}(h:F0 T (.int .i64) x): ∃n:Int,x=I n/\ -9223372036854775808<=n/\n<=9223372036854775807:=by
 cases h with
 |int hw=>exact⟨_,rfl,Go.bounds_i64 hw⟩
def F0.sl_inv{T:Book}{e:TypeId}{n:Nat}{cts:List CT}{x:IV}(hl:T.lookup e=some (n,cts))(h:F0 T (.sl e) x): ∃es:List (List IV),x= .sl es/\es.length*n<=reachBytes/\ ∀e'∈es,Fits T cts e':=by
 cases h with
 | @sl e es n' ar hm ad h1 h=>
   have:=Option.some.inj (ad.symm.trans hl);cases this;refine⟨es,rfl,hm,fun e' he=> ?_⟩;obtain⟨j,hj,rfl⟩:=List.getElem_of_mem he;exact⟨h1 j _ (gG hj),fun i c y hc hy=>h j _ i c y (gG hj) hc hy⟩
def HL{α:Type}{f:α->List IV}{Q:List IV->α->Prop}: ∀{es:List (List IV)},(∀e∈es,∃a,e=f a/\Q e a)-> ∃l:List α,es=l.map f/\ ∀a∈l,Q (f a) a
 | [],_=>⟨[],rfl,fun a h=>by cases h⟩
 |e::es,h=>by
  obtain⟨a,h1,h2⟩:=h e sP;obtain⟨l,h3,h4⟩:=HL (es:=es) (fun e he=>h e (by simp[he]));subst h1;exact⟨a::l,by simp[h3],fun b T=>by
   rcases List.mem_cons.1 T with rfl|T
   · exact h2
   · exact h4 b T⟩
def Fits.cons_inv{T:Book}{c:CT}{cts:List CT}{xs:List IV}(h:Fits T (c::cts) xs): ∃y ys,xs=y::ys/\F0 T c y/\Fits T cts ys:=by
 cases xs with
 |nil=>exact absurd h.1 sP
 |cons y ys=>exact⟨y,ys,rfl,h.2 0 c y U U,by simpa using h.1,fun i c' y' h1 h2=>h.2 (i+1) c' y' (by simpa using h1) (by simpa using h2)⟩
def Fits.nil_inv{T:Book}{xs:List IV}(h:Fits T [] xs):xs= []:=nZ h.1
end Go.Abs
namespace Go.Abs
section
variable {β:Type}
def Ae(l:List β)(a b k:Nat):List β:=l.take a++(l.drop b).take k++(l.drop (a+k)).take (b - (a+k))++(l.drop a).take k++l.drop (b+k)
def oU{l:List β}{a b k:Nat}(h1:a+k<=b)(h2:b+k<=l.length):(Ae l a b k).length=l.length:=by
 simp only[Ae,gV,lT,lD];omega
def lu{l:List β}{a b k:Nat}(h1:a+k<=b)(h2:b+k<=l.length)(j:Nat):(Ae l a b k)[j]?=l[if a<=j/\j<a+k then j+(b - a) else if b<=j/\j<b+k then j - (b - a) else j]?:=by
 have T:(l.take a).length=a:=by simp;omega
 have e2:((l.drop b).take k).length=k:=by simp;omega
 have e3:((l.drop (a+k)).take (b - (a+k))).length=b - (a+k):=by simp;omega
 have e4:((l.drop a).take k).length=k:=by simp;omega
 simp only[Ae,List.getElem?_append,gV,T,e2,e3,e4,List.getElem?_take,List.getElem?_drop];repeat' split
 all_goals first|rfl|(congr 1;omega)|(exfalso;omega)
def GS{l:List β}{a b:Nat}(h1:a<=b)(h2:b<=l.length):Ae l a b 0=l:=List.ext_getElem? fun j=>by
 rw[lu C C,if_neg C,if_neg C]
def GT{l:List β}{a b k:Nat}(h1:a+k+1<=b)(h2:b+k+1<=l.length){x y:β}(hx:l[a+k]?=some x)(hy:l[b+k]?=some y):((Ae l a b k).set (a+k) y).set (b+k) x=Ae l a b (k+1):=List.ext_getElem? fun j=>by
 have hl:=oU (l:=l) (a:=a) (b:=b) (k:=k) C C;rw[lu C C,List.getElem?_set,List.getElem?_set,lu C C];simp only[List.length_set,hl];by_cases T:b+k=j
 · subst T;rw[if_pos U,if_pos C,if_neg C,if_pos C,<-hx];congr 1;omega
 rw[if_neg T];by_cases e2:a+k=j
 · subst e2;rw[if_pos U,if_pos C,if_pos C,<-hy];congr 1;omega
 rw[if_neg e2];repeat' split
 all_goals first|rfl|(congr 1;omega)|(exfalso;omega)
def dX(l:List β)(a m b:Nat):List β:=l.take a++(l.drop m).take (b - m)++(l.drop a).take (m - a)++l.drop b
def kI{l:List β}{a m b:Nat}(h1:a<=m)(h2:m<=b)(h3:b<=l.length):(dX l a m b).length=l.length:=by
 simp only[dX,gV,lT,lD];omega
def cz{l:List β}{a m b:Nat}(h1:a<=m)(h2:m<=b)(h3:b<=l.length)(j:Nat):(dX l a m b)[j]?=l[if a<=j/\j<a+(b - m) then j+(m - a) else if a+(b - m)<=j/\j<b then j - (b - m) else j]?:=by
 have T:(l.take a).length=a:=by simp;omega
 have e2:((l.drop m).take (b - m)).length=b - m:=by simp;omega
 have e3:((l.drop a).take (m - a)).length=m - a:=by simp;omega
 simp only[dX,List.getElem?_append,gV,T,e2,e3,List.getElem?_take,List.getElem?_drop];repeat' split
 all_goals first|rfl|(congr 1;omega)|(exfalso;omega)
def Lq{l:List β}{m i j:Nat}(h1:j<i)(h2:i<=m)(h3:m+j<=l.length):dX (Ae l (m - i) m j) (m - (i - j)) m (m+j)=dX l (m - i) m (m+j):=List.ext_getElem? fun t=>by
 have hl:=oU (l:=l) (a:=m - i) (b:=m) (k:=j) C C;rw[cz C C C,cz C C C,lu C C];repeat' split
 all_goals first|rfl|(congr 1;omega)|(exfalso;omega)
def Lp{l:List β}{m i j:Nat}(h1:i<j)(h2:i<=m)(h3:m+j<=l.length):dX (Ae l (m - i) (m+j - i) i) (m - i) m (m+(j - i))=dX l (m - i) m (m+j):=List.ext_getElem? fun t=>by
 have hl:=oU (l:=l) (a:=m - i) (b:=m+j - i) (k:=i) C C;rw[cz C C C,cz C C C,lu C C];repeat' split
 all_goals first|rfl|(congr 1;omega)|(exfalso;omega)
def Lr{l:List β}{m i:Nat}(h2:i<=m)(h3:m+i<=l.length):Ae l (m - i) m i=dX l (m - i) m (m+i):=List.ext_getElem? fun t=>by
 rw[cz C C C,lu C C];repeat' split
 all_goals first|rfl|(congr 1;omega)|(exfalso;omega)
def iM(l:List β)(a b:Nat):List β:=(l.drop a).take (b - a)
def yH{l:List β}{a b:Nat}(h:b<=l.length):(iM l a b).length=b - a:=by simp[iM];omega
def jk{l:List β}{a b:Nat}(j:Nat):(iM l a b)[j]?=if j<b - a then l[a+j]? else none:=by
 simp only[iM,List.getElem?_take,List.getElem?_drop]
def eT{l:List β}{a m b:Nat}(h1:a<=m)(h2:m<=b)(h3:m<=l.length):iM l a b=iM l a m++iM l m b:=List.ext_getElem? fun j=>by
 have T:((l.drop a).take (m - a)).length=m - a:=by simp;omega
 simp only[iM,List.getElem?_append,T,List.getElem?_take,List.getElem?_drop];repeat' split
 all_goals first|rfl|(congr 1;omega)|(exfalso;omega)
def nc(l:List β):iM l 0 l.length=l:=by simp[iM]
def tN{l:List β}{a b:Nat}(h1:a<=b):l.take a++iM l a b++l.drop b=l:=by
 have:iM l a b=(l.take b).drop a:=by simp[iM,List.drop_take]
 rw[this];have e:l.take a=(l.take b).take a:=by rw[List.take_take];congr 1;omega
 rw[e,List.take_append_drop,List.take_append_drop]
def bK(le:β->β->Bool)(l:List β)(a b:Nat):List β:=l.take a++(iM l a b).mergeSort le++l.drop b
def mq{le:β->β->Bool}{l:List β}{a b:Nat}(h1:a<=b)(h2:b<=l.length):(bK le l a b).length=l.length:=by
 simp only[bK,gV,List.length_mergeSort,yH h2,lT,lD];omega
structure E4 (le:β->β->Bool) (l:List β):Prop where
 tr: ∀a b c,le a b=true->le b c=true->le a c=true
 tot: ∀a b,(le a b||le b a)=true
 anti: ∀a∈l,∀b∈l,le a b=true->le b a=true->a=b
def Aj{le:β->β->Bool}{l l':List β}{a b:Nat}(T:E4 le l)(h1:a<=b)(ht:l'.take a=l.take a)(hd:l'.drop b=l.drop b)(hp:(iM l' a b).Perm (iM l a b))(hs:(iM l' a b).Pairwise (fun x y=>le x y=true)):l'=bK le l a b:=by
 have hm: ∀x∈iM l a b,x∈l:=fun x hx=>mD (mT hx)
 have e:iM l' a b=(iM l a b).mergeSort le:=List.Perm.eq_of_pairwise (le:=fun x y=>le x y=true) (fun x y hx hy h h'=>T.anti x (hm x (hp.subset hx)) y (hm y ((List.mergeSort_perm _ le).subset hy)) h h') hs (List.pairwise_mergeSort T.tr T.tot _) (hp.trans (List.mergeSort_perm _ le).symm);rw[bK,<-e,<-ht,<-hd,tN h1]
end
section
variable {β:Type}
def nl(l:List β)(i j:Nat):List β:=dX l j i (i+1)
section
variable {a b e i j s:Nat}
def uZ{l:List β}(h1:j<=i)(h2:i<l.length):(nl l i j).length=l.length:=kI h1 C C
def ir{l:List β}(h1:j<=i)(h2:i<l.length)(t:Nat):(nl l i j)[t]?=l[if t=j then i else if j<t/\t<=i then t - 1 else t]?:=by
 rw[nl,cz h1 C C];repeat' split
 all_goals first|rfl|(exfalso;omega)|(congr 1;omega)
def xA{l:List β}(h2:i<l.length):nl l i i=l:=List.ext_getElem? fun t=>by
 rw[ir nR h2];repeat' split
 all_goals first|rfl|(exfalso;omega)|(congr 1;omega)
def xz{l:List β}(h1:j+1<=i)(h2:i<l.length){x y:β}(hx:l[i]?=some x)(hy:l[j]?=some y):((nl l i (j+1)).set (j+1) y).set j x=nl l i j:=List.ext_getElem? fun t=>by
 have hl:=uZ (l:=l) (i:=i) (j:=j+1) h1 h2;rw[ir C h2,List.getElem?_set,List.getElem?_set,ir h1 h2];simp only[List.length_set,hl];by_cases T:j=t
 · subst T;rw[if_pos U,if_pos C,if_pos U,hx]
 rw[if_neg T];by_cases e2:j+1=t
 · subst e2;rw[if_pos U,if_pos C,if_neg C,if_pos C,<-hy];congr 1
 rw[if_neg e2];repeat' split
 all_goals first|rfl|(exfalso;omega)|(congr 1;omega)
def Js{l:List β}{k:Nat}(h1:i<=k)(h2:k+1<l.length){x y:β}(hx:l[i]?=some x)(hy:l[k+1]?=some y):((dX l i (i+1) (k+1)).set k y).set (k+1) x=dX l i (i+1) (k+2):=List.ext_getElem? fun t=>by
 have hl:=kI (l:=l) (a:=i) (m:=i+1) (b:=k+1) C C C;rw[cz C C C,List.getElem?_set,List.getElem?_set,cz C C C];simp only[List.length_set,hl];by_cases T:k+1=t
 · subst T;rw[if_pos U,if_pos C,if_neg C,if_pos C,<-hx];congr 1;omega
 rw[if_neg T];by_cases e2:k=t
 · subst e2;rw[if_pos U,if_pos C,if_pos C,<-hy];congr 1;omega
 rw[if_neg e2];repeat' split
 all_goals first|rfl|(exfalso;omega)|(congr 1;omega)
def ei(le:β->β->Bool)(l:List β)(a b:Nat):Prop:= ∀p q x y,a<=p->p<q->q<b->l[p]?=some x->l[q]?=some y->le x y=true
def GY{le:β->β->Bool}{l:List β}(h:ei le l a b):(iM l a b).Pairwise (fun x y=>le x y=true):=by
 rw[List.pairwise_iff_getElem];intro i j hi hj ad;have T:=jk (l:=l) (a:=a) (b:=b) i;have e2:=jk (l:=l) (a:=a) (b:=b) j;rw[gG hi] at T;rw[gG hj] at e2;split at T
 · split at e2
   · exact h (a+i) (a+j) _ _ C C C T.symm e2.symm
   · cases e2
 · cases T
def Jm{le:β->β->Bool}{l:List β}(h:(iM l a b).Pairwise (fun x y=>le x y=true)):ei le l a b:=fun p q x y h1 h2 h3 hx hy=>by
 have T:=jk (l:=l) (a:=a) (b:=b) (p - a);have e2:=jk (l:=l) (a:=a) (b:=b) (q - a);rw[if_pos C,show a+(p - a)=p by omega,hx] at T;rw[if_pos C,show a+(q - a)=q by omega,hy] at e2;obtain⟨i1,T⟩:=gS T;obtain⟨i2,e2⟩:=gS e2;have:=List.pairwise_iff_getElem.1 h (p - a) (q - a) i1 i2 C
 rwa [T,e2] at this
def oX{l l':List β}(h: ∀j,a<=j->j<b->l[j]?=l'[j]?):iM l a b=iM l' a b:=List.ext_getElem? fun j=>by
 rw[jk,jk];split
 · exact h _ C C
 · rfl
def Cp{l l':List β}(h: ∀j,j<a->l[j]?=l'[j]?):l.take a=l'.take a:=List.ext_getElem? fun j=>by
 rw[List.getElem?_take,List.getElem?_take];split
 · exact h j (by assumption)
 · rfl
def Dg{l l':List β}(h: ∀j,a<=j->l[j]?=l'[j]?):l.drop a=l'.drop a:=List.ext_getElem? fun j=>by
 rw[List.getElem?_drop,List.getElem?_drop];exact h _ C
def xc{l l':List β}{T b':Nat}(hl:b' - T=b - a)(h: ∀j,j<b - a->l'[T+j]?=l[a+j]?):iM l' T b'=iM l a b:=List.ext_getElem? fun j=>by
 rw[jk,jk,hl];split
 · exact h j (by assumption)
 · rfl
def uF{l:List β}{m:Nat}(h1:a<=s)(h2:s<=m)(h3:m<=e)(h4:e<=b)(h5:b<=l.length):(iM (dX l s m e) a b).Perm (iM l a b):=by
 have hl:=kI (l:=l) h2 h3 C;rw[eT (m:=s) h1 C C,eT (a:=s) (m:=s+(e - m)) C C C,eT (a:=s+(e - m)) (m:=e) C h4 C];rw[eT (l:=l) (m:=s) h1 C C,eT (l:=l) (a:=s) (m:=m) h2 C C,eT (l:=l) (a:=m) (m:=e) h3 h4 C];have k1:iM (dX l s m e) a s=iM l a s:=oX fun j T ad=>by rw[cz h2 h3 C,if_neg C,if_neg C]
 have k2:iM (dX l s m e) s (s+(e - m))=iM l m e:=xc C fun j hj=>by
  rw[cz h2 h3 C,if_pos C];congr 1;omega
 have k3:iM (dX l s m e) (s+(e - m)) e=iM l s m:=xc C fun j hj=>by
  rw[cz h2 h3 C,if_neg C,if_pos C];congr 1;omega
 have k4:iM (dX l s m e) e b=iM l e b:=oX fun j T ad=>by rw[cz h2 h3 C,if_neg C,if_neg C]
 rw[k1,k2,k3,k4];refine List.Perm.append_left _ ?_;rw[<-List.append_assoc,<-List.append_assoc];exact List.Perm.append_right _ List.perm_append_comm
def da{le:β->β->Bool}{l:List β}(h1:a<=b)(h2:b<=l.length)(j:Nat)(h:j<a\/b<=j):(bK le l a b)[j]?=l[j]?:=by
 have T:(l.take a).length=a:=by simp;omega
 have e2:((iM l a b).mergeSort le).length=b - a:=by rw[List.length_mergeSort,yH h2]
 simp only[bK,List.getElem?_append,gV,T,e2,List.getElem?_take,List.getElem?_drop];repeat' split
 all_goals first|rfl|(exfalso;omega)|(congr 1;omega)
def nP{le:β->β->Bool}{l:List β}(h1:a<=b)(h2:b<=l.length):iM (bK le l a b) a b=(iM l a b).mergeSort le:=by
 have T:(l.take a).length=a:=by simp;omega
 have e2:((iM l a b).mergeSort le).length=b - a:=by rw[List.length_mergeSort,yH h2]
 unfold bK iM;rw[List.append_assoc,List.drop_append,T,Nat.sub_self,List.drop_zero,dL C,List.nil_append,List.take_append];have e3:(((l.drop a).take (b - a)).mergeSort le).length=b - a:=e2;rw[e3,Nat.sub_self,List.take_zero,List.append_nil,tL C]
def ku{le:β->β->Bool}{l:List β}(T:E4 le l)(h1:a<=b)(h2:b<=l.length):ei le (bK le l a b) a b:=Jm (by rw[nP h1 h2];exact List.pairwise_mergeSort T.tr T.tot _)
def pV{le:β->β->Bool}{l:List β}(h1:a<=b)(h2:b<=a+1):bK le l a b=l:=by
 have:(iM l a b).length<=1:=by simp[iM];omega
 have e:(iM l a b).mergeSort le=iM l a b:=by
  match iM l a b,this with
  | [],_=>simp
  | [x],_=>simp
 rw[bK,e,tN h1]
def nQ{le:β->β->Bool}{l:List β}(h1:a<=b){x:β}:x∈bK le l a b↔x∈l:=by
 have e:=tN (l:=l) h1;constructor
 · intro h;rw[<-e];simp only[bK,List.mem_append,List.mem_mergeSort] at h|-;exact h
 · intro h;rw[<-e] at h;simp only[bK,List.mem_append,List.mem_mergeSort] at h|-;exact h
def pU{le:β->β->Bool}{l l':List β}(hL:E4 le l)(h1:a<=b)(ho: ∀j,j<a\/b<=j->l'[j]?=l[j]?)(hp:(iM l' a b).Perm (iM l a b))(hs:ei le l' a b):l'=bK le l a b:=
 Aj hL h1 (Cp fun j T=>ho j (.inl T)) (Dg fun j T=>ho j (.inr T)) hp (GY hs)
def rA{le:β->β->Bool}{l:List β}(h1:a<=s)(h2:s<=e)(h3:e<=b)(h4:b<=l.length):(iM (bK le l s e) a b).Perm (iM l a b):=by
 have hl:=mq (le:=le) (l:=l) h2 (by omega:e<=l.length);rw[eT (m:=s) h1 C C,eT (a:=s) (m:=e) h2 h3 C];rw[eT (l:=l) (m:=s) h1 C C,eT (l:=l) (a:=s) (m:=e) h2 h3 C];rw[nP h2 C,oX (l:=bK le l s e) (l':=l) (a:=a) (b:=s) (fun j T ad=>da h2 C j (.inl ad)),oX (l:=bK le l s e) (l':=l) (a:=e) (b:=b) (fun j T ad=>da h2 C j (.inr T))];exact List.Perm.append_left _ (List.Perm.append_right _ (List.mergeSort_perm _ _))
def E4.sub{le:β->β->Bool}{l l':List β}(h:E4 le l)(hs: ∀x,x∈l'->x∈l):E4 le l':=⟨h.tr,h.tot,fun x T y hy=>h.anti x (hs x T) y (hs y hy)⟩
def Fd{le:β->β->Bool}{l:List β}(hL:E4 le l)(h1:a<=s)(h2:s<=e)(h3:e<=b)(h4:b<=l.length)(h5:a<=b):bK le (bK le l s e) a b=bK le l a b:=by
 have hl:=mq (le:=le) (l:=l) h2 (by omega:e<=l.length);have T:E4 le (bK le l s e):=hL.sub (fun x hx=>(nQ h2).1 hx);refine pU hL h5 (fun j hj=> ?_) ?_ (ku T h5 C)
 · rw[da h5 C j hj,da h2 C j C]
 · rw[nP h5 C];exact(List.mergeSort_perm _ _).trans (rA h1 h2 h3 h4)
def zc{le:β->β->Bool}{l:List β}{x:β}(hL:E4 le l)(h1:a<=j)(h2:j<=i)(h3:i<l.length)(hs:ei le l a i)(hx:l[i]?=some x)(ad: ∀t y,a<=t->t<j->l[t]?=some y->le y x=true)(ar: ∀t y,j<=t->t<i->l[t]?=some y->le x y=true):nl l i j=bK le l a (i+1):=by
 refine pU hL C (fun t ht=>by rw[ir h2 h3,if_neg C,if_neg C]) (uF h1 h2 C nR C) ?_;intro p q y z hp aR hq hy T;rw[ir h2 h3] at hy T;by_cases p1:p<j
 · rw[if_neg C,if_neg C] at hy;by_cases q1:q<j
   · rw[if_neg C,if_neg C] at T;exact hs p q y z hp aR C hy T
   · by_cases q2:q=j
     · rw[if_pos q2,hx] at T;cases T;exact ad p y hp p1 hy
     · rw[if_neg q2,if_pos C] at T;exact hs p (q - 1) y z hp C C hy T
 · rw[if_neg (by omega: ¬q=j),if_pos C] at T;by_cases p2:p=j
   · rw[if_pos p2,hx] at hy;cases hy;exact ar (q - 1) z C C T
   · rw[if_neg p2,if_pos C] at hy;exact hs (p - 1) (q - 1) y z C C C hy T
end
end
section
variable {β:Type}
def yL{l:List β}{a m:Nat}(h1:a<=m)(h2:m<=l.length):dX l a m m=l:=List.ext_getElem? fun t=>by
 rw[cz h1 nR h2];repeat' split
 all_goals first|rfl|(exfalso;omega)|(congr 1;omega)
def Eh{l:List β}{m b:Nat}(h1:m<=b)(h2:b<=l.length):dX l m m b=l:=List.ext_getElem? fun t=>by
 rw[cz nR h1 h2];repeat' split
 all_goals first|rfl|(exfalso;omega)|(congr 1;omega)
def iW{le:β->β->Bool}{l l':List β}{a b:Nat}(h:ei le l a b)(e: ∀j,a<=j->j<b->l'[j]?=l[j]?):ei le l' a b:=fun p q x y h1 h2 h3 T hy=>by
 rw[e p h1 C] at T;rw[e q C h3] at hy;exact h p q x y h1 h2 h3 T hy
def tK{le:β->β->Bool}{l:List β}{a b:Nat}(T:E4 le l)(h1:a<=b)(hs:ei le l a b):bK le l a b=l:=(pU T h1 (fun j _=>rfl) (List.Perm.refl _) hs).symm
def wW{le:β->β->Bool}{l:List β}{a b p:Nat}{x:β}(h1:a<=b)(h2:b<=l.length)(ad:a<=p)(ar:p<b)(hx:(bK le l a b)[p]?=some x): ∃u,a<=u/\u<b/\l[u]?=some x:=by
 have e:=jk (l:=bK le l a b) (a:=a) (b:=b) (p - a);rw[if_pos C,show a+(p - a)=p by omega,hx,nP h1 h2] at e;have hm:x∈iM l a b:=List.mem_mergeSort.1 (gE e);obtain⟨j,T⟩:=List.getElem?_of_mem hm;rw[jk] at T;split at T
 · exact⟨a+j,by omega,by omega,T⟩
 · cases T
def Cx{le:β->β->Bool}{l l':List β}{a b:Nat}(hL:E4 le l)(h1:a<=b)(h2:b<=l.length)(T:b<=l'.length)(ho: ∀j,j<a\/b<=j->l'[j]?=l[j]?)(hp:(iM l' a b).Perm (iM l a b))(hm: ∀x,x∈l'->x∈l):bK le l' a b=bK le l a b:=
 pU hL h1 (fun j hj=>by rw[da h1 T j hj,ho j hj]) (by rw[nP h1 T];exact(List.mergeSort_perm _ _).trans hp) (ku (hL.sub hm) h1 T)
def qA{l:List β}{a m b:Nat}(h1:a<=m)(h2:m<=b)(h3:b<=l.length){x:β}(h:x∈dX l a m b):x∈l:=by
 obtain⟨j,T⟩:=List.getElem?_of_mem h;rw[cz h1 h2 h3] at T;exact gE T
def LI{le:β->β->Bool}{l:List β}{a c b:Nat}(hL:E4 le l)(h1:a<=c)(h2:c<=b)(h3:b<=l.length)(hc: ∀u v x y,a<=u->u<c->c<=v->v<b->l[u]?=some x->l[v]?=some y->le x y=true):bK le (bK le l a c) c b=bK le l a b:=by
 have hl:=mq (le:=le) (l:=l) h1 (by omega:c<=l.length);have ar:E4 le (bK le l a c):=hL.sub (fun x T=>(nQ h1).1 T);refine pU hL C (fun j hj=> ?_) ?_ ?_
 · rw[da h2 C j C,da h1 C j C]
 · exact(rA h1 h2 nR C).trans (rA nR h1 h2 h3)
 · intro p q x y hp ad hq T hy;by_cases q1:q<c
   · rw[da h2 C p C] at T;rw[da h2 C q C] at hy;exact ku hL h1 C p q x y hp ad q1 T hy
   · by_cases p1:c<=p
     · exact ku ar h2 C p q x y p1 ad hq T hy
     · rw[da h2 C p C] at T;obtain⟨u,u1,u2,hu⟩:=wW h1 C hp C T;obtain⟨v,v1,v2,hv⟩:=wW h2 C C hq hy;rw[da h1 C v C] at hv;exact hc u v x y u1 u2 v1 v2 hu hv
def HU{le:β->β->Bool}{l:List β}{a i b:Nat}{x:β}(hL:E4 le l)(h1:a+1<=i)(h2:i<=b)(h3:b<=l.length)(hs:ei le l (a+1) b)(hx:l[a]?=some x)(ad: ∀t y,a+1<=t->t<i->l[t]?=some y->le y x=true)(ar: ∀t y,i<=t->t<b->l[t]?=some y->le x y=true):dX l a (a+1) i=bK le l a b:=by
 refine pU hL C (fun t ht=>by rw[cz C h1 C,if_neg C,if_neg C]) (uF nR C h1 h2 h3) ?_;intro p q y z hp aR hq hy T;rw[cz C h1 C] at hy T;by_cases p1:p<i - 1
 · rw[if_pos C,show p+(a+1 - a)=p+1 by omega] at hy;by_cases q1:q<i - 1
   · rw[if_pos C,show q+(a+1 - a)=q+1 by omega] at T;exact hs (p+1) (q+1) y z C C C hy T
   · by_cases q2:q<i
     · rw[if_neg C,if_pos C,show q - (i - (a+1))=a by omega,hx] at T;cases T;exact ad (p+1) y C C hy
     · rw[if_neg C,if_neg C] at T;exact hs (p+1) q y z C C hq hy T
 · rw[if_neg (by omega: ¬(a<=q/\q<a+(i - (a+1)))),if_neg C] at T;by_cases p2:p<i
   · rw[if_neg C,if_pos C,show p - (i - (a+1))=a by omega,hx] at hy;cases hy;exact ar q z C hq T
   · rw[if_neg C,if_neg C] at hy;exact hs p q y z C aR hq hy T
def DU{le:β->β->Bool}{l:List β}{a s m e b c:Nat}(hL:E4 le l)(h1:a<=s)(h2:s<=m)(h3:m<=e)(h4:e<=b)(h5:b<=l.length)(aR:c=s+(e - m))(s1:ei le l a m)(s2:ei le l m b)
 (c1: ∀x y,a<s->e<b->l[s - 1]?=some x->l[e]?=some y->le x y=true) (c2: ∀x y,m<e->s<m->l[e - 1]?=some x->l[s]?=some y->le x y=true):
 bK le (bK le (dX l s m e) a c) c b=bK le l a b:=by
 subst aR;have hl:=kI (l:=l) h2 h3 C;have a0:E4 le (dX l s m e):=hL.sub (fun x hx=>qA h2 h3 C hx);rw[LI a0 C C C]
 · exact Cx hL C h5 C (fun j hj=>by rw[cz h2 h3 C,if_neg C,if_neg C]) (uF h1 h2 h3 h4 h5) (fun x hx=>qA h2 h3 C hx)
 intro u v x y ad a1 a2 ar hx hy;rw[cz h2 h3 C] at hx hy;have T: ∀{p q:Nat} {z w:β} {a b:Nat},ei le l a b->a<=p->p<=q->q<b->l[p]?=some z->l[q]?=some w->le z w=true:=by
  intro p q z w a b hs k1 k2 k3 hz hw;by_cases e:p=q
  · subst e;rw[hz] at hw;cases hw;have:=hL.tot z z;simpa using this
  · exact hs p q z w k1 C k3 hz hw
 by_cases u1:u<s
 · rw[if_neg C,if_neg C] at hx;by_cases v1:v<e
   · rw[if_neg C,if_pos C] at hy;exact s1 u (v - (e - m)) x y ad C C hx hy
   · rw[if_neg C,if_neg C] at hy;obtain⟨z,hz⟩: ∃z,l[s - 1]?=some z:=⟨_,gG C⟩
     obtain⟨w,hw⟩: ∃w,l[e]?=some w:=⟨_,gG C⟩
     have k1:=T s1 ad (by omega:u<=s - 1) C hx hz;have k2:=T s2 h3 (by omega:e<=v) ar hw hy;exact hL.tr _ _ _ (hL.tr _ _ _ k1 (c1 z w C C hz hw)) k2
 · rw[if_pos C] at hx;by_cases v1:v<e
   · rw[if_neg C,if_pos C] at hy;obtain⟨z,hz⟩: ∃z,l[e - 1]?=some z:=⟨_,gG C⟩
     obtain⟨w,hw⟩: ∃w,l[s]?=some w:=⟨_,gG C⟩
     have k1:=T s2 (by omega:m<=u+(m - s)) (by omega:u+(m - s)<=e - 1) C hx hz;have k2:=T s1 h1 (by omega:s<=v - (e - m)) C hw hy;exact hL.tr _ _ _ (hL.tr _ _ _ k1 (c2 z w C C hz hw)) k2
   · rw[if_neg C,if_neg C] at hy;exact s2 (u+(m - s)) v x y C C ar hx hy
def Ac{le:β->β->Bool}{l:List β}{a s m e b c:Nat}(h1:a<=s)(h2:s<=m)(h3:m<=e)(h4:e<=b)(h5:b<=l.length)(ad:c=s+(e - m))(s1:ei le l a m)(s2:ei le l m b):
 ei le (dX l s m e) a s/\ei le (dX l s m e) s c/\ei le (dX l s m e) c e/\ei le (dX l s m e) e b:=by
 subst ad;refine⟨fun p q x y k1 k2 k3 T hy=> ?_,fun p q x y k1 k2 k3 T hy=> ?_,fun p q x y k1 k2 k3 T hy=> ?_,fun p q x y k1 k2 k3 T hy=> ?_⟩<;>rw[cz h2 h3 C] at T hy
 · rw[if_neg C,if_neg C] at T hy;exact s1 p q x y k1 k2 C T hy
 · rw[if_pos C] at T hy;exact s2 _ _ x y C C C T hy
 · rw[if_neg C,if_pos C] at T hy;exact s1 _ _ x y C C C T hy
 · rw[if_neg C,if_neg C] at T hy;exact s2 p q x y C k2 k3 T hy
end
section
variable {β:Type}
inductive G1 (le:β->β->Bool) (l:List β) (k:Nat):Nat->Prop
 |z:G1 le l k 0
 |s {a:Nat} (h:G1 le l k a) (t:ei le l a (a+k)):G1 le l k (a+k)
inductive EZ (le:β->β->Bool) (l:List β) (k n:Nat):Nat->Prop
 |z {a:Nat} (h:n<=a):EZ le l k n a
 |s {a:Nat} (h:ei le l a (min (a+k) n)) (t:EZ le l k n (a+k)):EZ le l k n a
def G1.congr{le:β->β->Bool}{l l':List β}{k a:Nat}(h:G1 le l k a):(∀j,j<a->l'[j]?=l[j]?)->G1 le l' k a:=by
 induction h with
 |z=>exact fun _=> .z
 |s h t ih=>exact fun e=> .s (ih fun j T=>e j C) (iW t fun j _ T=>e j T)
def EZ.congr{le:β->β->Bool}{l l':List β}{k n a:Nat}(h:EZ le l k n a):(∀j,a<=j->l'[j]?=l[j]?)->EZ le l' k n a:=by
 induction h with
 |z h=>exact fun _=> .z h
 |s h t ih=>exact fun e=> .s (iW h fun j T _=>e j T) (ih fun j T=>e j C)
def EZ.inv{le:β->β->Bool}{l:List β}{k n a:Nat}(h:EZ le l k n a)(ha:a<n):ei le l a (min (a+k) n)/\EZ le l k n (a+k):=by
 cases h with
 |z h=>omega
 |s h t=>exact⟨h,t⟩
def G1.join{le:β->β->Bool}{l:List β}{k n a:Nat}(h:G1 le l k a):a<=n->EZ le l k n a->EZ le l k n 0:=by
 induction h with
 |z=>exact fun _ t=>t
 |s h t T=>exact fun ha b=>T C (.s (by rw[Nat.min_eq_left ha];exact t) b)
def mZ{le:β->β->Bool}{l:List β}{a b:Nat}(h1:a<=b):(bK le l a b).Perm l:=by
 have e:=tN (l:=l) h1;conv=>rhs;rw[<-e]
 exact List.Perm.append_right _ (List.Perm.append_left _ (List.mergeSort_perm _ _))
def G1.more{le:β->β->Bool}{l:List β}{k a:Nat}(hL:E4 le l)(h:G1 le l k a)(T:a+k<=l.length):G1 le (bK le l a (a+k)) k (a+k):=
 .s (h.congr fun j hj=>da C T j (.inl hj)) (ku hL C T)
def G1.last{le:β->β->Bool}{l:List β}{k a:Nat}(hL:E4 le l)(h:G1 le l k a)(ha:a<=l.length)(T:l.length<=a+k):EZ le (bK le l a l.length) k l.length 0:=
 (h.congr fun j hj=>da ha nR j (.inl hj)).join ha (.s (by rw[Nat.min_eq_right T];exact ku hL ha nR) (.z T))
def EZ.two{le:β->β->Bool}{l:List β}{k n a:Nat}(h:EZ le l k n a)(hk:0<k)(T:a+(k+k)<=n):ei le l a (a+k)/\ei le l (a+k) (a+(k+k))/\EZ le l k n (a+(k+k)):=by
 obtain⟨h1,t1⟩:=h.inv C;obtain⟨h2,t2⟩:=t1.inv C;rw[Nat.min_eq_left C] at h1 h2;rw[Nat.add_assoc] at h2 t2;exact⟨h1,h2,t2⟩
def EZ.one{le:β->β->Bool}{l:List β}{k n a:Nat}(h:EZ le l k n a)(hk:0<k)(h1:a+k<n)(T:n<=a+(k+k)):ei le l a (a+k)/\ei le l (a+k) n:=by
 obtain⟨h1,t1⟩:=h.inv C;obtain⟨h2,t2⟩:=t1.inv C;rw[Nat.min_eq_left C] at h1;rw[Nat.min_eq_right C] at h2;exact⟨h1,h2⟩
def G1.rest{le:β->β->Bool}{l:List β}{k n a:Nat}(h:G1 le l (k+k) a)(t:EZ le l k n a)(ha:a<=n)(T:n<=a+k):EZ le l (k+k) n 0:=by
 refine h.join ha ?_;by_cases e:n<=a
 · exact .z e
 · obtain⟨h1,_⟩:=t.inv C;rw[Nat.min_eq_right T] at h1;exact .s (by rw[Nat.min_eq_right C];exact h1) (.z C)
def GX{le:β->β->Bool}{T l:List β}{k:Nat}(hL:E4 le T)(hp:l.Perm T)(hk:T.length<=k)(h:EZ le l k T.length 0):l=T.mergeSort le:=by
 have hs:ei le l 0 T.length:=by
  by_cases e:0<T.length
  · obtain⟨h1,_⟩:=h.inv e
    rwa [Nat.zero_add,Nat.min_eq_right hk] at h1
  · exact fun p q x y _ _ h3=>absurd h3 C
 have e:=hp.length_eq;have hq:(iM l 0 T.length).Perm (iM T 0 T.length):=by rw[nc,<-e,nc];exact hp
 have r:=pU (l:=T) (l':=l) hL (Nat.zero_le _) (fun j hj=>by rw[List.getElem?_eq_none C,List.getElem?_eq_none C]) hq hs;rw[r,bK,nc];simp
end
end Go.Abs
namespace Go.Proofs.Y
open Go.Abs Go.Proofs.Tryz
def vU{H:Type}: ∀(T:List (DataW H)),jq YtnhmohbhgocbjaaGreatDoor.Rows.uptoBulk T=YtnhmohbhgocbjaaGreatDoor.Rows.uptoBulkAll T
 | [] =>rfl
 |d::T=>by
  have:=vU T;simp only[jq,List.map_cons,List.foldr_cons,YtnhmohbhgocbjaaGreatDoor.Rows.uptoBulkAll] at this|-;omega
def zz{H:Type}:G3 (H:=H) YtnhmohbhgocbjaaGreatDoor.Rows.uptoBulk where
 str s:=by simp[YtnhmohbhgocbjaaGreatDoor.Rows.uptoBulk]
 lit l:=by cases l<;>simp[YtnhmohbhgocbjaaGreatDoor.Rows.uptoBulk]
 nil:=by simp[YtnhmohbhgocbjaaGreatDoor.Rows.uptoBulk]
 slice es sp:=by rw[vU];simp only[YtnhmohbhgocbjaaGreatDoor.Rows.uptoBulk];omega
 agg es:=by rw[vU];simp only[YtnhmohbhgocbjaaGreatDoor.Rows.uptoBulk];omega
def book:Book:= [(3,8,[.int .i64]),(5,1,[.int .u8]),(9,16,[.str]),(35,24,[.sl 41]),(41,32,[.int .i64,.int .i64,.str]),(57,40,[.str,.sl 63]),(63,32,[.str,.int .i64,.bool]),(67,48,[.str,.str,.str]),(69,40,[.int .i64,.int .i64,.sl 35]),(72,16,[.str]),(75,24,[.sl 9]),(76,24,[.sl 78]),(78,104,[.int .i64,.int .i64,.int .i64,.str,.str,.str,.int .i64,.sl 78]),(80,320,[.int .i64,.str,.str,.str,.sl 63,.sl 76,.sl 144,.sl 9,.sl 78,.int .i64,.int .i64,.int .i64,.str,.str,.str,.int .i64,.sl 78,.sl 78,.bool,.int .i64]),(93,48,[.sl 9,.sl 9]),(144,120,[.str,.int .i64,.int .i64,.int .i64,.str,.str,.str,.int .i64,.sl 78])]
def jQ:book.ok prog=true:=by kernel_rfl
end Go.Proofs.Y
namespace Go.Proofs.Y
open Go.Abs Go.Proofs.Tryz
attribute [local irreducible] L Code.wp bodyPost Exit.then Exit.inBlock
def BW(a b:Int):Int:=if a=0\/b=0 then 0 else if a=1/\b=1 then 1 else 2
def uU(a:Int):Int:=if a=0\/a=1 then 1 - a else 2
def orM(a b:Int):Int:=uU (BW (uU a) (uU b))
def EO(a b:Int):CallA prog 195 [aI a,aI b] [] [] [] (aI (BW a b)):=by
 refine CallA.intro 19 func195 rfl rfl rfl (fun w0 E0=> ?_);(repeat' first|intro T hp|refine am ?_|refine al ?_ ?_|fail)
 all_goals refine aU ?_
 all_goals simp[resOf,BW, *]
def tR(a:Int):CallA prog 166 [aI a] [] [] [] (aI (uU a)):=by
 refine CallA.intro 11 func166 rfl rfl rfl (fun w0 E0=> ?_);(repeat' first|intro T hp|refine am ?_|refine al ?_ ?_|fail)
 all_goals refine aU ?_
 all_goals simp[resOf,uU, *]
structure A3 where
 k:Int
 n:Int
 s:List UInt8
def A3.c(v:A3):List IV:= [I v.k,I v.n,S v.s]
def iI(b:UInt8):Bool:=32<=b.toNat && b.toNat<=126 && b.toNat !=39
def au(v:A3):Bool:=
 if v.k=0 then v.n==0 && v.s== []
 else if v.k=1 then v.s== [] && (-1000000<=v.n && v.n<=1000000)
 else if v.k=2 then v.n==0 && (v.s.length<=8 && v.s.all iI)
 else false
def aY(v:A3):CallA prog 29 [.agg (v.c.map .iv)] [] [] [] (aB (au v)):=by
 obtain⟨k,n,s⟩:=v;refine CallA.intro 63 func29 rfl rfl rfl (fun w0 E0=> ?_);(repeat' first|intro hb hp|refine am ?_|refine al ?_ ?_|fail)
 all_goals try refine aU ?_
 all_goals try (simp[au, *];done)
 all_goals try (simp[au, *];intros;omega)
 rename_i a2 aR a3 a0 a4 T hn ad;subst T;subst ad;have hg:au ⟨2,0,s⟩=s.all iI:=by simp[au];omega
 rw[hg];refine ae (ι:=Nat) (fun i=>⟨[(40,aI (i:Int)),(39,aI (s.length:Int)),(1,.ptr 1 0)],[(1,⟨41,.l [.iv (I 2),.iv (I 0),.iv (S s)]⟩)],[]⟩) (fun i=>s.length - i) (fun i=>s.all iI=(s.drop i).all iI) (i0:=0) ?_ U ?_
 · exact df
 intro i hi K hK;cases hv:s[i]? with
 |none=>
  have ar:=gc hv;refine wz ?_;all_goals refine aU ?_
  rw[hi,oF hv];rfl
 |some b=>
  have ar:=fZ hv;have a1:=fM hv;rw[fu hv,List.all_cons] at hi;(repeat' first|intro hb hp|refine am ?_|refine al ?_ ?_|fail)
  all_goals try refine aU ?_
  all_goals try (rw[hi];simp[iI, *];done)
  all_goals try (rw[hi];simp[iI, *];intros;omega)
  refine hK _ (i+1) ?_ C ?_
  · have h1:iI b=true:=by
     simp[iI];omega
    rw[hi,h1];rfl
  · exact df
def u8(n:Int):UInt8:=UInt8.ofNat (IntKind.u8.wrap n).toNat
def tI(n:Int):(((u8 n).toNat:Nat):Int)=IntKind.u8.wrap n:=by
 rw[u8,UInt8.toNat_ofNat'];have:IntKind.u8.wrap n=n % 256:=IntKind.wrap_u8 n;rw[this];omega
def Ce(x:Int):List UInt8:= [u8 (x / 16777216),u8 (x / 65536),u8 (x / 256),u8 x]
def bZ(v:A3):List UInt8:=u8 (v.k+1)::(if v.k=1 then Ce (v.n+1073741824) else if v.k=2 then v.s++ [0] else [])
def CR(vs:List A3):List UInt8×Int:=if vs.all au then(vs.flatMap bZ,0) else([],1)
def np{v:A3}(h:au v=true):0<=v.k/\v.k<=2/\ -1000000<=v.n/\v.n<=1000000/\v.s.length<=8:=by
 unfold au at h;split at h
 · simp at h;simp[h];omega
 · split at h
   · simp at h;simp[h];omega
   · split at h
     · simp at h;simp[h];omega
     · cases h
def wn{v:A3}(h:au v=true):(bZ v).length<=10:=by
 unfold au at h;unfold bZ;split at h
 · rename_i h0;simp[h0]
 · split at h
   · rename_i h0 h1;simp[h1,Ce]
   · split at h
     · rename_i h0 h1 h2;simp at h;simp[h2];omega
     · cases h
def Bi{vs:List A3}:vs.all au=true->(vs.flatMap bZ).length<=10*vs.length:=by
 induction vs with
 |nil=>simp
 |cons v vs T=>
  intro h;simp only[List.all_cons,aE] at h;have:=wn h.1;have:=T h.2;simp only[List.flatMap_cons,gV,lC];omega
def JQ(vs:List A3)(a3:10*vs.length<=140737488355328):CallA prog 101 [.iv (.sl (vs.map A3.c))] [] [] [] (.tup [.iv (S (CR vs).1),.iv (I (CR vs).2)]):=by
 refine CallA.intro 57 func101 rfl rfl rfl (fun w0 E0=> ?_);refine wz ?_;refine L.adopt 4 (s:=4) (t:=5) (k:=1) U U U ?_;refine ae (ι:=Nat) (fun i=>⟨[(4,.row 4 (((vs.take i).flatMap bZ).map cB)),(8,.iv (.sl (vs.map A3.c))),(9,aI ((vs.map A3.c).length:Int)),(10,aI (i:Int))],[],[(4,⟨5,1⟩)]⟩) (fun i=>vs.length - i) (fun i=>(vs.take i).all au=true) (i0:=0) ?_ U ?_
 · exact df
 intro i hi K hK;cases hv:vs[i]? with
 |none=>
  have aR:=gc (l:=vs.map A3.c) (bz hv);refine wz ?_;all_goals refine aU ?_
  rw[KU hv] at hi|-;simp[CR,hi]
 |some v=>
  have aR:=fZ (l:=vs.map A3.c) (cM hv);have a4:=fM hv;have ar:=Bi hi;have a0:(vs.take i).length=i:=by simp;omega
  cases hg:au v with
  |false=>
   have a1:(!au v)=true:=by rw[hg];rfl
   (repeat' first|intro hb hp|refine LW.is (gp U (aY v) U U ?_)|refine am ?_|refine al ?_ ?_|fail)
   all_goals refine aU ?_
   have:vs.all au=false:=by
    rw[List.all_eq_false];exact⟨v,gE hv,by simp[hg]⟩
   simp[CR,this]
  |true=>
   have a1:(!au v)=false:=by rw[hg];rfl
   have a2:0<=v.k/\v.k<=2/\ -1000000<=v.n/\v.n<=1000000/\v.s.length<=8:=np hg;obtain⟨a6,a7,a8,a9,ba⟩:=a2;have ad:(vs.take (i+1)).all au=true:=by rw[dv hv];simp[hi,hg]
   have T:(vs.take (i+1)).flatMap bZ=(vs.take i).flatMap bZ++bZ v:=by rw[dv hv];simp
   generalize hq:(vs.take (i+1)).flatMap bZ=a5 at T;generalize (vs.take i).flatMap bZ=acc at ar T|-;rw[a0] at ar;(repeat' first|intro hb hp|refine LW.is (gp U (aY v) U U ?_)|refine am ?_|refine al ?_ ?_|fail)
   · refine L.only [4,8,9,10] ?_;refine L.retok 4 45 4 U U U U ?_;refine hK _ (i+1) ad C (Wk.mk' kK (.cons U (Sub.of_eq (congrArg (AV.row 4) ?_)) F3) .nil (.cons U .nil));have hw:IntKind.u32.wrap (v.n+1073741824)=v.n+1073741824:=by rw[IntKind.wrap_u32];omega
     have bh: ∀x:Int,x.fdiv (2 ^ min 24 IntKind.u32.bits)=x / 16777216:=fun x=>Int.fdiv_eq_ediv_of_nonneg x dD
     have bi: ∀x:Int,x.fdiv (2 ^ min 16 IntKind.u32.bits)=x / 65536:=fun x=>Int.fdiv_eq_ediv_of_nonneg x dD
     have h8: ∀x:Int,x.fdiv (2 ^ min 8 IntKind.u32.bits)=x / 256:=fun x=>Int.fdiv_eq_ediv_of_nonneg x dD
     rw[hq,T];simp[bZ, *,Ce,cB,tI,cY]
   · refine L.only [4,8,9,10] ?_;refine L.retok 4 53 4 U U U U ?_;refine hK _ (i+1) ad C (Wk.mk' kK (.cons U (Sub.of_eq (congrArg (AV.row 4) ?_)) F3) .nil (.cons U .nil));rw[hq,T];simp[bZ, *,cB,tI,cY]
   · refine L.only [4,8,9,10] ?_;refine L.retok 4 23 4 U U U U ?_;refine hK _ (i+1) ad C (Wk.mk' kK (.cons U (Sub.of_eq (congrArg (AV.row 4) ?_)) F3) .nil (.cons U .nil));rw[hq,T];simp[bZ, *,cB,tI,cY]
def ss(s:List UInt8):Int:=(s.getD 0 0).toNat*16777216+(s.getD 1 0).toNat*65536+(s.getD 2 0).toNat*256+(s.getD 3 0).toNat - 1073741824
def dB(s:List UInt8):List UInt8:=s.takeWhile (fun b=>b !=0)
def di:List UInt8->Option (A3×List UInt8)
 | [] =>none
 |b::s=>
  if b.toNat=1 then some (⟨0,0,[]⟩,s)
  else if b.toNat=2 then if s.length<4 then none else some (⟨1,ss s,[]⟩,s.drop 4)
  else if b.toNat=3 then if(dB s).length=s.length then none else some (⟨2,0,dB s⟩,s.drop ((dB s).length+1))
  else none
def EV{s r:List UInt8}{v:A3}(h:di s=some (v,r)):r.length<s.length:=by
 cases s with
 |nil=>cases h
 |cons b s=>
  simp only[di] at h;split at h
  · simp at h;simp[h.2]
  · split at h
    · split at h
      · cases h
      · simp at h;rw[<-h.2];simp;omega
    · split at h
      · split at h
        · cases h
        · simp at h;rw[<-h.2];simp;omega
      · cases h
def dz(s:List UInt8):Option (List A3):=
 if s= [] then some [] else
 match h:di s with
 |none=>none
 |some (v,r)=>if au v then(dz r).map (v:: ·) else none
 termination_by s.length
 decreasing_by exact EV h
def wP:dz [] =some []:=by rw[dz];rfl
def Cj{s:List UInt8}(hs:s≠ [])(h:di s=none):dz s=none:=by
 rw[dz,if_neg hs];split
 · rfl
 · rename_i v r T;rw[h] at T;cases T
def pQ{s r:List UInt8}{v:A3}(h:di s=some (v,r)):dz s=if au v then(dz r).map (v:: ·) else none:=by
 have hs:s≠ []:=fun e=>by subst e;cases h
 rw[dz,if_neg hs];split
 · rename_i T;rw[h] at T;cases T
 · rename_i v' r' T;rw[h] at T;cases T;rfl
def dA(s:List UInt8):List A3×Int:=match dz s with|some l=>(l,0)|none=>([],1)
def ud: ∀{r:List UInt8} {j:Nat},r[j]?=some 0->j<=(dB r).length->(dB r).length=j
 | [],j,h,_=>by simp at h
 |b::r,0,h,_=>by simp at h;subst h;rfl
 |b::r,j+1,h,T=>by
  by_cases hb:b=0
  · subst hb;simp[dB] at T
  · have e:dB (b::r)=b::dB r:=by simp[dB,hb]
    rw[e] at T|-;simp only[lC] at T|-;rw[ud (by simpa using h) C]
def ue: ∀{r:List UInt8} {j:Nat} {c:UInt8},r[j]?=some c->c≠0->j<=(dB r).length->j+1<=(dB r).length
 | [],j,c,h,_,_=>by simp at h
 |b::r,0,c,h,hc,_=>by simp at h;subst h;simp[dB,hc]
 |b::r,j+1,c,h,hc,T=>by
  by_cases hb:b=0
  · subst hb;simp[dB] at T
  · have e:dB (b::r)=b::dB r:=by simp[dB,hb]
    rw[e] at T|-;simp only[lC] at T|-;have:=ue (r:=r) (j:=j) (c:=c) (by simpa using h) hc C;omega
def GG(r:List UInt8):(dB r).length<=r.length:=(List.takeWhile_prefix _).length_le
def Cl(r:List UInt8):r.take (dB r).length=dB r:=(List.prefix_iff_eq_take.1 (List.takeWhile_prefix _)).symm
section
variable {s:List UInt8}{acc:List A3}{b:UInt8}{r r':List UInt8}{v:A3}
def ry(hi:dz s=(dz (b::r)).map (acc++ ·))(h:di (b::r)=some (v,r'))(T:au v=true):dz s=(dz r').map ((acc++ [v])++ ·):=by
 rw[hi,pQ h,if_pos T,Option.map_map];congr 1;funext l;simp
def Af(hi:dz s=(dz (b::r)).map (acc++ ·))(h:di (b::r)=some (v,r'))(T:au v=false):dA s=([],1):=by
 have:dz s=none:=by rw[hi,pQ h,T];rfl
 simp[dA,this]
def rz(hi:dz s=(dz (b::r)).map (acc++ ·))(h:di (b::r)=none):dA s=([],1):=by
 have:dz s=none:=by rw[hi,Cj sP h];rfl
 simp[dA,this]
end
def ml(s:List UInt8)(a6:32*s.length<=140737488355328):CallA prog 56 [aS s] [] [] [] (.tup [.iv (.sl ((dA s).1.map A3.c)),.iv (I (dA s).2)]):=by
 refine CallA.intro 81 func56 rfl rfl rfl (fun w0 E0=> ?_);refine wz ?_;refine L.adopt 4 (s:=4) (t:=41) (k:=3) U U U ?_;refine ae (ι:=List A3×List UInt8) (fun i=>⟨[(4,.row 4 (i.1.map A3.c)),(0,aS i.2)],[],[(4,⟨41,3⟩)]⟩) (fun i=>i.2.length) (fun i=>dz s=(dz i.2).map (i.1++ ·)/\i.1.length+i.2.length<=s.length) (i0:=([],s)) ?_ sP ?_
 · exact df
 rintro ⟨acc,s'⟩ ⟨hi,hl⟩ K hK;dsimp only at hi hl|-;cases s' with
 |nil=>
  have a0:(!(([]:List UInt8)== []))=false:=rfl;refine wz ?_;all_goals refine aU ?_
  rw[wP] at hi;simp[dA,hi]
 |cons b r=>
  have a0:(!(b::r==([]:List UInt8)))=true:=by simp
  simp only[lC] at hl;by_cases h1:b=1
  · subst h1;have hv:di (1::r)=some (⟨0,0,[]⟩,r):=rfl;have hg:au ⟨0,0,[]⟩=true:=rfl;have ad:(!au ⟨0,0,[]⟩)=false:=rfl;(repeat' first|intro hb hp|(refine LW.is ?_;first|refine ag U (bE U U dD U) ?_|refine ag U (bn U U dD (by simp<;>omega) (by show _=r;rfl)) ?_|refine s_C (aY ⟨0,0,[]⟩) ?_)|refine am ?_|refine al ?_ ?_|fail)
    · refine L.only [4,0] ?_;refine L.retok 4 79 4 U U U U ?_;refine hK _ (acc++ [⟨0,0,[]⟩],r) ⟨ry hi hv hg,by simp<;>omega⟩ (by simp<;>omega) (Wk.mk' kK (.cons U (Sub.of_eq (congrArg (AV.row 4) ?_)) F1) .nil (.cons U .nil));simp[cY,A3.c]
  by_cases h2:b=2
  · subst h2;by_cases hr:r.length<4
    · have hv:di (2::r)=none:=by simp[di,hr]
      have aR:decide ((r.length:Int)<4)=true:=by simp;omega
      (repeat' first|intro hb hp|(refine LW.is ?_;first|refine ag U (bE U U dD U) ?_|refine ag U (bn U U dD (by simp<;>omega) (by show _=r;rfl)) ?_)|refine am ?_|refine al ?_ ?_|fail)
      all_goals refine aU ?_
      rw[rz hi hv];rfl
    · have aR:decide ((r.length:Int)<4)=false:=by simp;omega
      obtain⟨c0,c1,c2,T,t,rfl⟩: ∃c0 c1 c2 T t,r=c0::c1::c2::T::t:=by
       match r,hr with
       | [],h=>simp at h
       | [_],h=>simp at h
       | [_,_],h=>simp at h
       | [_,_,_],h=>simp at h
       |c0::c1::c2::T::t,_=>exact⟨c0,c1,c2,T,t,rfl⟩
      have k0:=c0.toNat_lt;have k1:=c1.toNat_lt;have k2:=c2.toNat_lt;have k3:=T.toNat_lt;have hv:di (2::c0::c1::c2::T::t)=some (⟨1,ss (c0::c1::c2::T::t),[]⟩,t):=by simp[di]
      cases hg:au ⟨1,ss (c0::c1::c2::T::t),[]⟩ with
      |false=>
       have ad:(!au ⟨1,ss (c0::c1::c2::T::t),[]⟩)=true:=by rw[hg];rfl
       (repeat' first|intro hb hp|(refine LW.is ?_;first|refine ag U (bE U U dD U) ?_|(refine ag U (bn U U dD (by simp<;>omega) (by first|(show _=c0::c1::c2::T::t;rfl)|(show _=t;rfl))) ?_)|refine s_C (aY ⟨1,ss (c0::c1::c2::T::t),[]⟩) ?_)|(refine DR.is ?_;first|refine bg U (bE U U dD U) ?_|refine bg U (rt (p:=16777216) U U dD dD C C) ?_|refine bg U (rt (p:=65536) U U dD dD C C) ?_|refine bg U (rt (p:=256) U U dD dD C C) ?_|refine bg U (wT (a:=(c0.toNat:Int)) (p:=16777216) 24 U U dD C C C C C) ?_|refine bg U (wT (a:=(c0.toNat:Int)*256+c1.toNat) (p:=65536) 16 U U dD C C C C C) ?_|refine bg U (wT (a:=(c0.toNat:Int)*65536+c1.toNat*256+c2.toNat) (p:=256) 8 U U dD C C C C C) ?_)|refine am ?_|refine al ?_ ?_|fail)
       all_goals refine aU ?_
       rw[Af hi hv hg];rfl
      |true=>
       have ad:(!au ⟨1,ss (c0::c1::c2::T::t),[]⟩)=false:=by rw[hg];rfl
       (repeat' first|intro hb hp|(refine LW.is ?_;first|refine ag U (bE U U dD U) ?_|(refine ag U (bn U U dD (by simp<;>omega) (by first|(show _=c0::c1::c2::T::t;rfl)|(show _=t;rfl))) ?_)|refine s_C (aY ⟨1,ss (c0::c1::c2::T::t),[]⟩) ?_)|(refine DR.is ?_;first|refine bg U (bE U U dD U) ?_|refine bg U (rt (p:=16777216) U U dD dD C C) ?_|refine bg U (rt (p:=65536) U U dD dD C C) ?_|refine bg U (rt (p:=256) U U dD dD C C) ?_|refine bg U (wT (a:=(c0.toNat:Int)) (p:=16777216) 24 U U dD C C C C C) ?_|refine bg U (wT (a:=(c0.toNat:Int)*256+c1.toNat) (p:=65536) 16 U U dD C C C C C) ?_|refine bg U (wT (a:=(c0.toNat:Int)*65536+c1.toNat*256+c2.toNat) (p:=256) 8 U U dD C C C C C) ?_)|refine am ?_|refine al ?_ ?_|fail)
       refine L.only [4,0] ?_;refine L.retok 4 79 4 U U U U ?_;refine hK _ (acc++ [⟨1,ss (c0::c1::c2::T::t),[]⟩],t) ⟨ry hi hv hg,by simp at hl|- <;>omega⟩ (by simp<;>omega) (Wk.mk' kK (.cons U (Sub.of_eq (congrArg (AV.row 4) ?_)) F1) .nil (.cons U .nil));simp[cY,A3.c,ss]
  by_cases h3:b=3
  · subst h3;(repeat' first|intro hb hp|(refine LW.is ?_;first|refine ag U (bE U U dD U) ?_|refine ag U (bn U U dD (by simp<;>omega) (by show _=r;rfl)) ?_)|refine am ?_|refine al ?_ ?_|fail)
    have a7:=GG r;refine ae (ι:=Nat) (fun j=>⟨[(6,aI (j:Int)),(5,.ptr 5 0),(4,.row 4 (acc.map A3.c)),(0,aS r)],[(5,⟨41,.l [.iv (I 2),.iv (I 0),.iv (S [])]⟩)],[(4,⟨41,3⟩)]⟩) (fun j=>r.length - j) (fun j=>j<=(dB r).length) (i0:=0) ?_ (Nat.zero_le _) ?_
    · exact df
    intro j hj K2 a1;cases hc:r[j]? with
    |none=>
     have aR:=gc hc;have a2:r.length<=j:=gO hc;have ar:(dB r).length=r.length:=C;have hv:di (3::r)=none:=by simp[di,ar]
     have a3:((j:Int)==(r.length:Int))=true:=by simp;omega
     refine wz ?_;all_goals refine aU ?_
     rw[rz hi hv];rfl
    |some c=>
     have aR:=fZ hc;have a2:=fM hc;by_cases hz:c=0
     · subst hz;have ar:=ud hc hj;have a4:r.take j=dB r:=by rw[<-ar];exact Cl r
       have a3:((j:Int)==(r.length:Int))=false:=by simp;omega
       have hv:di (3::r)=some (⟨2,0,r.take j⟩,r.drop (j+1)):=by
        have: ¬(dB r).length=r.length:=C;simp only[di];rw[if_neg dD,if_neg dD,if_pos dD,if_neg this,ar,a4]
       cases hg:au ⟨2,0,r.take j⟩ with
       |false=>
        have ad:(!au ⟨2,0,r.take j⟩)=true:=by rw[hg];rfl
        (repeat' first|intro hb hp|refine LW.is (s_C (aY ⟨2,0,r.take j⟩) ?_)|(refine DR.is ?_;first|refine bg U (eR U U C C (by show _=r.take j;rfl)) ?_|refine bg U (bn U U C C (by show _=r.drop (j+1);rfl)) ?_)|refine am ?_|refine al ?_ ?_|fail)
        all_goals refine aU ?_
        rw[Af hi hv hg];rfl
       |true=>
        have ad:(!au ⟨2,0,r.take j⟩)=false:=by rw[hg];rfl
        (repeat' first|intro hb hp|refine LW.is (s_C (aY ⟨2,0,r.take j⟩) ?_)|(refine DR.is ?_;first|refine bg U (eR U U C C (by show _=r.take j;rfl)) ?_|refine bg U (bn U U C C (by show _=r.drop (j+1);rfl)) ?_)|refine am ?_|refine al ?_ ?_|fail)
        refine L.only [4,0] ?_;refine L.retok 4 79 4 U U U U ?_;refine hK _ (acc++ [⟨2,0,r.take j⟩],r.drop (j+1)) ⟨ry hi hv hg,by simp at hl|- <;>omega⟩ (by simp<;>omega) (Wk.mk' kK (.cons U (Sub.of_eq (congrArg (AV.row 4) ?_)) F1) .nil (.cons U .nil));simp[cY,A3.c]
     · have a8:((c.toNat:Int) !=0)=true:=by
        have:c.toNat≠0:=fun h=>hz (UInt8.toNat_inj.1 h)
        simpa using this
       have a5:=ue hc hz hj;refine wz ?_;refine a1 _ (j+1) a5 C ?_;exact df
  · have hb:=b.toNat_lt;have n1:b.toNat≠1:=fun h=>h1 (UInt8.toNat_inj.1 h)
    have n2:b.toNat≠2:=fun h=>h2 (UInt8.toNat_inj.1 h)
    have n3:b.toNat≠3:=fun h=>h3 (UInt8.toNat_inj.1 h)
    have hv:di (b::r)=none:=by simp[di,n1,n2,n3]
    have q1:((b.toNat:Int) - 1==0)=false:=by simp;omega
    have q2:((b.toNat:Int) - 1==1)=false:=by simp;omega
    have q3:((b.toNat:Int) - 1==2)=false:=by simp;omega
    have hg:au ⟨(b.toNat:Int) - 1,0,[]⟩=false:=by
     unfold au;rw[if_neg (by simpa using q1),if_neg (by simpa using q2),if_neg (by simpa using q3)]
    have ad:(!au ⟨(b.toNat:Int) - 1,0,[]⟩)=true:=by rw[hg];rfl
    (repeat' first|intro hb hp|(refine LW.is ?_;first|refine ag U (bE U U dD U) ?_|refine ag U (bn U U dD (by simp<;>omega) (by show _=r;rfl)) ?_|refine s_C (aY ⟨(b.toNat:Int) - 1,0,[]⟩) ?_)|refine am ?_|refine al ?_ ?_|fail)
    all_goals refine aU ?_
    rw[rz hi hv];rfl
def LA(a b:Int):CallA prog 196 [aI a,aI b] [] [] [] (aI (orM a b)):=by
 refine iA func196 ntmps196 (fun w0 E0=> ?_);(repeat' first|intro T hp|(refine LW.is ?_;first|refine gp U (tR a) U U ?_|refine gp U (tR b) U U ?_|refine gp U (EO (uU a) (uU b)) U U ?_|refine gp U (tR (BW (uU a) (uU b))) U U ?_)|refine am ?_|refine al ?_ ?_|fail)
 all_goals refine aU ?_
 rfl
end Go.Proofs.Y
namespace Go.Proofs.Y
open Go.Abs
def FO{b:UInt8}(h:iI b=true):b≠0:=by
 intro e;subst e;simp[iI] at h
def EW{s r:List UInt8}(h:s.all iI=true):dB (s++0::r)=s:=by
 induction s with
 |nil=>simp[dB]
 |cons b s T=>
  simp only[List.all_cons,aE] at h;have:=FO h.1;have T:=T h.2;unfold dB at T|-;simp[this,T]
def jC{n:Int}(h0:0<=n):((u8 n).toNat:Int)=n % 256:=by rw[tI,IntKind.wrap_u8]
def IA{x:Int}(h0:0<=x)(h1:x<4294967296)(r:List UInt8):ss (Ce x++r)=x - 1073741824:=by
 have T:=jC (n:=x / 16777216) C;have e1:=jC (n:=x / 65536) C;have e2:=jC (n:=x / 256) C;have e3:=jC (n:=x) C;simp only[ss,Ce,List.cons_append,List.getD_cons_zero,List.getD_cons_succ];omega
def no{v:A3}(h:au v=true):v=⟨0,0,[]⟩\/(∃n:Int,v=⟨1,n,[]⟩/\ -1000000<=n/\n<=1000000)\/ ∃s,v=⟨2,0,s⟩/\s.length<=8/\s.all iI=true:=by
 obtain⟨k,n,s⟩:=v;unfold au at h;split at h
 · rename_i h0;simp at h h0;left;simp[h,h0]
 · split at h
   · rename_i h0;simp at h h0;right;left;exact⟨n,by simp[h,h0],h.2⟩
   · split at h
     · rename_i h0;simp only[aE,beq_iff_eq,decide_eq_true_eq] at h;simp only at h0;right;right;exact⟨s,by simp[h.1,h0],h.2⟩
     · cases h
def pt:bZ ⟨0,0,[]⟩= [1]:=by simp[bZ,u8,IntKind.wrap_u8]
def lH(n:Int):bZ ⟨1,n,[]⟩=2::Ce (n+1073741824):=by simp[bZ,u8,IntKind.wrap_u8]
def lG(s:List UInt8):bZ ⟨2,0,s⟩=3::(s++ [0]):=by simp[bZ,u8,IntKind.wrap_u8]
def Je(s:List UInt8):di (2::s)=if s.length<4 then none else some (⟨1,ss s,[]⟩,s.drop 4):=by
 simp only[di];rw[if_neg dD,if_pos dD]
def Jd(s:List UInt8):di (3::s)=if(dB s).length=s.length then none else some (⟨2,0,dB s⟩,s.drop ((dB s).length+1)):=by
 simp only[di];rw[if_neg dD,if_neg dD,if_pos dD]
def pR{v:A3}(h:au v=true)(r:List UInt8):di (bZ v++r)=some (v,r):=by
 rcases no h with rfl|⟨n,rfl,h0,h1⟩|⟨s,rfl,hl,hs⟩
 · rw[pt];rfl
 · rw[lH];have hl: ¬(Ce (n+1073741824)++r).length<4:=by simp[Ce]
   have e:ss (Ce (n+1073741824)++r)=n:=by rw[IA C C];omega
   have T:(Ce (n+1073741824)++r).drop 4=r:=by simp[Ce]
   show di (2::(Ce (n+1073741824)++r))=_;rw[Je,if_neg hl,e,T]
 · rw[lG];have hu:dB ((s++ [0])++r)=s:=by
    have:=EW (r:=r) hs;simpa using this
   have hl: ¬(dB ((s++ [0])++r)).length=((s++ [0])++r).length:=by rw[hu];simp
   have T:((s++ [0])++r).drop (s.length+1)=r:=by
    rw[List.drop_append_of_le_length sP];simp
   show di (3::((s++ [0])++r))=_;rw[Jd,if_neg hl,hu,T]
def wQ: ∀{vs:List A3},vs.all au=true->dz (vs.flatMap bZ)=some vs
 | [],_=>wP
 |v::vs,h=>by
  simp only[List.all_cons,aE] at h;rw[List.flatMap_cons,pQ (pR h.1 _),if_pos h.1,wQ h.2];rfl
def words:List (List UInt8):= [[97,110,100],[98,121],[99,114,101,97,116,101],[100,101,108,101,116,101],[100,101,115,99],[100,114,111,112],[102,114,111,109],[105,110,100,101,120],[105,110,115,101,114,116],[105,110,116],[105,110,116,111],[105,115],[108,105,109,105,116],[109,117,115,116],[110,111,116],[110,117,108,108],[111,110],[111,114],[111,114,100,101,114],[115,101,108,101,99,116],[115,101,116],[116,97,98,108,101],[116,101,120,116],[117,112,100,97,116,101],[118,97,108,117,101,115],[119,104,101,114,101]]
def wI:words.length=26:=rfl
def tD:aw:= [(0,[.sl (words.map fun s=> [S s])])]
def HY:(0,[IV.sl (words.map fun s=> [S s])])∈tD:=by simp[tD]
attribute [irreducible] words tD
def sN:List IV:=Lib.pow10Tab.map fun z=> .im (.int .u64 z)
def cH[C3]:aw:=(2,[.im C3.s])::(3,[.im C3.r])::(4,sN)::tD
def MC[C3]:(2,[IV.im C3.s])∈cH:=by simp[cH]
def MD[C3]:(3,[IV.im C3.r])∈cH:=by simp[cH]
def Ld[C3]:(4,sN)∈cH:=by simp[cH]
def JY[C3]: ∀p∈tD,p∈cH:=fun p h=>by simp only[cH,List.mem_cons];exact .inr (.inr (.inr h))
def Cc[C3]{P:Program}{f:FuncId}{args:List AV}{bx bx':List (Nat×A5)}{T:List (Nat×C9)}{ad:AV}(h:CallG tD P f args bx bx' T ad):CallG cH P f args bx bx' T ad:=h.sub JY
attribute [irreducible] cH
end Go.Proofs.Y
namespace Go.Proofs.Y
open Go.Abs Go.Proofs.Tryz
attribute [local irreducible] L Code.wp bodyPost Exit.then Exit.inBlock
variable [Dr]
def fK(a b:Int):Int:=if a<b then -1 else if b<a then 1 else 0
def lq(a b:List UInt8):Int:=if Op.bytesLess a b then -1 else if Op.bytesLess b a then 1 else 0
def tC:List Int->Int
 | [] =>0
 |x::l=>if x=0 then tC l else x
def cA(v w:A3):Int:=tC [fK v.k w.k,fK v.n w.n,lq v.s w.s]
def cI(n:Int):List IV:= [I n]
def HI(a:Int):CallA prog 83 [aI a] [] [] [] (aB false):=by
 refine iA func83 ntmps83 (fun w0 E0=> ?_);refine wz ?_;all_goals refine aU ?_
 all_goals simp[resOf]
def uX(a:List UInt8):CallA prog 84 [aS a] [] [] [] (aB false):=by
 refine iA func84 ntmps84 (fun w0 E0=> ?_);refine wz ?_;all_goals refine aU ?_
 all_goals simp[resOf]
def IN(a b:Int):CallA prog 47 [aI a,aI b] [] [] [] (aI (fK a b)):=by
 refine iA func47 ntmps47 (fun w0 E0=> ?_);(repeat' first|intro T hp|refine LW.is (s_C (HI _) ?_)|refine am ?_|refine al ?_ ?_|fail)
 all_goals refine aU ?_
 all_goals simp only[decide_eq_true_eq,decide_eq_false_iff_not] at*
 all_goals simp[resOf,fK, *]
def iy: ∀(x y:List UInt8),Op.bytesLess x y=decide (x<y):=by
 intro x;induction x with
 |nil=>intro y;cases y<;>simp[Op.bytesLess]
 |cons a x T=>
  intro y;cases y with
  |nil=>simp[Op.bytesLess]
  |cons b y=>
   unfold Op.bytesLess;rw[T y,Bool.eq_iff_iff];simp[List.cons_lt_cons_iff]
def IR{a b:List UInt8}:(!(Op.bytesLess a b||a==b))=Op.bytesLess b a:=by
 rw[iy,iy];by_cases h:b<a
 · have h1: ¬a<b:=List.lt_asymm h;have h2:a≠b:=fun e=>by subst e;exact List.lt_irrefl _ h
   simp[h,h1,h2]
 · by_cases h1:a<b
   · simp[h,h1]
   · have:a=b:=List.le_antisymm (List.not_lt.1 h) (List.not_lt.1 h1);simp[h,this]
def IL(a b:List UInt8):CallA prog 48 [aS a,aS b] [] [] [] (aI (lq a b)):=by
 refine iA func48 ntmps48 (fun w0 E0=> ?_);cases h1:Op.bytesLess a b with
 |true=>
  (repeat' first|intro T hp|refine LW.is (s_C (uX _) ?_)|refine am ?_|refine al ?_ ?_|fail)
  all_goals refine aU ?_
  all_goals simp[resOf,lq, *]
 |false=>
  have h2:(!(Op.bytesLess a b||a==b))=Op.bytesLess b a:=IR;cases h3:Op.bytesLess b a with
  |true=>
   rw[h3] at h2;(repeat' first|intro T hp|refine LW.is (s_C (uX _) ?_)|refine am ?_|refine al ?_ ?_|fail)
   all_goals refine aU ?_
   all_goals simp[resOf,lq, *]
  |false=>
   rw[h3] at h2;(repeat' first|intro T hp|refine LW.is (s_C (uX _) ?_)|refine am ?_|refine al ?_ ?_|fail)
   all_goals refine aU ?_
   all_goals simp[resOf,lq, *]
def JE(vs:List Int)(hl:vs.length<=1000):CallA prog 46 [.iv (.sl (vs.map cI))] [] [] [] (aI (tC vs)):=by
 refine iA func46 ntmps46 (fun w0 E0=> ?_);refine wz ?_;refine ae (ι:=Nat) (fun i=>⟨[(8,aI (i:Int)),(7,aI ((vs.map cI).length:Int)),(6,.iv (.sl (vs.map cI))),(3,aI 0)],[],[]⟩) (fun i=>vs.length - i) (fun i=>tC vs=tC (vs.drop i)) (i0:=0) ?_ U ?_
 · exact df
 intro i hi K hK;cases T:vs[i]? with
 |none=>
  have ad:=gc (l:=vs.map cI) (bz T);refine wz ?_;all_goals refine aU ?_
  rw[hi,oF T];rfl
 |some v=>
  have ad:=fZ (l:=vs.map cI) (cM T);have ar:=fM T;rw[fu T] at hi;cases hq:v !=0 with
  |true=>
   refine wz ?_;all_goals refine aU ?_
   simp at hq;simp[hi,tC,hq]
  |false=>
   refine wz ?_;refine hK _ (i+1) ?_ C ?_
   · simp at hq;simp[hi,tC,hq]
   · exact df
def ny(v w:A3):CallA prog 21 [.agg (v.c.map .iv),.agg (w.c.map .iv)] [] [] [] (aI (cA v w)):=by
 refine iA func21 ntmps21 (fun w0 E0=> ?_);(repeat' first|intro T hp|(refine DR.is ?_;first|refine d_C (IN _ _) ?_|refine d_C (IL _ _) ?_|refine rf U (JE [fK v.k w.k,fK v.n w.n,lq v.s w.s] sP) U U ?_)|refine am ?_|refine al ?_ ?_|fail)
 all_goals refine aU ?_
 all_goals rfl
end Go.Proofs.Y
namespace Go.Proofs.Y
open Go.Abs Go.Proofs.Tryz
attribute [local irreducible] L Code.wp bodyPost Exit.then Exit.inBlock
def af:A3:=⟨0,0,[]⟩
def rm(v:A3):Int:=if v.k=3 then v.n % 2 else 2
def dW(n:Int):A3:=if n=0\/n=1 then⟨3,n,[]⟩ else af
def yT(b:Bool):Int:=if b then 1 else 0
def tw(op:Int)(a b:A3):A3:=let n:=if op=4 then a.n - b.n else a.n+b.n;if au ⟨1,n,[]⟩ then⟨1,n,[]⟩ else af
def pT(op:Int)(a b:A3):A3:=
 if op=7 then dW (BW (rm a) (rm b))
 else if op=8 then dW (orM (rm a) (rm b))
 else if a.k≠b.k\/au a=false\/au b=false\/a.k=0 then af
 else if op=5 then dW (yT (cA a b==0))
 else if op=6 then dW (yT (decide (cA a b<0)))
 else if a.k≠1\/(op≠3/\op≠4) then af
 else tw op a b
def rQ(v:A3):CallA prog 167 [.agg (v.c.map .iv)] [] [] [] (aI (rm v)):=by
 refine iA func167 ntmps167 (fun w0 E0=> ?_);(repeat' first|intro T hp|refine am ?_|refine al ?_ ?_|fail)
 all_goals refine aU ?_
 all_goals simp[rm,resOf, *]
 have:=Int.emod_nonneg v.n (b:=2) dD;have:=Int.emod_lt_of_pos v.n (b:=2) dD;omega
def jS(n:Int):CallA prog 165 [aI n] [] [] [] (.agg ((dW n).c.map .iv)):=by
 refine iA func165 ntmps165 (fun w0 E0=> ?_);by_cases h:n=0\/n=1
 · have e:dW n=⟨3,n,[]⟩:=by rw[dW,if_pos h]
   rw[e];rcases h with rfl|rfl
   · refine wz ?_;all_goals refine aU ?_
     all_goals kernel_rfl
   · refine wz ?_;all_goals refine aU ?_
     all_goals kernel_rfl
 · have e:dW n=af:=by rw[dW,if_neg h]
   rw[e];have h0:(n !=0)=true:=by simp;omega
   have h1:(n !=1)=true:=by simp;omega
   refine wz ?_;all_goals refine aU ?_
   all_goals kernel_rfl
def yS(b:Bool):CallA prog 168 [aB b] [] [] [] (aI (yT b)):=by
 refine iA func168 ntmps168 (fun w0 E0=> ?_);cases b
 · refine wz ?_;all_goals refine aU ?_
   all_goals rfl
 · refine wz ?_;all_goals refine aU ?_
   all_goals rfl
def yw(op:Int)(a b:A3):CallA prog 169 [aI op,.agg (a.c.map .iv),.agg (b.c.map .iv)] [] [] [] (.agg ((pT op a b).c.map .iv)):=by
 refine iA func169 ntmps169 (fun w0 E0=> ?_);by_cases h7:op=7
 · subst h7;have e:pT 7 a b=dW (BW (rm a) (rm b)):=by simp[pT]
   rw[e];(repeat' first|intro T hp|(refine DR.is ?_;first|refine d_C (rQ a) ?_|refine d_C (rQ b) ?_|refine d_C (EO _ _) ?_|refine d_C (jS _) ?_)|refine am ?_|refine al ?_ ?_|fail)
   all_goals refine aU ?_
   all_goals kernel_rfl
 have q7:(op==7)=false:=by simp[h7]
 by_cases h8:op=8
 · subst h8;have e:pT 8 a b=dW (orM (rm a) (rm b)):=by simp[pT]
   rw[e];(repeat' first|intro T hp|(refine DR.is ?_;first|refine d_C (rQ a) ?_|refine d_C (rQ b) ?_|refine d_C (LA _ _) ?_|refine d_C (jS _) ?_)|refine am ?_|refine al ?_ ?_|fail)
   all_goals refine aU ?_
   all_goals kernel_rfl
 have q8:(op==8)=false:=by simp[h8]
 have e1:pT op a b=if a.k≠b.k\/au a=false\/au b=false\/a.k=0 then af else if op=5 then dW (yT (cA a b==0)) else if op=6 then dW (yT (decide (cA a b<0))) else if a.k≠1\/(op≠3/\op≠4) then af else tw op a b:=by
  rw[pT,if_neg h7,if_neg h8]
 rw[e1];clear e1;by_cases hk:a.k=b.k
 case neg=>
  rw[if_pos (.inl hk)];have qk:(a.k !=b.k)=true:=by simp[hk]
  refine wz ?_;all_goals refine aU ?_
  all_goals kernel_rfl
 have qk:(a.k !=b.k)=false:=by simp[hk]
 cases ga:au a with
 |false=>
  rw[if_pos (.inr (.inl U))];have qa:(!au a)=true:=by rw[ga];rfl
  (repeat' first|intro T hp|refine LW.is (s_C (aY a) ?_)|refine am ?_|refine al ?_ ?_|fail)
  all_goals refine aU ?_
  all_goals kernel_rfl
 |true=>
 have qa:(!au a)=false:=by rw[ga];rfl
 cases gb:au b with
 |false=>
  rw[if_pos (.inr (.inr (.inl U)))];have qb:(!au b)=true:=by rw[gb];rfl
  (repeat' first|intro T hp|(refine LW.is ?_;first|refine s_C (aY a) ?_|refine s_C (aY b) ?_)|refine am ?_|refine al ?_ ?_|fail)
  all_goals refine aU ?_
  all_goals kernel_rfl
 |true=>
 have qb:(!au b)=false:=by rw[gb];rfl
 by_cases h0:a.k=0
 · rw[if_pos (.inr (.inr (.inr h0)))];have q0:(a.k==0)=true:=by simp[h0]
   (repeat' first|intro T hp|(refine LW.is ?_;first|refine s_C (aY a) ?_|refine s_C (aY b) ?_)|refine am ?_|refine al ?_ ?_|fail)
   all_goals refine aU ?_
   all_goals kernel_rfl
 have q0:(a.k==0)=false:=by simp[h0]
 rw[if_neg (by
  rintro (h|h|h|h)
  · exact h hk
  · cases h
  · cases h
  · exact h0 h)]
 by_cases h5:op=5
 · subst h5;rw[if_pos U];(repeat' first|intro T hp|(refine LW.is ?_;first|refine s_C (aY a) ?_|refine s_C (aY b) ?_|refine s_C (ny a b) ?_|refine s_C (yS _) ?_|refine s_C (jS _) ?_)|refine am ?_|refine al ?_ ?_|fail)
   all_goals refine aU ?_
   all_goals kernel_rfl
 rw[if_neg h5];have q5:(op==5)=false:=by simp[h5]
 by_cases h6:op=6
 · subst h6;rw[if_pos U];(repeat' first|intro T hp|(refine LW.is ?_;first|refine s_C (aY a) ?_|refine s_C (aY b) ?_|refine s_C (ny a b) ?_|refine s_C (yS _) ?_|refine s_C (jS _) ?_)|refine am ?_|refine al ?_ ?_|fail)
   all_goals refine aU ?_
   all_goals kernel_rfl
 rw[if_neg h6];have q6:(op==6)=false:=by simp[h6]
 by_cases h1:a.k=1
 case neg=>
  rw[if_pos (.inl h1)];have q1:(a.k !=1)=true:=by simp[h1]
  (repeat' first|intro T hp|(refine LW.is ?_;first|refine s_C (aY a) ?_|refine s_C (aY b) ?_)|refine am ?_|refine al ?_ ?_|fail)
  all_goals refine aU ?_
  all_goals kernel_rfl
 have q1:(a.k !=1)=false:=by simp[h1]
 obtain⟨_,_,ad,ar,_⟩:=np ga;obtain⟨_,_,aR,a0,_⟩:=np gb;by_cases h4:op=4
 · subst h4;rw[if_neg (by simp[h1])];cases gn:au ⟨1,a.n - b.n,[]⟩ with
   |false=>
    have e:tw 4 a b=af:=by simp[tw,gn]
    rw[e];(repeat' first|intro T hp|(refine LW.is ?_;first|refine s_C (aY a) ?_|refine s_C (aY b) ?_|refine s_C (aY ⟨1,a.n - b.n,[]⟩) ?_)|refine am ?_|refine al ?_ ?_|fail)
    all_goals refine aU ?_
    all_goals kernel_rfl
   |true=>
    have e:tw 4 a b=⟨1,a.n - b.n,[]⟩:=by simp[tw,gn]
    rw[e];(repeat' first|intro T hp|(refine LW.is ?_;first|refine s_C (aY a) ?_|refine s_C (aY b) ?_|refine s_C (aY ⟨1,a.n - b.n,[]⟩) ?_)|refine am ?_|refine al ?_ ?_|fail)
    all_goals refine aU ?_
    all_goals kernel_rfl
 have q4:(op==4)=false:=by simp[h4]
 have a1:(op !=4)=true:=by simp[h4]
 by_cases h3:op=3
 · subst h3;rw[if_neg (by simp[h1])];cases gn:au ⟨1,a.n+b.n,[]⟩ with
   |false=>
    have e:tw 3 a b=af:=by simp[tw,gn]
    rw[e];(repeat' first|intro T hp|(refine LW.is ?_;first|refine s_C (aY a) ?_|refine s_C (aY b) ?_|refine s_C (aY ⟨1,a.n+b.n,[]⟩) ?_)|refine am ?_|refine al ?_ ?_|fail)
    all_goals refine aU ?_
    all_goals kernel_rfl
   |true=>
    have e:tw 3 a b=⟨1,a.n+b.n,[]⟩:=by simp[tw,gn]
    rw[e];(repeat' first|intro T hp|(refine LW.is ?_;first|refine s_C (aY a) ?_|refine s_C (aY b) ?_|refine s_C (aY ⟨1,a.n+b.n,[]⟩) ?_)|refine am ?_|refine al ?_ ?_|fail)
    all_goals refine aU ?_
    all_goals kernel_rfl
 · rw[if_pos (.inr ⟨h3,h4⟩)];have q3:(op !=3)=true:=by simp[h3]
   (repeat' first|intro T hp|(refine LW.is ?_;first|refine s_C (aY a) ?_|refine s_C (aY b) ?_)|refine am ?_|refine al ?_ ?_|fail)
   all_goals refine aU ?_
   all_goals kernel_rfl
inductive Ex where
 |mk (op:Int) (v:A3) (s name:List UInt8) (n:Int) (l:List Ex)
def Ex.op:Ex->Int| .mk op _ _ _ _ _=>op
def Ex.v:Ex->A3| .mk _ v _ _ _ _=>v
def Ex.s:Ex->List UInt8| .mk _ _ s _ _ _=>s
def Ex.name:Ex->List UInt8| .mk _ _ _ s _ _=>s
def Ex.n:Ex->Int| .mk _ _ _ _ n _=>n
def Ex.l:Ex->List Ex| .mk _ _ _ _ _ l=>l
def Ex.c:Ex->List IV
 | .mk op v s name n l=> [I op,I v.k,I v.n,S v.s,S s,S name,I n,.sl (l.attach.map fun x=>x.1.c)]
 decreasing_by
  have:=List.sizeOf_lt_of_mem x.2;simp;omega
def Ex.c_eq(op:Int)(v:A3)(s name:List UInt8)(n:Int)(l:List Ex):Ex.c (.mk op v s name n l)= [I op,I v.k,I v.n,S v.s,S s,S name,I n,.sl (l.map Ex.c)]:=by
 rw[Ex.c];simp[List.attach_map_val]
def mx(op:Int):List A3->A3
 | [a] =>if op=9 then dW (uU (rm a)) else if op=10 then dW (yT (a.k==0)) else af
 | [a,b] =>pT op a b
 |_=>af
def uH(n:Int)(row:List A3):A3:=if 0<=n then(row[n.toNat]?).getD af else af
def jo(op:Int)(v:A3)(n:Int)(vs row:List A3):A3:=
 if op=1 then v else if op=2 then uH n row else mx op vs
def aC(row:List A3):Ex->A3
 | .mk op v s name n l=>jo op v n (l.attach.map fun x=>aC row x.1) row
 decreasing_by
  have:=List.sizeOf_lt_of_mem x.2;simp;omega
def eP(row:List A3)(op:Int)(v:A3)(s name:List UInt8)(n:Int)(l:List Ex):aC row (.mk op v s name n l)=jo op v n (l.map (aC row)) row:=by
 rw[aC];simp
inductive Ex.Ok:Ex->Prop
 |mk {op:Int} {v:A3} {s name:List UInt8} {n:Int} {l:List Ex} (hl:l.length*104<=140737488355328) (h: ∀x∈l,x.Ok):Ex.Ok (.mk op v s name n l)
def oC(v:A3)(n:Int)(vs row:List A3):jo 2 v n vs row=uH n row:=by simp[jo]
def jO{op:Int}(v:A3)(n:Int)(vs row:List A3)(h1:op≠1)(h2:op≠2):jo op v n vs row=mx op vs:=by rw[jo,if_neg h1,if_neg h2]
def kZ(row:List A3): ∀(e:Ex) (T:e.Ok),CallA prog 119 [.agg (e.c.map .iv),.iv (.sl (row.map A3.c))] [] [] [] (.agg ((aC row e).c.map .iv))
 | .mk op v s name n l,T=>by
   have ih: ∀x∈l,CallA prog 119 [.agg (x.c.map .iv),.iv (.sl (row.map A3.c))] [] [] [] (.agg ((aC row x).c.map .iv)):=fun x hx=>kZ row x (by cases T with|mk _ h=>exact h x hx)
   have hl:l.length*104<=140737488355328:=by cases T with|mk hl _=>exact hl
   rw[Ex.c_eq,eP];refine iA func119 ntmps119 (fun w0 E0=> ?_);refine wz ?_;refine L.adopt 5 (s:=5) (t:=41) (k:=3) U U U ?_;refine ae (ι:=Nat) (fun i=>⟨[(11,aI (i:Int)),(10,aI ((l.map Ex.c).length:Int)),(9,.iv (.sl (l.map Ex.c))),(5,.row 5 (((l.take i).map (aC row)).map A3.c)),(1,.iv (.sl (row.map A3.c))),(2,.ptr 2 0),(4,.ptr 4 0)],
    [(2,⟨78,.l [.iv (I op),.iv (I v.k),.iv (I v.n),.iv (S v.s),.iv (S s),.iv (S name),.iv (I n),.iv (.sl (l.map Ex.c))]⟩),(4,⟨41,.l [.iv (I 0),.iv (I 0),.iv (S [])]⟩)],[(5,⟨41,3⟩)]⟩) (fun i=>l.length - i) (fun i=>True) (i0:=0) ?_ trivial ?_
   · exact df
   intro i _ K hK;cases hv:l[i]? with
   |some x=>
    have a5:=fZ (l:=l.map Ex.c) (cM hv);have a9:=fM hv;have a1:=ih x (gE hv);have ad:((l.take (i+1)).map (aC row)).map A3.c=((l.take i).map (aC row)).map A3.c++ [(aC row x).c]:=by rw[dv hv];simp
    generalize aC row x=r at a1 ad;obtain⟨a6,v',s',aR,n',l'⟩:=x;rw[Ex.c_eq] at a1;have he:(l.map Ex.c)[((i:Nat):Int).toNat]?=some [I a6,I v'.k,I v'.n,S v'.s,S s',S aR,I n',.sl (l'.map Ex.c)]:=by
     rw[<-Ex.c_eq];simp[hv]
    clear hv ih T;refine wz ?_;refine L.only [11,10,9,5,1,2,4] ?_;refine L.retok 5 20 5 U U U U ?_;refine hK _ (i+1) trivial C (Wk.mk' kK (wF (wF (wF (.cons U (Sub.of_eq (congrArg (AV.row 5) ?_)) F3)))) B2 (.cons U .nil));rw[ad];rfl
   |none=>
    have a5:=gc (l:=l.map Ex.c) (bz hv);rw[KU hv];generalize a7:l.map (aC row)=vs;clear hK ih T a7;by_cases h1:op=1
    · subst h1;have e:jo 1 v n vs row=v:=by simp[jo]
      rw[e];refine wz ?_;all_goals refine aU ?_
      all_goals kernel_rfl
    have q1:(op==1)=false:=by simp[h1]
    by_cases h2:op=2
    · subst h2;rw[oC];cases a2:decide ((0:Int)<=n) with
      |false=>
       have e:uH n row=af:=by simp at a2;rw[uH,if_neg C]
       rw[e];refine wz ?_;all_goals refine aU ?_
       all_goals kernel_rfl
      |true=>
       have ar:0<=n:=by simpa using a2
       cases hr:row[n.toNat]? with
       |none=>
        have e:uH n row=af:=by rw[uH,if_pos ar,hr];rfl
        have a3:decide (n<((row.map A3.c).length:Int))=false:=by
         have:=gO hr;simp;omega
        rw[e];refine wz ?_;all_goals refine aU ?_
        all_goals kernel_rfl
       |some r=>
        have e:uH n row=r:=by rw[uH,if_pos ar,hr];rfl
        have a3:decide (n<((row.map A3.c).length:Int))=true:=by
         have:=(gS hr).1;simp;omega
        have ba:(row.map A3.c)[n.toNat]?=some r.c:=by simp[hr]
        rw[e];refine wz ?_;all_goals refine aU ?_
        all_goals kernel_rfl
    have q2:(op==2)=false:=by simp[h2]
    rw[jO _ _ _ _ h1 h2];by_cases h9:op=9
    · subst h9
      match vs with
      | [] =>
        refine wz ?_;all_goals refine aU ?_
        all_goals kernel_rfl
      | [a] =>
        have e:mx 9 [a] =dW (uU (rm a)):=by simp[mx]
        rw[e];(repeat' first|intro hb hp|(refine LW.is ?_;first|refine ag U (cd U U dD U U) ?_|refine s_C (rQ a) ?_|refine s_C (tR _) ?_|refine s_C (jS _) ?_)|refine am ?_|refine al ?_ ?_|fail)
        all_goals refine aU ?_
        all_goals kernel_rfl
      | [a,b] =>
        (repeat' first|intro hb hp|(refine DR.is ?_;first|refine bg U (cd U U dD U U) ?_|refine d_C (yw 9 a b) ?_)|refine am ?_|refine al ?_ ?_|fail)
        all_goals refine aU ?_
        all_goals kernel_rfl
      |a::b::c::t=>
       have a8:((((a::b::c::t).map A3.c).length:Int)==1)=false:=by simp;omega
       have a4:((((a::b::c::t).map A3.c).length:Int)==2)=false:=by simp;omega
       refine wz ?_;all_goals refine aU ?_
       all_goals kernel_rfl
    have q9:(op==9)=false:=by simp[h9]
    by_cases a0:op=10
    · subst a0
      match vs with
      | [] =>
        refine wz ?_;all_goals refine aU ?_
        all_goals kernel_rfl
      | [a] =>
        have e:mx 10 [a] =dW (yT (a.k==0)):=by simp[mx]
        rw[e];(repeat' first|intro hb hp|(refine LW.is ?_;first|refine ag U (cd U U dD U U) ?_|refine s_C (yS _) ?_|refine s_C (jS _) ?_)|refine am ?_|refine al ?_ ?_|fail)
        all_goals refine aU ?_
        all_goals kernel_rfl
      | [a,b] =>
        (repeat' first|intro hb hp|(refine DR.is ?_;first|refine bg U (cd U U dD U U) ?_|refine d_C (yw 10 a b) ?_)|refine am ?_|refine al ?_ ?_|fail)
        all_goals refine aU ?_
        all_goals kernel_rfl
      |a::b::c::t=>
       have a8:((((a::b::c::t).map A3.c).length:Int)==1)=false:=by simp;omega
       have a4:((((a::b::c::t).map A3.c).length:Int)==2)=false:=by simp;omega
       refine wz ?_;all_goals refine aU ?_
       all_goals kernel_rfl
    have bh:(op==10)=false:=by simp[a0]
    match vs with
    | [] =>
      refine wz ?_;all_goals refine aU ?_
      all_goals kernel_rfl
    | [a] =>
      have e:mx op [a] =af:=by simp[mx,h9,a0]
      rw[e];refine wz ?_;all_goals refine aU ?_
      all_goals kernel_rfl
    | [a,b] =>
      (repeat' first|intro hb hp|(refine DR.is ?_;first|refine bg U (cd U U dD U U) ?_|refine d_C (yw op a b) ?_)|refine am ?_|refine al ?_ ?_|fail)
      all_goals refine aU ?_
      all_goals kernel_rfl
    |a::b::c::t=>
     have a4:((((a::b::c::t).map A3.c).length:Int)==2)=false:=by simp;omega
     refine wz ?_;all_goals refine aU ?_
     all_goals kernel_rfl
 termination_by e=>SizeOf.sizeOf e
 decreasing_by
  have:=List.sizeOf_lt_of_mem hx;simp;omega
end Go.Proofs.Y
