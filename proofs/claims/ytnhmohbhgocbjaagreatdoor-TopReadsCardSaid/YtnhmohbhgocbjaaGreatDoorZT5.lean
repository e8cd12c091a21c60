/- Lemmas towards the law. Conditions: each one says its own. -/
import Derived.Test.YtnhmohbhgocbjaaGreatDoorZT4
import Derived.ChangeArms
import Derived.ChangeOld
import Derived.OpenShut
import Derived.Carry
import Derived.SizedLaws
import Derived.MapKept
import Derived.WideLaws
import Derived.JoinedCond
import Derived.Lib.ItoaNum
set_option linter.all false
set_option maxHeartbeats 64000000
set_option maxRecDepth 100000
namespace Go.Abs
open Go.RowKit (Below)
inductive CT where
 |bool
 |int (k:IntKind)
 |str
 |sl (e:TypeId)
 deriving DecidableEq
def vV(P:Program)(fl:TypeId→Option (List CT)):List Field→Nat→Nat→Option (List CT)
 | [],off,tot=>if off=tot then some [] else none
 |f::fs,off,tot=>match fl f.type with
  |some cts=>if f.offset=off∧P.cellsOf f.type=cts.length then(vV P fl fs (off+cts.length) tot).map (cts++ ·) else none
  |none=>none
def tW(P:Program):Nat→TypeId→Option (List CT)
 |0,_=>none
 |n+1,t=>match P.underlying t with
  |some .bool=>some [.bool]
  |some (.int k)=>some [.int k]
  |some .string=>some [.str]
  |some (.slice e)=>some [.sl e]
  |some (.struct fs)=>vV P (tW P n) fs.toList 0 (P.cellsOf t)
  |_=>none
mutual
def IV.sz:IV→Nat
 | .im (.string s)=>s.size+1
 | .im _=>1
 | .sl es=>CN es+1
def CN:List (List IV)→Nat
 | [] =>0
 |e::es=>yZ e+CN es
def yZ:List IV→Nat
 | [] =>0
 |x::xs=>x.sz+yZ xs
end
def uB: ∀(a b:List IV),yZ (a++b)=yZ a+yZ b
 | [],b=>by simp[yZ]
 |x::a,b=>by simp[yZ,uB a b];omega
abbrev Book:=List (TypeId×Nat×List CT)
def Book.has(T:Book):CT→Bool
 | .sl e=>(T.lookup e).isSome
 |_=>true
def Book.ok(P:Program)(T:Book):Bool:=T.all fun p=>decide (tW P 9 p.1=some p.2.2) && decide (P.cellsOf p.1=p.2.2.length) && decide (0<p.2.2.length) && p.2.2.all T.has && decide (P.bytesOf p.1=p.2.1)
inductive Fit (P:Book):CT→IV→Prop
 |bool {b:Bool}:Fit P .bool (.im (.bool b))
 |int {k:IntKind} {n:Int} (h:(Lit.int k n).wf=true):Fit P (.int k) (.im (.int k n))
 |str {s:ByteArray} (h:s.size≤reachBytes):Fit P .str (.im (.string s))
 |sl {e:TypeId} {es:List (List IV)} {n:Nat} {cts:List CT} (hm:es.length*n≤reachBytes) (hl:P.lookup e=some (n,cts)) (h1: ∀(j:Nat) (x:List IV),es[j]?=some x→x.length=cts.length)
   (h: ∀(j:Nat) (x:List IV) (i:Nat) (c:CT) (y:IV),es[j]?=some x→cts[i]?=some c→x[i]?=some y→Fit P c y):Fit P (.sl e) (.sl es)
def Fits(P:Book)(cts:List CT)(xs:List IV):Prop:=xs.length=cts.length∧ ∀(i:Nat) (c:CT) (y:IV),cts[i]?=some c→xs[i]?=some y→Fit P c y
def Reps(φ:Nat→Nat)(w:World)(xs:List IV)(cs:List Value):Prop:=xs.length=cs.length∧ ∀(i:Nat) (y:IV) (v:Value),xs[i]?=some y→cs[i]?=some v→RepI φ w y v
def uv{α β:Type}{R:α→β→Prop}{a a':List α}{b b':List β}(hl:a.length=b.length)
 (h: ∀(i:Nat) (x:α) (y:β),a[i]?=some x→b[i]?=some y→R x y) (h': ∀(i:Nat) (x:α) (y:β),a'[i]?=some x→b'[i]?=some y→R x y):
 ∀(i:Nat) (x:α) (y:β),(a++a')[i]?=some x→(b++b')[i]?=some y→R x y:=by
 intro i x y hx hy;by_cases hi:i<a.length
 · rw[gL hi] at hx;rw[gL C] at hy;exact h i x y hx hy
 · rw[List.getElem?_append_right C] at hx;rw[List.getElem?_append_right C,←hl] at hy;exact h' _ x y hx hy
def Fits.append{P:Book}{a b:List CT}{x y:List IV}(h:Fits P a x)(k:Fits P b y):Fits P (a++b) (x++y):=
 ⟨by simp[h.1,k.1],uv h.1.symm h.2 k.2⟩
def Reps.append{φ:Nat→Nat}{w:World}{x y:List IV}{a b:List Value}(h:Reps φ w x a)(k:Reps φ w y b):Reps φ w (x++y) (a++b):=
 ⟨by simp[h.1,k.1],uv h.1 h.2 k.2⟩
def Fits.nil{P:Book}:Fits P [] []:=⟨rfl,fun i c y h=>by simp at h⟩
def Reps.nil{φ:Nat→Nat}{w:World}:Reps φ w [] []:=⟨rfl,fun i c y h=>by simp at h⟩
def Fits.one{P:Book}{c:CT}{x:IV}(h:Fit P c x):Fits P [c] [x]:=⟨rfl,fun i c' y h1 h2=>by
 cases i with
 |zero=>simp at h1 h2;subst h1;subst h2;exact h
 |succ i=>simp at h1⟩
def Reps.one{φ:Nat→Nat}{w:World}{x:IV}{v:Value}(h:RepI φ w x v):Reps φ w [x] [v]:=⟨rfl,fun i c' y h1 h2=>by
 cases i with
 |zero=>simp at h1 h2;subst h1;subst h2;exact h
 |succ i=>simp at h1⟩
def fP(w:World)(b:Nat):Nat:=match w.heap[b]? with
 |some (.cells c _ _)=>c.size
 |_=>0
def jV{w:World}{b:Nat}(h:w.heap.size≤b):fP w b=0:=by
 have:w.heap[b]?=none:=by simpa using h
 simp[fP,this]
def iZ{w:World}{b o:Nat}{v:Value}(h:w.cell? ⟨b,o,none⟩=some v):o<fP w b:=by
 unfold World.cell? at h;unfold fP;split at h
 · rename_i c _ _ hc;simp only at hc;rw[hc];simp at h;exact(Array.getElem?_eq_some_iff.1 h).1
 · cases h
section
variable {H:Type}{enc:TypeId×Value→H}{P:Program}{w:World}
def jr(f:DataW H→Nat)(ds:List (DataW H)):Nat:=(ds.map f).foldr (· + ·) 0
structure Bulk (f:DataW H→Nat):Prop where
 str: ∀s:List UInt8,s.length+1≤f (.lit (.string s))
 lit: ∀l:Lit,1≤f (.lit l)
 nil:1≤f .nil
 slice: ∀es sp:List (DataW H),jr f es+1≤f (.slice es sp)
 agg: ∀es:List (DataW H),jr f es≤f (.agg es)
def tD{α:Type}{R:Nat→α→Prop}: ∀(n:Nat),(∀i,i<n→ ∃x,R i x)→ ∃l:List α,l.length=n∧ ∀(i:Nat) (x:α),l[i]?=some x→R i x
 |0,_=>⟨[],rfl,fun i x h=>by simp at h⟩
 |n+1,h=>by
  obtain⟨l,hl,hr⟩:=tD n (fun i hi=>h i C);obtain⟨x,hx⟩:=h n C;refine⟨l++ [x],by simp[hl],fun i y hy=> ?_⟩;by_cases hi:i<l.length
  · rw[gL hi] at hy;exact hr i y hy
  · rw[List.getElem?_append_right C] at hy;have:i - l.length=0:=by
     have:=(gS hy).1;simp at this;omega
    rw[this] at hy;simp at hy;subst hy;have:i=n:=C;subst this;exact hx
def Ev{f:DataW H→Nat}: ∀{es:List (List IV)} {ys:List (DataW H)},es.length=ys.length→(∀(i:Nat) (e:List IV) (y:DataW H),es[i]?=some e→ys[i]?=some y→yZ e≤f y)→CN es≤jr f ys
 | [],ys,_,_=>by simp[CN]
 |e::es,[],h,_=>by simp at h
 |e::es,y::ys,hl,h=>by
  have h0:=h 0 e y U U;have:=Ev (es:=es) (ys:=ys) (f:=f) (by simpa using hl) (fun i e y h1 h2=>h (i+1) e y (by simpa using h1) (by simpa using h2));simp[CN,jr] at this⊢;omega
def Book.get{T:Book}(hT:T.ok P=true){e:TypeId}{n:Nat}{cts:List CT}(h:T.lookup e=some (n,cts)):tW P 9 e=some cts∧P.cellsOf e=cts.length∧0<cts.length∧cts.all T.has=true∧P.bytesOf e=n:=by
 have:=aT hT _ (dZ h);simp only[aE,decide_eq_true_eq] at this;exact⟨this.1.1.1.1,this.1.1.1.2,this.1.1.2,this.1.2,this.2⟩
def nU{e:TypeId}: ∀{ds:List (DataW H)} {i:Nat} {d:DataW H},ds[i]?=some d→(DataW.weightsAll P e ds).all (· ≤reachBytes)=true→(DataW.weights P e d).all (· ≤reachBytes)=true
 | [],i,d,h,_=>by simp at h
 |d0::ds,0,d,h,hw=>by
  simp only[DataW.weightsAll,List.all_append,aE] at hw;simp at h;subst h;exact hw.1
 |d0::ds,i+1,d,h,hw=>by
  simp only[DataW.weightsAll,List.all_append,aE] at hw;exact nU (by simpa using h) hw.2
def JE(P:Program)(t:TypeId)(d:DataW H):Prop:=(DataW.weights P t d).all (· ≤reachBytes)=true
def vl{f:DataW H→Nat}(hf:Bulk f){T:Book}(hT:T.ok P=true): ∀(fuel n:Nat) (t:TypeId) (cs:List Value) (x:DataW H×List MemPlace) (cts:List CT),
 DataW.trod enc P w 0 (fun _=>true) true fuel t cs=some x→tW P n t=some cts→cts.all T.has=true→JE P t x.1→
 ∃xs:List IV,Fits T cts xs∧Reps (fP w) w xs cs∧yZ xs≤f x.1:=by
 intro fuel;induction fuel with
 |zero=>intro n t cs x cts h;simp[DataW.trod] at h
 |succ fuel ih=>
  intro n t cs x cts h hfl hin hwt;cases n with
  |zero=>simp[tW] at hfl
  |succ n=>
   unfold tW at hfl;split at hfl
   · rename_i hu;obtain⟨b,rfl,rfl⟩:=DataW.trod_bool hu h;cases hfl;exact⟨[.im (.bool b)],.one .bool,.one (.im U),by simp[yZ,IV.sz,hf.lit]⟩
   · rename_i k hu;obtain⟨m,rfl,rfl,hw⟩:=DataW.trod_int hu h;cases hfl;exact⟨[.im (.int k m)],.one (.int hw),.one (.im U),by simp[yZ,IV.sz,hf.lit]⟩
   · rename_i hu;obtain⟨s,rfl,rfl,hw⟩:=DataW.trod_string hu h;cases hfl;have e:s.data.toList.length=s.size:=Array.length_toList;have hwl:s.size≤reachBytes:=by simpa[JE,DataW.weights,e] using hwt
     refine⟨[.im (.string s)],.one (.str hwl),.one (.im U),?_⟩;have:=hf.str s.data.toList;simp only[yZ,IV.sz,Nat.add_zero];rw[e] at this;exact this
   · rename_i e hu;cases hfl;simp only[List.all_cons,List.all_nil,Bool.and_true,Book.has] at hin;obtain⟨⟨bte,cte⟩,hcte⟩:=Option.isSome_iff_exists.1 hin;obtain⟨g1,g2,g3,g4,g5⟩:=Book.get hT hcte;rcases DataW.trod_slice hu h with⟨rfl,rfl⟩|⟨a,len,cap,elems,rest,n',hn',rfl,rfl,_,hlc,hcm,hel,hget,_,_⟩
     · exact⟨[.sl []],.one (.sl sP hcte (fun j x hx=>by simp at hx) (fun j x i c y hx=>by simp at hx)),.one .nil,by simp[yZ,IV.sz,CN,hf.nil]⟩
     · obtain rfl:n'=fuel:=C;unfold JE at hwt;simp only[DataW.weights,hu,List.all_cons,List.all_append,aE,decide_eq_true_eq,g5,lM] at hwt;obtain⟨hw0,hw1,_⟩:=hwt;have each: ∀i,i<len→ ∃xv:List IV×List Value,Fits T cte xv.1∧Reps (fP w) w xv.1 xv.2∧(∃y,elems[i]?=some y∧yZ xv.1≤f y.1)∧xv.2.length=cte.length∧ ∀j,j<cte.length→w.cell? ((a.add (i*cte.length)).add j)=xv.2[j]?:=by
        intro i hi;have h1:=hget i hi;have:i<elems.length:=C;rw[gG this,g2] at h1;obtain⟨cs',hc1,hc2⟩:=Option.bind_eq_some_iff.1 h1;obtain⟨xs,k1,k2,k3⟩:=ih 9 e cs' _ cte hc2 g1 g4 (nU (i:=i) (by rw[gP,gG this];rfl) hw1);obtain⟨_,hc3,hc4⟩:=World.cells?_some hc1;exact⟨(xs,cs'),k1,k2,⟨_,gG this,k3⟩,hc3,hc4⟩
       obtain⟨l,hl,hr⟩:=tD len each;have hes:(l.map (·.1)).length=len:=by simp[hl]
       refine⟨[.sl (l.map (·.1))],.one (.sl (by rw[hes,←hel];exact Nat.le_trans (mR _ (Nat.le_add_right _ _)) hw0) hcte ?_ ?_),?_,?_⟩
       · intro j x hx;simp only[gP,Option.map_eq_some_iff] at hx;obtain⟨xv,hxv,rfl⟩:=hx;exact(hr j xv hxv).1.1
       · intro j x i c y hx hc hy;simp only[gP,Option.map_eq_some_iff] at hx;obtain⟨xv,hxv,rfl⟩:=hx;exact(hr j xv hxv).1.2 i c y hc hy
       · refine .one ?_;by_cases h0:len=0
         · subst h0;obtain rfl:l= []:=nZ hl;exact .emp (fun h=>by cases h) hcm
         · obtain⟨xv0,hxv0⟩: ∃xv,l[0]?=some xv:=⟨_,gG C⟩
           have hc0:=(hr 0 xv0 hxv0).2.2.2.2 0 g3;have hl0:=(hr 0 xv0 hxv0).2.2.2.1;rw[gG C] at hc0;obtain⟨b,o,spot⟩:=a;have hsp:spot=none:=by simpa[Addr.add] using World.cell?_spot hc0
           subst hsp;have hlen:len=(l.map (·.1)).length:=hes.symm;rw[hlen];refine .sl (k:=cte.length) (fun i j=>((l.getD i ([],[])).2).getD j undef) C hcm ?_ ?_ ?_ ?_
           · intro i e' he;simp only[gP,Option.map_eq_some_iff] at he;obtain⟨xv,hxv,rfl⟩:=he;exact(hr i xv hxv).1.1
           all_goals
            intro i e' j x' he hx';simp only[gP,Option.map_eq_some_iff] at he;obtain⟨xv,hxv,rfl⟩:=he;obtain⟨q1,q2,q3,q4,q5⟩:=hr i xv hxv;have hj:j<cte.length:=by rw[←q1.1];exact(gS hx').1
            have hv:xv.2[j]?=some (xv.2.getD j undef):=by
             rw[List.getD,gG C];rfl
            have hcell:=q5 j hj;rw[aK,aK,hv] at hcell;have hgd:(l.getD i ([],[]))=xv:=by rw[List.getD,hxv];rfl
            try rw[hgd]
            first
             |exact iZ hcell
             |exact hcell
             |exact q2.2 j x' _ hx' hv
       · have h1:CN (l.map (·.1))≤jr f (elems.map (·.1)):=Ev (by simp[hl,hel]) (fun i e' y he hy=>by
          simp only[gP,Option.map_eq_some_iff] at he hy;obtain⟨xv,hxv,rfl⟩:=he;obtain⟨y',hy',rfl⟩:=hy;obtain⟨_,_,⟨y2,hy2,hle⟩,_,_⟩:=hr i xv hxv;rw[hy'] at hy2;cases hy2;exact hle)
         have h2:=hf.slice (elems.map (·.1)) (rest.map (·.1));simp only[yZ,IV.sz,Nat.add_zero];omega
   · rename_i fs hu;obtain⟨xs,n',hn',rfl,hcl,hxl,hget⟩:=DataW.trod_struct hu h;obtain rfl:n'=fuel:=C;have key: ∀(fl:List Field) (yl:List (DataW H×List MemPlace)) (off:Nat) (cts:List CT),fl.length=yl.length→vV P (tW P n) fl off (P.cellsOf t)=some cts→cts.all T.has=true→off≤P.cellsOf t→(DataW.weightsEach P (fl.map (·.type)) (yl.map (·.1))).all (· ≤reachBytes)=true→
      (∀(i:Nat) (f:Field),fl[i]?=some f→DataW.trod enc P w 0 (fun _=>true) true n' f.type ((cs.drop f.offset).take (P.cellsOf f.type))=yl[i]?)→
      ∃zs:List IV,Fits T cts zs∧Reps (fP w) w zs (cs.drop off)∧yZ zs≤jr f (yl.map (·.1)):=by
      intro fl;induction fl with
      |nil=>
       intro yl off cts hlen hfs _ _ _ _;obtain rfl:yl= []:=nZ hlen.symm;unfold vV at hfs;split at hfs
       · rename_i he;cases hfs;refine⟨[],.nil,?_,by simp[yZ,jr]⟩;rw[List.drop_of_length_le C];exact .nil
       · cases hfs
      |cons fd fl ihf=>
       intro yl off cts hlen hfs hin' hoff hwe hg;cases yl with
       |nil=>simp at hlen
       |cons y yl=>
        unfold vV at hfs;split at hfs
        · rename_i c1 hc1;split at hfs
          · rename_i hcond;obtain⟨c2,hc2,rfl⟩:=Option.map_eq_some_iff.1 hfs;simp only[List.all_append,aE] at hin';simp only[List.map_cons,DataW.weightsEach,List.all_append,aE] at hwe;have h0:=hg 0 fd U;rw[hcond.1,hcond.2] at h0;obtain⟨z1,k1,k2,k3⟩:=ih n fd.type _ y c1 h0 hc1 hin'.1 hwe.1;have hz:c1.length=((cs.drop off).take c1.length).length:=k1.1.symm.trans k2.1;have hle:off+c1.length≤P.cellsOf t:=by
             simp at hz;omega
            obtain⟨z2,m1,m2,m3⟩:=ihf yl (off+c1.length) c2 (by simpa using hlen) hc2 hin'.2 hle hwe.2 (fun i fd' hfd=>by simpa using hg (i+1) fd' (by simpa using hfd));refine⟨z1++z2,k1.append m1,?_,?_⟩
            · have:cs.drop off=(cs.drop off).take c1.length++cs.drop (off+c1.length):=by
               rw[←List.drop_drop,List.take_append_drop]
              rw[this];exact k2.append m2
            · rw[uB];simp[jr] at m3⊢;omega
          · cases hfs
        · cases hfs
     obtain⟨zs,q1,q2,q3⟩:=key fs.toList xs 0 cts (by simp[hxl]) hfl hin (Nat.zero_le _) (by simpa[JE,DataW.weights,hu] using hwt) (fun i fd hfd=>hget i fd (by simpa using hfd));exact⟨zs,q1,by simpa using q2,Nat.le_trans q3 (hf.agg _)⟩
   · cases hfl
end
def CallG.below{gs:au}{P:Program}{f:FuncId}{args:List AV}{v:Value}(hv:v.oneCell'=true)
 (h: ∀(E:Env) (w:World) (us:List Value),RelL E w args us→Glob gs E w→Calls P f us.toArray w fun e w'=>e= .returned v∧Below w.heap.size w w'):CallG gs P f args [] [] [] (.iv (.im v)):=by
 intro E w us hr hh hG;refine(h E w us hr hG).mono ?_;rintro e w' ⟨he,hb⟩;refine⟨v,E,he,.iv (.im hv),⟨fun id b h=>by simp at h,fun id t h=>by simp at h,fun i j b b' h=>by simp at h,fun i j t t' g h=>by simp at h,fun i j b t h=>by simp at h,fun i b h=>by simp at h,fun i t g h=>by simp at h,
  fun b hb'=>hh.new b (Nat.le_trans hb.size hb'),fun b _=>rfl,fun id h=>by simp[keys] at h,nL hb⟩⟩
def Glob.sub{gs gs':au}{E:Env}{w:World}(hs: ∀p∈gs',p∈gs)(h:Glob gs E w):Glob gs' E w:=
 ⟨⟨h.1.1,fun g xs hm=>h.1.2 g xs (hs _ hm)⟩,fun g xs hm=>h.2 g xs (hs _ hm)⟩
def RelL.im1{E:Env}{w:World}{v:Value}{us:List Value}(h:RelL E w [.iv (.im v)] us):us= [v]:=by
 obtain⟨hl,h⟩:=h
 match us,hl with
 | [u],_=>rw[(h 0 _ u U U).iv_im]
def HInv.aside{c:Ctx}{E:Env}{bx:List (Nat×Box)}{tk:List (Nat×Tok)}{w w':World}{g:Nat}(h:HInv c E bx tk w)(hk:KeptBut (· =g) w w')(hg:c.w0.heap.size≤g)(hφ:E.φ g=0)
 (hb: ∀(id:Nat) (b:Box),bx.lookup id=some b→b.cs≠ [] →E.ρ id≠g) (ht: ∀(j:Nat) (t:Tok),tk.lookup j=some t→(E.η j).ownBlock≠some g):
 HInv c E bx tk w'∧ ∀(x:AV) (u:Value),RepA E w x u→RepA E w' x u:=by
 have hkp:Keeps E.φ w w':=fun b o ho=>by
  have hlt:b<w.heap.size:=by
   rcases Nat.lt_or_ge b w.heap.size with h1|h1
   · exact h1
   · rw[h.new b h1] at ho;cases ho
  exact World.cell?_of_block (hk.block b hlt (fun e=>by rw[e,hφ] at ho;cases ho))
 have mono: ∀(x:AV) (u:Value),RepA E w x u→RepA E w' x u:=fun x u hr=>RepA.mono (h:=hr) hkp (fun _=>Nat.le_refl _) (fun _ _=>⟨rfl,rfl⟩)
 refine⟨⟨fun id b hi hn=> ?_,fun j t hj=> ?_,h.bb,h.tt,h.bt,h.own,h.ownt,fun b hb'=>h.new b (Nat.le_trans hk.size hb'),h.old,h.ins,?_⟩,mono⟩
 · have hlt:=sW (h.box id b hi hn);obtain⟨h0,arr,ha,hl,h1,hr,hq⟩:=h.box id b hi hn;exact⟨h0,arr,by rw[hk.block _ hlt (hb id b hi hn)];exact ha,hl,h1,fun i x u hx hu=>mono x u (hr i x u hx hu),hq⟩
 · rcases h.tok j t hj with hn|⟨g',n,cap,cur,hv,hh,rest⟩
   · exact .inl hn
   · refine .inr ⟨g',n,cap,cur,hv,?_,rest⟩;have hlt:g'<w.heap.size:=(Array.getElem?_eq_some_iff.1 hh).1;rw[hk.block g' hlt (fun e=>ht j t hj (by rw[hv,e];rfl))];exact hh
 · exact h.kept.next hk.os hk.tape hk.output hk.size (fun k hk' _=>hk.block k (Nat.lt_of_lt_of_le hk' h.kept.size) C) (fun h=>False.elim h)
def ML(es:Array MapEntry)(l:List (Int×Int)):Prop:=es.toList.map (fun e=>(e.key,e.val))=l.map (fun p=>(Value.int .i64 p.1,Value.int .i64 p.2))
def lookM(l:List (Int×Int))(k:Int):Option Int:=(l.find? (fun p=>k==p.1)).map (·.2)
def nA(k:Int): ∀(es:List MapEntry) (l:List (Int×Int)) (i:Nat),es.map (fun e=>(e.key,e.val))=l.map (fun p=>(Value.int .i64 p.1,Value.int .i64 p.2))→
 ∃r,Instr.findNow (.int .i64) (.int .i64 k) es i=some r∧r.map Prod.snd=(lookM l k).map (Value.int .i64)
 | [],[],i,_=>⟨none,rfl,rfl⟩
 | [],p::l,i,h=>by simp at h
 |e::es,[],i,h=>by simp at h
 |e::es,p::l,i,h=>by
  simp only[List.map_cons,List.cons.injEq,Prod.mk.injEq] at h;obtain⟨⟨h1,h2⟩,h3⟩:=h;cases hq:k==p.1 with
  |true=>
   refine⟨some (i,e.val),by simp only[Instr.findNow,h1,Instr.sameNow,if_true];rw[hq],?_⟩;rw[lookM,List.find?_cons,hq,h2];rfl
  |false=>
   obtain⟨r,hr,hv⟩:=nA k es l (i+1) h3;refine⟨r,by simp only[Instr.findNow,h1,Instr.sameNow,if_true];rw[hq];exact hr,?_⟩;rw[hv,lookM,lookM,List.find?_cons,hq]
structure MapTy (P:Program) (t:TypeId):Prop where
 h: ∃kt et,P.underlying t=some (.map kt et)∧P.underlying kt=some (.int .i64)∧(P.info? et).bind (·.zero)=some (.int .i64 0)
def HG{P:Program}{w:World}{t:TypeId}{z:Value}(h:(P.info? t).bind (·.zero)=some z):(zeroValue t).run P w= .ok z w:=by
 cases hq:P.info? t with
 |none=>rw[hq] at h;simp at h
 |some i=>
  rw[hq] at h;simp only[Option.bind_some] at h;simp[zeroValue,typeInfo,Sem.run_bind,run_program,Result.andThen,hq,h]
section
variable {P:Program}{c:Ctx}{st:St}{ops:Array Oper}{Q:Exit→Act→World→Prop}{rest:List Oper}{o:Oper}
def LM(c:Ctx)(b:Nat)(l:List (Int×Int))(st:St)(X:Act→World→Prop):Prop:=
 ∀(a:Act) (w:World) (E:Env),Inv c E st a w→c.w0.heap.size≤b→E.φ b=0→(∃es clk,w.heap[b]?=some (.map es clk)∧ML es l)→X a w
def LM.make{t:TypeId}{d:Nat}(ho:o.op= .makeMap t none)(hg:o.guard=none)(hd:o.dst=some d)(hlt:Nat.ble (d+1) c.nt=true)
 (h: ∀b:Nat,LM c b [] ⟨(d,.iv (.im (.map (some b))))::st.fr,st.bx,st.tk⟩ (wpList P ops Q rest)):L c st (wpList P ops Q (o::rest)):=by
 rintro a w ⟨E,hi⟩;have hrun:(execOp a.eval o).run P w= .ok (.value (.map (some w.heap.size))) (w.alloc (.map #[] 0)):=by
  simp[execOp,ho,Instr.makeMap,Result.andThen]
 refine wpList_plain hg (fun K hK=>en hrun (hK _ _ ?_));rw[hd];have hal:=MapKept.heap_alloc w (.map #[] 0);have hkb:KeptBut (· =w.heap.size) w (w.alloc (.map #[] 0)):=⟨rfl,rfl,rfl,by show w.heap.size≤(w.heap.push _).size;simp,fun k hk _=>hal.2 k hk,fun _=>Nat.le_refl _⟩
 obtain⟨h1,h2⟩:=hi.heap.aside hkb hi.heap.kept.size (hi.heap.new _ nR) (fun id b hb hn=>Nat.ne_of_lt (sW (hi.heap.box id b hb hn))) (fun j t' hj e=>Nat.lt_irrefl _ (jx (hi.heap.tok j t' hj) e));exact h w.heap.size _ _ E (Inv.put ⟨hi.defers,hi.size,fun s v hs=>h2 _ _ (hi.slot s v hs),h1⟩ (bT hlt) (.iv (.im U))) hi.heap.kept.size (hi.heap.new _ nR) ⟨#[],0,hal.1,rfl⟩
def LM.insert{t:TypeId}{b:Nat}{l:List (Int×Int)}{x y z:Operand}{k v:Int}(ho:o.op= .insert t x y z)(hg:o.guard=none)(hd:o.dst=none)(hx:st.ev x= .iv (.im (.map (some b))))(hy:st.ev y=aI k)(hz:st.ev z=aI v)
 (ht:MapTy P t) (hnew:lookM l k=none) (h:LM c b (l++ [(k,v)]) st (wpList P ops Q rest)):LM c b l st (wpList P ops Q (o::rest)):=by
 rintro a w E hi hb hφ ⟨es,clk,hh,he⟩;obtain⟨kt,et,t1,t2,t3⟩:=ht.h;obtain⟨r,hr,hrv⟩:=nA k es.toList l 0 he;rw[hnew] at hrv;have hr0:r=none:=by cases r with|none=>rfl|some _=>cases hrv
 subst hr0;have e1:a.eval x= .map (some b):=by have:=hi.ev x;rw[hx] at this;exact this.iv_im
 have e2:a.eval y= .int .i64 k:=by have:=hi.ev y;rw[hy] at this;exact this.iv_im
 have e3:a.eval z= .int .i64 v:=by have:=hi.ev z;rw[hz] at this;exact this.iv_im
 have hkey:MapKept.IsKey (.int .i64) (.int .i64 k):=rfl;have hrun:(execOp a.eval o).run P w= .ok .skip {w with heap:=w.heap.setIfInBounds b (.map (es.push {key:= .int .i64 k,val:= .int .i64 v,born:=clk}) (clk+1))}:=by
  simp[execOp,ho,e1,e2,e3,Instr.mapUpdate,run_underlying t1,MapKept.run_getObj_map hh,MapKept.run_checkKey t2 hkey,MapKept.run_findKey t2 hr,MapKept.run_setObj_map _ hh,Result.andThen]
 refine wpList_plain hg (fun K hK=> ?_);unfold Oper.wp;rw[hrun];simp only[Oper.upon_skip,hd,Act.put];refine hK _ _ ?_;have hs:=MapKept.heap_set (o':= .map (es.push {key:= .int .i64 k,val:= .int .i64 v,born:=clk}) (clk+1)) hh;have hkb:KeptBut (· =b) w {w with heap:=w.heap.setIfInBounds b (.map (es.push {key:= .int .i64 k,val:= .int .i64 v,born:=clk}) (clk+1))}:=⟨rfl,rfl,rfl,by simp,fun k' _ hk=>hs.2 k' hk,fun _=>Nat.le_refl _⟩
 obtain⟨h1,h2⟩:=hi.heap.aside hkb hb hφ (fun id bb hbb hn e=>by
  obtain⟨_,arr,ha,_⟩:=hi.heap.box id bb hbb hn;rw[e,hh] at ha;cases ha) (fun j t' hj e=>by
  rcases hi.heap.tok j t' hj with hn|⟨g',n,cap,cur,hv,hh',_⟩
  · rw[hn] at e;simp[Value.ownBlock] at e
  · rw[hv] at e;simp[Value.ownBlock] at e;rw[e,hh] at hh';cases hh')
 refine h a _ E ⟨hi.defers,hi.size,fun s v hs=>h2 _ _ (hi.slot s v hs),h1⟩ hb hφ ⟨_,_,hs.1,?_⟩;unfold ML at he⊢;simp[he]
structure Link (c c':Ctx):Prop where
 nt:c'.nt=c.nt
 own: ∀id∈c'.ins,c.w0.heap.size≤c'.E0.ρ id∨c.M (c'.E0.ρ id)
 ins: ∀id∈c.ins,id∈c'.ins∧c'.E0.ρ id=c.E0.ρ id∧c'.E0.η id=c.E0.η id
 old: ∀b,b<c.w0.heap.size→c'.E0.φ b=c.E0.φ b
 kept:KeptBut c.M c.w0 c'.w0
def Fp(c:Ctx)(b:Nat)(l:List (Int×Int)):Prop:=(∃es clk,c.w0.heap[b]?=some (.map es clk)∧ML es l)∧ ¬c.M b
def mq{c':Ctx}{X:Act→World→Prop}(hk:Link c c')(h:L c st X):L c' st X:=by
 rintro a w ⟨E,hi⟩;refine h a w ⟨E,hi.defers,hi.size.trans hk.nt,hi.slot,hi.heap.box,hi.heap.tok,hi.heap.bb,hi.heap.tt,hi.heap.bt,fun i b hl hn=> ?_,fun j t g hj hg=>Nat.le_trans hk.kept.size (hi.heap.ownt j t g hj hg),hi.heap.new,fun b hb=> ?_,fun id hid=> ?_,?_⟩
 · rcases hi.heap.own i b hl hn with h1|⟨id,hid,e,_⟩
   · exact .inl (Nat.le_trans hk.kept.size h1)
   · rw[←e];exact hk.own id hid
 · rw[hi.heap.old b (Nat.lt_of_lt_of_le hb hk.kept.size),hk.old b hb]
 · obtain⟨k1,k2,k3⟩:=hk.ins id hid;obtain⟨e1,e2,e3⟩:=hi.heap.ins id k1;exact⟨e1.trans k2,e2.trans k3,e3⟩
 · refine hk.kept.next hi.heap.kept.os hi.heap.kept.tape hi.heap.kept.output hi.heap.kept.size (fun k hk' hm=>hi.heap.kept.block k (Nat.lt_of_lt_of_le hk' hk.kept.size) (fun hM=> ?_)) (fun h=>False.elim h);obtain⟨id,hid,e,_⟩:=hM;rcases hk.own id hid with h1|h1
   · rw[e] at h1;omega
   · rw[e] at h1;exact hm h1
def Yields.lookM{t:TypeId}{b:Nat}{l:List (Int×Int)}{x y:Operand}{k:Int}(ho:o.op= .lookup t x y true)(ht:MapTy P t)(hm:Fp c b l)(hx:st.ev x= .iv (.im (.map (some b))))(hy:st.ev y=aI k):
 Yields P c st o (.tup [aI ((Abs.lookM l k).getD 0),aB (Abs.lookM l k).isSome]):=fun E a w hi=>by
 obtain⟨⟨es,clk,hh,he⟩,hM⟩:=hm;obtain⟨kt,et,t1,t2,t3⟩:=ht.h;have hlt:b<c.w0.heap.size:=(Array.getElem?_eq_some_iff.1 hh).1;rw[←hi.heap.kept.block b hlt hM] at hh;obtain⟨r,hr,hrv⟩:=nA k es.toList l 0 he;have e1:a.eval x= .map (some b):=by have:=hi.ev x;rw[hx] at this;exact this.iv_im
 have e2:a.eval y= .int .i64 k:=by have:=hi.ev y;rw[hy] at this;exact this.iv_im
 have hkey:MapKept.IsKey (.int .i64) (.int .i64 k):=rfl;have hz:=HG (w:=w) t3;refine⟨.tuple #[.int .i64 ((Abs.lookM l k).getD 0),.bool (Abs.lookM l k).isSome],?_,.tup U (fun i cc u hc hu=> ?_)⟩
 · cases r with
   |none=>
    have:Abs.lookM l k=none:=by cases hl:Abs.lookM l k with|none=>rfl|some _=>rw[hl] at hrv;cases hrv
    simp[execOp,ho,e1,e2,Instr.lookup,run_underlying t1,MapKept.run_getObj_map hh,MapKept.run_checkKey t2 hkey,MapKept.run_findKey t2 hr,hz,Result.andThen,this]
   |some q=>
    obtain⟨j,v⟩:=q;cases hl:Abs.lookM l k with
    |none=>rw[hl] at hrv;cases hrv
    |some v'=>
     rw[hl] at hrv;simp only[Option.map_some,Option.some.injEq] at hrv;subst hrv;simp[execOp,ho,e1,e2,Instr.lookup,run_underlying t1,MapKept.run_getObj_map hh,MapKept.run_checkKey t2 hkey,MapKept.run_findKey t2 hr,Result.andThen]
 · match i,hc,hu with
   |0,hc,hu=>simp at hc hu;subst hc;subst hu;exact .iv (.im U)
   |1,hc,hu=>simp at hc hu;subst hc;subst hu;exact .iv (.im U)
   |n+2,hc,hu=>simp at hc
end
section
variable {P:Program}{c:Ctx}{fr:List (Nat×AV)}{bx:List (Nat×Box)}{tk:List (Nat×Tok)}{ops:Array Oper}{Q:Exit→Act→World→Prop}{rest:List Oper}
 {d:Nat} {ty:TypeId} {pos:String} {aft:Array Edge} {st:St}
def LW.mk(h:L c st (wpList P ops Q rest)):LW P c st ops Q rest:=by unfold LW;exact h
def VV.mk{o:Oper}{v:AV}{tb:List Nat}(h: ∀st':St,(∀x∈o.op.operands,st'.ev x=st.ev x)→(∀id∈tb,st'.bx.lookup id=st.bx.lookup id)→Yields P c st' o v):VV P c st o v tb:=by unfold VV;exact h
def Em{gs:au}{b:Nat}{l:List (Int×Int)}{X:Act→World→Prop}(hG:Glob gs c.E0 c.w0)(htk:st.tk= [])(hlive:st.bx.all (fun p=> !p.2.cs.isEmpty)=true)
 (h: ∀c':Ctx,c'.ins=keys st.bx→Link c c'→Fp c' b l→Glob gs c'.E0 c'.w0→L c' st X):LM c b l st X:=by
 rintro a w E hi hb hφ ⟨es,clk,hh,he⟩;have hne: ∀(id:Nat) (bb:Box),st.bx.lookup id=some bb→bb.cs≠ []:=fun id bb hl=>by
  have:=aT hlive _ (dZ hl);simpa using this
 refine h ⟨c.nt,w,E,keys st.bx⟩ U ⟨rfl,fun id hid=> ?_,fun id hid=> ?_,fun b' hb'=>hi.heap.old b' hb',hi.heap.kept⟩ ⟨⟨es,clk,hh,he⟩,?_⟩ (hG.keep hi) a w ⟨E,hi.defers,hi.size,hi.slot,?_⟩
 · obtain⟨bb,hl⟩:=it hid;exact hi.heap.own id bb hl (hne id bb hl)
 · obtain⟨e1,e2,e3⟩:=hi.heap.ins id hid;obtain⟨bb,hl⟩:=Option.isSome_iff_exists.1 e3;exact⟨mQ hl,e1,e2⟩
 · rintro ⟨id,hid,e,_⟩;obtain⟨bb,hl⟩:=it hid;obtain⟨_,arr,ha,_⟩:=hi.heap.box id bb hl (hne id bb hl);dsimp only at e;rw[e,hh] at ha;cases ha
 · refine⟨hi.heap.box,hi.heap.tok,hi.heap.bb,hi.heap.tt,hi.heap.bt,fun i bb hl hn=> .inr ⟨i,mQ hl,rfl,(hi.heap.box i bb hl hn).1⟩,fun j t g hj=>by rw[htk] at hj;simp at hj,hi.heap.new,fun _ _=>rfl,fun id hid=> ?_,KeptBut.refl _ _⟩;obtain⟨bb,hl⟩:=it hid;exact⟨rfl,rfl,by rw[hl];rfl⟩
def jk{t:TypeId}{b:Nat}{l:List (Int×Int)}{x y:Operand}{k:Int}{v:AV}(ht:MapTy P t)(hm:Fp c b l)(hx:St.ev ⟨fr,bx,tk⟩ x= .iv (.im (.map (some b))))(hy:St.ev ⟨fr,bx,tk⟩ y=aI k)(hv: .tup [aI ((Abs.lookM l k).getD 0),aB (Abs.lookM l k).isSome] =v):
 VV P c ⟨fr,bx,tk⟩ ⟨some d,.lookup t x y true,ty,pos,aft,none⟩ v []:=
 .mk fun st' kE kL=>hv▸ .lookM U ht hm ((kE x oO).trans hx) ((kE y oO).trans hy)
def Sub.bslE(id off:Nat):Sub (.bsl id off 0 0) .emp:=fun _ _ _ h=>by
 obtain⟨o,hu,_⟩:=h.bsl_inv;exact .emp hu
def qF{t t' e e':TypeId}{k k':Nat}{x y:Operand}{v:AV}[hs:SliceTy P t e k][hs':SliceTy P t' e' k'](hx:St.ev ⟨fr,bx,tk⟩ x=v)(hv:Sub v .emp)(hy:(St.ev ⟨fr,bx,tk⟩ y).sl?=some []):
 VV P c ⟨fr,bx,tk⟩ ⟨some d,.call {callee:= .builtin .append,args:= #[x,y],argTypes:= #[t,t']},ty,pos,aft,none⟩ .emp []:= .mk fun st' kE kL E a w hi=>by
 obtain⟨hu,inf,hinf,hsz⟩:=aH hs.h;obtain⟨hu',_⟩:=aH hs'.h;have h0:=hi.ev x;rw[(kE x oO).trans hx] at h0;have h0:=hv _ _ _ h0;have h2:RepI E.φ w (.sl []) (a.eval y):=(hi.ev y).sl ((congrArg AV.sl? (kE y oO)).trans hy);have hy2:(Builtin.lenOf (a.eval y)).run P w= .ok 0 w∧(Builtin.firstCells inf.size 0 (a.eval y)).run P w= .ok #[] w:=by
  generalize a.eval y=uy at h2;rcases h2.sl_inv with⟨hq,_⟩|⟨ad,cap,hq,_,_,_⟩|⟨b,o',cap,k',f,hq,hc,_⟩
  · rw[hq];exact⟨rfl,by simp[Builtin.firstCells]⟩
  · rw[hq];exact⟨rfl,by simp[Builtin.firstCells,loadCells,loadCellsFrom]⟩
  · rw[hq];exact⟨rfl,by simp[Builtin.firstCells,loadCells,loadCellsFrom]⟩
 have hap:(Builtin.append_ #[t,t'] ty #[a.eval x,a.eval y]).run P w= .ok (a.eval x) w:=by
  generalize a.eval x=ux at h0;cases h0 with
  | @emp ad _ hq=>subst hq;cases ad<;>simp[Builtin.append_,run_underlying hu,run_underlying hu',sizeOf,typeInfo,hinf,hy2.1,hy2.2,storeCells]
 exact⟨a.eval x,by simp[execOp,resolve,invoke,builtin,hap],h0⟩
def CallA.pubRow{f:FuncId}{NJ:List AV}{N:Nat}{t:Tok}{es:List (List IV)}(h:CallA P f NJ [] [] [(N,t)] (.row N es)):CallA P f NJ [] [] [] (.iv (.sl es)):=fun E w us hr hh=>
 (h E w us hr hh).mono (fun e w' ⟨u,E',he,hrep,hinv⟩=>⟨u,E',he,Sub.row _ _ _ _ _ hrep,hinv.wk (st:=⟨[],[],[(N,t)]⟩) (st':=⟨[],[],[]⟩) (Wk.mk' (by intro id h;simp[keys] at h) .nil .nil .nil)⟩)
def uP{f:FuncId}{args:Array Operand}{ats:Array TypeId}{NJ:List AV}{t:Tok}{es:List (List IV)}(hlt:Nat.ble (d+1) c.nt=true)[hok:CallTy P f](hc:CallA P f NJ [] [] [(d,t)] (.row d es))(ha:args.toList.map (St.ev ⟨fr,bx,tk⟩)=NJ)
 (hf:St.fresh d ⟨fr,bx,tk⟩=true) (h:LW P c ⟨(d,.row d es)::fr,bx,(d,t)::tk⟩ ops Q rest):
 LW P c ⟨fr,bx,tk⟩ ops Q (⟨some d,.call {callee:= .value (.func f),args:=args,argTypes:=ats},ty,pos,aft,none⟩::rest):=
 .mk (js (st:=⟨fr,bx,tk⟩) [d] U U hlt U hok.h hc (ha▸Subs.refl _) .nil (by simp[hf]) U (by simp[keys]) U (by simp[AV.mentIn]) h.out)
def AO{f:FuncId}{args:Array Operand}{ats:Array TypeId}{NJ:List AV}{res:AV}(hlt:Nat.ble (d+1) c.nt=true)[hok:CallTy P f](hc:CallA P f NJ [] [] [] res)(ha:args.toList.map (St.ev ⟨fr,bx,tk⟩)=NJ)
 (hmr:AV.mentIn [] res=true) (h:LW P c ⟨(d,res)::fr,bx,tk⟩ ops Q rest):
 LW P c ⟨fr,bx,tk⟩ ops Q (⟨some d,.call {callee:= .value (.func f),args:=args,argTypes:=ats},ty,pos,aft,none⟩::rest):=
 .mk (L.call0 (st:=⟨fr,bx,tk⟩) U U hlt U hok.h hc (ha▸Subs.refl _) hmr h.out)
def L.rowS0(K N s s2:Nat){X:Act→World→Prop}{k m m':Nat}{ty:TypeId}(hin:c.ins= [])(hb:st.bx.lookup K=some ⟨ty,.r [] m⟩)(hm0:0<m)
 (hs:st.fr.lookup s=some (.bsh K 0 0 k)) (hs2:st.fr.lookup s2=some (.bsh K 0 m' k)) (hm':0<m') (hf:st.fresh N=true) (h:L c ⟨(s,.row N [])::st.fr,(K,⟨ty,.l []⟩)::st.bx,(N,⟨ty,k⟩)::st.tk⟩ X):L c st X:=by
 rintro a w ⟨E,hi⟩;have hbn:(⟨ty,.r [] m⟩:Box).cs≠ []:=fun e=>by
  simp only[Box.cs_r,List.map_nil,List.nil_append] at e;have:=congrArg List.length e;simp at this;omega
 obtain⟨h0,arr,ha,hla,h1,hr,hη⟩:=hi.heap.box K _ hb hbn;have hslot:=hi.slot s _ hs;obtain⟨cap,o,hu,hnc,hcm,heta,hoo⟩:=hslot.bsh_inv;have hkill:HInv c E ((K,⟨ty,.l []⟩)::st.bx) st.tk w:=hi.heap.reBox hb hbn (fun h=>absurd U h);have hNK:K≠N:=(St.fresh_bx hf hb).1;have hfr2:St.fresh N ⟨st.fr,(K,⟨ty,.l []⟩)::st.bx,st.tk⟩=true:=by
  simp only[St.fresh,List.all_cons,aE] at hf⊢;exact⟨⟨hf.1.1,by simpa[Box.ment,AV.ments] using hNK,hf.1.2⟩,hf.2⟩
 have hcapl:cap*k≤arr.length:=hη k cap heta;have hown:c.w0.heap.size≤E.ρ K:=by
  rcases hi.heap.own K _ hb hbn with h|⟨id,hid,_⟩
  · exact h
  · rw[hin] at hid;cases hid
 have hmap: ∀(i:Nat) (b1:Box),List.lookup i ((K,(⟨ty,.l []⟩:Box))::st.bx)=some b1→b1.cs≠ [] →i≠K∧st.bx.lookup i=some b1:=fun i b1 h hn=>by
  by_cases e:i=K
  · subst e;rw[aj] at h;cases h;exact(hn U).elim
  · rw[aa e] at h;exact⟨e,h⟩
 obtain⟨cap2,o2,_,hnc2,_,heta2,_⟩:=(hi.slot s2 _ hs2).bsh_inv;have hcc:=(na (heta.symm.trans heta2)).2;have ho0:o=0:=by rw[hoo C];simp
 subst ho0;obtain⟨ht,mono⟩:=HInv.turn (st:=⟨st.fr,(K,⟨ty,.l []⟩)::st.bx,st.tk⟩) hkill hfr2 0 (.slice (some ⟨E.ρ K,0,none⟩) 0 cap);refine h a w ⟨_,hi.defers,hi.size,fun s' v hv=> ?_,ht.addTok (id:=N) (t:=⟨ty,k⟩) ?_ (fun j t' g hj hl hg hg'=> ?_) (fun i b1 hb1 hn1 hg'=> ?_) (fun g hg=> ?_)⟩
 · by_cases e:s'=s
   · subst e;simp only[aj,Option.some.injEq] at hv;subst hv;exact .row (by simp[hu]) (by rw[hu];exact .emp (fun e=>by cases e) C)
   · simp only[aa e] at hv;exact mono v _ (St.fresh_fr hf hv) (hi.slot s' v hv)
 · refine .inr ⟨E.ρ K,0,cap,arr.toArray,by simp,ha,by omega,by omega,by simpa using hcapl,?_⟩;show E.φ (E.ρ K)≤_;rw[h0];exact Nat.zero_le _
 · simp only[if_true,Value.ownBlock,Option.some.injEq] at hg';simp only[if_neg hj] at hg;exact hi.heap.bt K j _ t' hb hbn hl (by rw[hg,hg'])
 · obtain⟨hne1,h2⟩:=hmap i b1 hb1 hn1;have hiN:i≠N:=(St.fresh_bx hf h2).1;simp only[if_true,Value.ownBlock,Option.some.injEq,if_neg hiN] at hg';exact hne1 (hi.heap.bb i K b1 _ h2 hb hn1 hbn hg'.symm)
 · simp only[if_true,Value.ownBlock,Option.some.injEq] at hg;rw[←hg];exact hown
end
section
variable {P:Program}{c:Ctx}{st:St}{ops:Array Oper}{Q:Exit→Act→World→Prop}{rest:List Oper}{o:Oper}
def yL(N:List Nat){gs:au}{f:FuncId}{x:Operand}{args:Array Operand}{ats:Array TypeId}{avs caps:List AV}{bxi bxo:List (Nat×Box)}{res:AV}{d:Nat}(hg:o.guard=none)(hd:o.dst=some d)(hlt:Nat.ble (d+1) c.nt=true)(hG:Glob gs c.E0 c.w0)
 (ho:o.op= .call {callee:= .value x,args:=args,argTypes:=ats}) (hx:st.ev x= .fn f caps) (hok:dQ P f=true) (hc:CallG gs P f (avs++caps) bxi bxo [] res) (ha:Subs (args.toList.map st.ev) avs)
 (hbi:WkB st.bx bxi) (hN:N.all (fun id=>st.fresh id)=true) (hbo:dW N bxi bxo=true) (hmb:bxo.all (fun p=>AV.mentsIn (N++keys bxi) p.2.cs)=true) (hmr:AV.mentIn (N++keys bxi) res=true)
 (h:L c ⟨(d,res)::st.fr,bxo++st.bx,st.tk⟩ (wpList P ops Q rest)):L c st (wpList P ops Q (o::rest)):=
 nf N hg hd hlt hG (fun E a w hi=>by
  have hv:=hi.ev x;rw[hx] at hv;generalize hu:a.eval x=u at hv;cases hv with
  | @fn _ _ us hl hr=>
    refine⟨args.toList.map a.eval++us,?_,((hi.evs args).sub ha).append ⟨hl,hr⟩⟩;have hargs:(args.toList.map a.eval++us).toArray=args.map a.eval++us.toArray:=by apply Array.ext';simp
    rw[hargs];simp[execOp,ho,resolve,hu,Deferred.ofValue,invoke,eK hok]) hc hbi hN hbo U hmb hmr h
def pi(N:List Nat){fr:List (Nat×AV)}{bx:List (Nat×Box)}{tk:List (Nat×Tok)}{d:Nat}{ty:TypeId}{pos:String}{aft:Array Edge}{gs:au}{f:FuncId}{x:Operand}{args:Array Operand}{ats:Array TypeId}{avs caps:List AV}{bxi bxo:List (Nat×Box)}{res:AV}(hlt:Nat.ble (d+1) c.nt=true)(hG:Glob gs c.E0 c.w0)(hx:St.ev ⟨fr,bx,tk⟩ x= .fn f caps)[hok:CallTy P f]
 (hc:CallG gs P f (avs++caps) bxi bxo [] res) (ha:Subs (args.toList.map (St.ev ⟨fr,bx,tk⟩)) avs) (hbi:WkB bx bxi) (hN:N.all (fun id=>St.fresh id ⟨fr,bx,tk⟩)=true) (hbo:dW N bxi bxo=true) (hmb:bxo.all (fun p=>AV.mentsIn (N++keys bxi) p.2.cs)=true) (hmr:AV.mentIn (N++keys bxi) res=true)
 (h:LW P c ⟨(d,res)::fr,bxo++bx,tk⟩ ops Q rest):
 LW P c ⟨fr,bx,tk⟩ ops Q (⟨some d,.call {callee:= .value x,args:=args,argTypes:=ats},ty,pos,aft,none⟩::rest):=
 .mk (yL N (st:=⟨fr,bx,tk⟩) U U hlt hG U hx hok.h hc ha hbi hN hbo hmb hmr (LW.out h))
end
class Errs where
 s:Value
 r:Value
 hs:s= .nilIface∨ ∃te pe,s= .iface te pe
 hr:r= .nilIface∨ ∃te pe,r= .iface te pe
def CallG.sub{gs gs':au}{P:Program}{f:FuncId}{args:List AV}{bx bx':List (Nat×Box)}{tk':List (Nat×Tok)}{res:AV}(hs: ∀p∈gs',p∈gs)(h:CallG gs' P f args bx bx' tk' res):CallG gs P f args bx bx' tk' res:=
 fun E w us h1 h2 h3=>h E w us h1 h2 (h3.sub hs)
def RepA.tup2{E:Env}{w:World}{x y:IV}{u v:Value}(h:RepI E.φ w x u)(k:RepI E.φ w y v):RepA E w (.tup [.iv x,.iv y]) (.tuple #[u,v]):=by
 refine .tup (us:= [u,v]) U (fun i c z hc hz=> ?_)
 match i with
 |0=>simp at hc hz;subst hc;subst hz;exact .iv h
 |1=>simp at hc hz;subst hc;subst hz;exact .iv k
 |i+2=>simp at hc
def Glob.one{gs:au}{E:Env}{w:World}{g:Nat}{v:Value}(h:Glob gs E w)(hm:(g,[IV.im v])∈gs):w.cell? ⟨g,0,none⟩=some v:=by
 obtain⟨_,u,h1,h2⟩:=h.2 g _ hm 0 _ U;rw[h1,h2.im_eq]
def LZ(π:Nat→Nat)(fr:List (Nat×AV)):List (Nat×AV):=fr.map (fun p=>(p.1,p.2.ren π))
def Inv.ren{c:Ctx}{E:Env}{st:St}{a:Act}{w:World}(π σ:Nat→Nat)(hσ: ∀n,σ (π n)=n)(hπ: ∀n,π (σ n)=n)(hf: ∀id∈c.ins,π id=id)(hi:Inv c E st a w):
 Inv c ⟨E.φ,fun i=>E.ρ (σ i),fun i=>E.η (σ i)⟩ ⟨LZ π st.fr,eL π st.bx,wU π st.tk⟩ a w:=by
 have hE:(Env.of π ⟨E.φ,fun i=>E.ρ (σ i),fun i=>E.η (σ i)⟩)=E:=by simp[Env.of,hσ]
 have hfs: ∀id∈c.ins,σ id=id:=fun id h=>by have:=hσ id;rwa [hf id h] at this
 have hlu: ∀(i:Nat) (b:Box),(eL π st.bx).lookup i=some b→ ∃b0,st.bx.lookup (σ i)=some b0∧b0.ren π=b:=fun i b hb=>by
  unfold eL at hb;rw[lJ hσ hπ (Box.ren π),Option.map_eq_some_iff] at hb;exact hb
 have hlt: ∀(i:Nat) (t:Tok),(wU π st.tk).lookup i=some t→st.tk.lookup (σ i)=some t:=fun i t ht=>by
  unfold wU at ht;have:=lJ hσ hπ (fun t:Tok=>t) st.tk i;rw[this] at ht;simpa using ht
 have ho:=hi.heap;refine⟨hi.defers,hi.size,fun s v hv=> ?_,fun i b hb hn=> ?_,fun i t ht=>ho.tok (σ i) t (hlt i t ht),fun i j b b' h1 h2 hn hn' he=> ?_,fun i j t t' g h1 h2 h3 h4=> ?_,fun i j b t h1 hn hj=> ?_,fun i b hb hn=> ?_,fun j t g hj hg=>ho.ownt (σ j) t g (hlt j t hj) hg,ho.new,ho.old,fun i hin=> ?_,ho.kept⟩
 · have hl:(LZ π st.fr).lookup s=(st.fr.lookup s).map (AV.ren π):=vC (AV.ren π) st.fr s;rw[hl,Option.map_eq_some_iff] at hv;obtain⟨v0,h0,rfl⟩:=hv;exact RepA.doren v0 (by rw[hE];exact hi.slot s v0 h0)
 · obtain⟨b0,h0,rfl⟩:=hlu i b hb;have:=BoxOk.doren (π:=π) (E:=⟨E.φ,fun i=>E.ρ (σ i),fun i=>E.η (σ i)⟩) (by rw[hE];exact ho.box (σ i) b0 h0 (Box.ren_ne.1 hn));rw[hπ] at this;exact this
 · obtain⟨b0,h0,rfl⟩:=hlu i b h1;obtain⟨b1,h3,rfl⟩:=hlu j b' h2;have:=ho.bb (σ i) (σ j) b0 b1 h0 h3 (Box.ren_ne.1 hn) (Box.ren_ne.1 hn') he;rw[←hπ i,this,hπ]
 · have:=ho.tt (σ i) (σ j) t t' g (hlt i t h1) (hlt j t' h2) h3 h4;rw[←hπ i,this,hπ]
 · obtain⟨b0,h0,rfl⟩:=hlu i b h1;exact ho.bt (σ i) (σ j) b0 t h0 (Box.ren_ne.1 hn) (hlt j t hj)
 · obtain⟨b0,h0,rfl⟩:=hlu i b hb;exact ho.own (σ i) b0 h0 (Box.ren_ne.1 hn)
 · obtain⟨e1,e2,e3⟩:=ho.ins i hin;refine⟨by simpa[hfs i hin] using e1,by simpa[hfs i hin] using e2,?_⟩;obtain⟨b,hb⟩:=Option.isSome_iff_exists.1 e3;show(List.lookup i (eL π st.bx)).isSome=true;unfold eL;rw[show i=π i from(hf i hin).symm,kX hσ (Box.ren π),hb];rfl
def gK(l:List (Nat×Nat)){c:Ctx}{st:St}{f':List (Nat×AV)}{b':List (Nat×Box)}{t':List (Nat×Tok)}{X:Act→World→Prop}(hf:c.ins.all (fun id=>sws l id==id)=true)(h1:LZ (sws l) st.fr=f')(h2:eL (sws l) st.bx=b')(h3:wU (sws l) st.tk=t')(h:L c ⟨f',b',t'⟩ X):L c st X:=by
 rintro a w ⟨E,hi⟩;subst h1;subst h2;subst h3;exact h a w ⟨_,hi.ren (sws l) (Fz l) (mw l) (qK l) (fun id hid=>by simpa using aT hf id hid)⟩
section
variable {P:Program}{c:Ctx}{st:St}{ops:Array Oper}{Q:Exit→Act→World→Prop}{rest:List Oper}{o:Oper}
def Jy(N:List Nat){gs:au}{f:FuncId}{args:Array Operand}{ats:Array TypeId}{avs:List AV}{bxi bxo:List (Nat×Box)}{res:AV}{d:Nat}(hg:o.guard=none)(hd:o.dst=some d)(hlt:Nat.ble (d+1) c.nt=true)(hG:Glob gs c.E0 c.w0)
 (ho:o.op= .call {callee:= .value (.func f),args:=args,argTypes:=ats}) (hok:dQ P f=true) (hc:CallG gs P f avs bxi bxo [] res) (ha:Subs (args.toList.map st.ev) avs)
 (hbi:WkB st.bx bxi) (hN:N.all (fun id=>st.fresh id)=true) (hbo:dW N bxi bxo=true) (hmb:bxo.all (fun p=>AV.mentsIn (N++keys bxi) p.2.cs)=true) (hmr:AV.mentIn (N++keys bxi) res=true)
 (h:L c ⟨(d,res)::st.fr,bxo++st.bx,st.tk⟩ (wpList P ops Q rest)):L c st (wpList P ops Q (o::rest)):=
 nf N hg hd hlt hG (fun E a w hi=>by
  refine⟨args.toList.map a.eval,?_,(hi.evs args).sub ha⟩;have hargs:(args.toList.map a.eval).toArray=args.map a.eval:=by apply Array.ext';simp
  rw[hargs];simp[execOp,ho,resolve,Act.eval,Deferred.ofValue,invoke,eK hok]) hc hbi hN hbo U hmb hmr h
def ac(N:List Nat){fr:List (Nat×AV)}{bx:List (Nat×Box)}{tk:List (Nat×Tok)}{d:Nat}{ty:TypeId}{pos:String}{aft:Array Edge}{gs:au}{f:FuncId}{args:Array Operand}{ats:Array TypeId}{avs:List AV}{bxi bxo:List (Nat×Box)}{res:AV}(hlt:Nat.ble (d+1) c.nt=true)(hG:Glob gs c.E0 c.w0)[hok:CallTy P f]
 (hc:CallG gs P f avs bxi bxo [] res) (ha:Subs (args.toList.map (St.ev ⟨fr,bx,tk⟩)) avs) (hbi:WkB bx bxi) (hN:N.all (fun id=>St.fresh id ⟨fr,bx,tk⟩)=true) (hbo:dW N bxi bxo=true) (hmb:bxo.all (fun p=>AV.mentsIn (N++keys bxi) p.2.cs)=true) (hmr:AV.mentIn (N++keys bxi) res=true)
 (h:LW P c ⟨(d,res)::fr,bxo++bx,tk⟩ ops Q rest):
 LW P c ⟨fr,bx,tk⟩ ops Q (⟨some d,.call {callee:= .value (.func f),args:=args,argTypes:=ats},ty,pos,aft,none⟩::rest):=
 .mk (Jy N (st:=⟨fr,bx,tk⟩) U U hlt hG U hok.h hc ha hbi hN hbo hmb hmr (LW.out h))
def Lt{gs:au}(R:AV→Prop){f:FuncId}{args:Array Operand}{ats:Array TypeId}{NJ:List AV}{d:Nat}(hg:o.guard=none)(hd:o.dst=some d)(hlt:Nat.ble (d+1) c.nt=true)(hG:Glob gs c.E0 c.w0)
 (ho:o.op= .call {callee:= .value (.func f),args:=args,argTypes:=ats}) (hok:dQ P f=true)
 (hc: ∀(E:Env) (w:World) (us:List Value),RelL E w NJ us→Glob gs E w→Calls P f us.toArray w fun e w'=> ∃res u,R res∧e= .returned u∧RepA E w' res u∧Below w.heap.size w w') (ha:Subs (args.toList.map st.ev) NJ)
 (hmr: ∀res,R res→AV.mentIn [] res=true) (h: ∀res,R res→L c ⟨(d,res)::st.fr,st.bx,st.tk⟩ (wpList P ops Q rest)):L c st (wpList P ops Q (o::rest)):=by
 rintro a w ⟨E,hi⟩;refine wpList_plain hg (fun K hK=> ?_);have hrel:=(hi.evs args).sub ha;have hargs:(args.toList.map a.eval).toArray=args.map a.eval:=by apply Array.ext';simp
 have hrun:(execOp a.eval o).run P w= .ok (.enter f (args.toList.map a.eval).toArray) w:=by
  rw[hargs];simp[execOp,ho,resolve,Deferred.ofValue,Act.eval,invoke,eK hok]
 unfold Oper.wp;rw[hrun,Oper.upon_enter];refine(hc E w _ hrel (hG.keep hi)).mono fun e w' ⟨res,u,hR,he,hu,hb⟩=> ?_
 subst he;have hk:KeptBut (Ctx.M ⟨0,w,E,[]⟩) w w':=nL hb;have hh:HInv ⟨0,w,E,[]⟩ E [] [] w':=⟨fun id b h=>by simp at h,fun id t h=>by simp at h,fun i j b b' h=>by simp at h,fun i j t t' g h=>by simp at h,fun i j b t h=>by simp at h,fun i b h=>by simp at h,fun i t g h=>by simp at h,
  fun b hb'=>hi.heap.new b (Nat.le_trans hb.size hb'),fun b _=>rfl,fun id h=>by simp at h,hk⟩
 obtain⟨hj,monoN,monoC⟩:=hi.heap.join hh (bxi:= []) (N:= []) (fun id hid=>by cases hid) (fun id hid=>by simp[keys] at hid)
  (fun id hid=>by simp[keys] at hid) (fun id hid=>by simp[keys] at hid) (fun id b hb=>by simp at hb)
 refine hK _ _ ?_;rw[hd];exact h res hR _ _ ⟨_,Inv.put (st:=⟨st.fr,[] ++st.bx,[] ++st.tk⟩) ⟨hi.defers,hi.size,fun s v hv=>monoC v _ (fun id hid=>by cases hid) (hi.slot s v hv),hj⟩ (bT hlt) (monoN res u (hmr res hR) hu)⟩
def JR{gs:au}(R:AV→Prop){fr:List (Nat×AV)}{bx:List (Nat×Box)}{tk:List (Nat×Tok)}{d:Nat}{ty:TypeId}{pos:String}{aft:Array Edge}{f:FuncId}{args:Array Operand}{ats:Array TypeId}{NJ:List AV}(hlt:Nat.ble (d+1) c.nt=true)(hG:Glob gs c.E0 c.w0)[hok:CallTy P f]
 (hc: ∀(E:Env) (w:World) (us:List Value),RelL E w NJ us→Glob gs E w→Calls P f us.toArray w fun e w'=> ∃res u,R res∧e= .returned u∧RepA E w' res u∧Below w.heap.size w w') (ha:AV.pub.pubs (args.toList.map (St.ev ⟨fr,bx,tk⟩))=NJ)
 (hmr: ∀res,R res→AV.mentIn [] res=true) (h: ∀res,R res→LW P c ⟨(d,res)::fr,bx,tk⟩ ops Q rest):
 LW P c ⟨fr,bx,tk⟩ ops Q (⟨some d,.call {callee:= .value (.func f),args:=args,argTypes:=ats},ty,pos,aft,none⟩::rest):=
 .mk (Lt R (st:=⟨fr,bx,tk⟩) U U hlt hG U hok.h hc (.of_pub ha) hmr (fun res hR=>LW.out (h res hR)))
class IfTy (P:Program) (t:TypeId):Prop where
 h:P.underlying t=some (.interface (P.methodsAt t))
def yQ{fr:List (Nat×AV)}{bx:List (Nat×Box)}{tk:List (Nat×Tok)}{d:Nat}{ty:TypeId}{pos:String}{aft:Array Edge}{x:Operand}{t t':TypeId}(hx:St.ev ⟨fr,bx,tk⟩ x= .iv (.im .nilIface))[ht:IfTy P t]:VV P c ⟨fr,bx,tk⟩ ⟨some d,.binOp .neq t x (.const .nilIface) t',ty,pos,aft,none⟩ (aB false) []:=
 .mk fun st' kE kL=> .im U fun E a w hi=>by
   have h:=hi.im ((kE x oO).trans hx);simp[execOp,h,show a.eval (.const .nilIface)= .nilIface from rfl,eqGuard,run_neq_nil_nil w t ht.h]
def JH{fr:List (Nat×AV)}{bx:List (Nat×Box)}{tk:List (Nat×Tok)}{d:Nat}{ty:TypeId}{pos:String}{aft:Array Edge}{x:Operand}{t t' te:TypeId}{pe:Value}(hx:St.ev ⟨fr,bx,tk⟩ x= .iv (.im (.iface te pe)))[ht:IfTy P t]:VV P c ⟨fr,bx,tk⟩ ⟨some d,.binOp .neq t x (.const .nilIface) t',ty,pos,aft,none⟩ (aB true) []:=
 .mk fun st' kE kL=> .im U fun E a w hi=>by
   have h:=hi.im ((kE x oO).trans hx);simp[execOp,h,show a.eval (.const .nilIface)= .nilIface from rfl,eqGuard,run_neq_held_nil w t te pe ht.h]
end
end Go.Abs
namespace Go.Abs
open Go.RowKit (Below)
open Go.ChangeShapes Go.WideShapes
section
variable {H:Type}{enc:TypeId×Value→H}{P:Program}{w:World}
def Gu{E:Env}{w:World}{xs:List IV}{us:List Value}(h:Reps E.φ w xs us):RelL E w (xs.map .iv) us:=
 ⟨by simp[h.1],fun i c u hc hu=>by
   simp only[gP,Option.map_eq_some_iff] at hc;obtain⟨x,hx,rfl⟩:=hc;exact .iv (h.2 i x u hx hu)⟩
def Bg{f:DataW H→Nat}(hf:Bulk f){T:Book}(hT:T.ok P=true){r:Reach}{b0:Nat}{t:TypeId}{fs:Array Field}{cts:List CT}(hu:P.underlying t=some (.struct fs))(hfl:tW P 9 t=some cts)(hin:cts.all T.has=true)
 {v:Value} {d:DataW H} {ps:List MemPlace} (hval:Value.okWide P w r b0 t v) (hd:DataW.Trod enc P w 0 (fun _=>true) true t v d ps) (hw:JE P t d):
 ∃xs:List IV,Fits T cts xs∧RepA (mg (fP w)) w (.agg (xs.map .iv)) v∧yZ xs≤f d:=by
 obtain⟨us,rfl,hs⟩:=okWide_struct hu hval;obtain⟨fuel,hd⟩:=hd;obtain⟨xs,h1,h2,h3⟩:=vl hf hT fuel 9 t _ _ cts hd hfl hin hw;have h2':Reps (fP w) w xs us.toList:=by simpa[Value.cells] using h2
 refine⟨xs,h1,?_,h3⟩;have:=RelL.agg (E:=mg (fP w)) (Gu h2') (fun u hu'=>by
  obtain⟨i,hi,rfl⟩:=List.getElem_of_mem hu';have hx:xs[i]?=some (xs[i]'(by rw[h2'.1];exact hi)):=gG _;exact(h2'.2 i _ _ hx (gG hi)).oneCell)
 simpa using this
def vj{f:DataW H→Nat}(hf:Bulk f){T:Book}(hT:T.ok P=true){t:TypeId}{c:CT}(hfl:tW P 9 t=some [c])(hin:T.has c=true)
 {v:Value} {d:DataW H} {ps:List MemPlace} (hcells:v.cells= #[v]) (hd:DataW.Trod enc P w 0 (fun _=>true) true t v d ps) (hw:JE P t d):
 ∃x:IV,Fit T c x∧RepA (mg (fP w)) w (.iv x) v∧x.sz≤f d:=by
 obtain⟨fuel,hd⟩:=hd;obtain⟨xs,h1,h2,h3⟩:=vl hf hT fuel 9 t _ _ [c] hd hfl (by simp[hin]) hw;obtain⟨x,rfl⟩: ∃x,xs= [x]:=List.length_eq_one_iff.1 h1.1;rw[hcells] at h2;exact⟨x,h1.2 0 c x U U,.iv (h2.2 0 x v U U),by simpa[yZ] using h3⟩
def kW{f:DataW H→Nat}(hf:Bulk f){T:Book}(hT:T.ok P=true){r:Reach}{b0:Nat}{t e:TypeId}(hu:P.underlying t=some (.slice e))(hfl:tW P 9 t=some [.sl e])(hin:T.has (.sl e)=true)
 {v:Value} {d:DataW H} {ps:List MemPlace} (hval:Value.okWide P w r b0 t v) (hd:DataW.Trod enc P w 0 (fun _=>true) true t v d ps) (hw:JE P t d):
 ∃x:IV,Fit T (.sl e) x∧RepA (mg (fP w)) w (.iv x) v∧x.sz≤f d:=by
 obtain⟨a,len,cap,rfl⟩:=okWide_slice hu hval;exact vj hf hT hfl hin U hd hw
def HT{f:DataW H→Nat}(hf:Bulk f){T:Book}(hT:T.ok P=true){r:Reach}{b0:Nat}{t:TypeId}(hu:P.underlying t=some .string)(hfl:tW P 9 t=some [.str])
 {v:Value} {d:DataW H} {ps:List MemPlace} (hval:Value.okWide P w r b0 t v) (hd:DataW.Trod enc P w 0 (fun _=>true) true t v d ps) (hw:JE P t d):
 ∃x:IV,Fit T .str x∧RepA (mg (fP w)) w (.iv x) v∧x.sz≤f d:=by
 obtain⟨s,rfl⟩:=okWide_string hu hval;exact vj hf hT hfl U U hd hw
def HU{f:DataW H→Nat}(hf:Bulk f){T:Book}(hT:T.ok P=true){r:Reach}{b0:Nat}{t:TypeId}{k:IntKind}(hu:P.underlying t=some (.int k))(hfl:tW P 9 t=some [.int k])
 {v:Value} {d:DataW H} {ps:List MemPlace} (hval:Value.okWide P w r b0 t v) (hd:DataW.Trod enc P w 0 (fun _=>true) true t v d ps) (hw:JE P t d):
 ∃x:IV,Fit T (.int k) x∧RepA (mg (fP w)) w (.iv x) v∧x.sz≤f d:=by
 obtain⟨s,rfl⟩:=okWide_int hu hval;exact vj hf hT hfl U U hd hw
def eV(hl:laidOutB P=true){W W':World}(hb:Below W.heap.size W W'): ∀{ts:List TypeId} {vs:List Value} {ds:List (DataW H)} {ps:List MemPlace},
 ts.all (fun t=>P.readableRec t && decide (t<P.types.size))=true→DataW.TrodAll enc P W 0 (fun _=>true) true ts vs ds ps→DataW.TrodAll enc P W' 0 (fun b=>decide (b<W.heap.size)) true ts vs ds ps
 | [],[],[],_,_,h=>h
 | [],[],_::_,_,_,h=>h.elim
 | [],_::_,_,_,_,h=>h.elim
 |t::ts,[],_,_,_,h=>h.elim
 |t::ts,v::vs,[],_,_,h=>h.elim
 |t::ts,v::vs,d::ds,ps,ht,h=>by
  simp only[List.all_cons,aE,decide_eq_true_eq] at ht;obtain⟨p,q,h1,h2,rfl⟩:=h;have lt: ∀x∈p,x.block<W.heap.size:=by obtain⟨m,hm⟩:=h1;exact DataW.trod_lt m _ _ _ hm
  exact⟨p,q,Below.trod hl ht.1.1 ht.1.2 h1 hb lt,eV hl hb ht.2 h2,rfl⟩
end
def Fit.str_inv{T:Book}{x:IV}(h:Fit T .str x): ∃s:List UInt8,x=S s∧s.length≤reachBytes:=by
 cases h with
 | @str s hs=>
   have e:s.data.toList.length=s.size:=Array.length_toList;exact⟨s.data.toList,by simp,by rw[e];exact hs⟩
def Fit.int_inv{T:Book}{x:IV}(h:Fit T (.int .i64) x): ∃n:Int,x=I n∧ -9223372036854775808≤n∧n≤9223372036854775807:=by
 cases h with
 |int hw=>exact⟨_,rfl,Go.bounds_i64 hw⟩
def Fit.sl_inv{T:Book}{e:TypeId}{n:Nat}{cts:List CT}{x:IV}(hl:T.lookup e=some (n,cts))(h:Fit T (.sl e) x): ∃es:List (List IV),x= .sl es∧es.length*n≤reachBytes∧ ∀e'∈es,Fits T cts e':=by
 cases h with
 | @sl e es n' cts' hm hl' h1 h=>
   have:=Option.some.inj (hl'.symm.trans hl);cases this;refine⟨es,rfl,hm,fun e' he=> ?_⟩;obtain⟨j,hj,rfl⟩:=List.getElem_of_mem he;exact⟨h1 j _ (gG hj),fun i c y hc hy=>h j _ i c y (gG hj) hc hy⟩
def Ij{α:Type}{f:α→List IV}{Q:List IV→α→Prop}: ∀{es:List (List IV)},(∀e∈es,∃a,e=f a∧Q e a)→ ∃l:List α,es=l.map f∧ ∀a∈l,Q (f a) a
 | [],_=>⟨[],rfl,fun a h=>by cases h⟩
 |e::es,h=>by
  obtain⟨a,h1,h2⟩:=h e sP;obtain⟨l,h3,h4⟩:=Ij (es:=es) (fun e he=>h e (by simp[he]));subst h1;exact⟨a::l,by simp[h3],fun b hb=>by
   rcases List.mem_cons.1 hb with rfl|hb
   · exact h2
   · exact h4 b hb⟩
def Fits.cons_inv{T:Book}{c:CT}{cts:List CT}{xs:List IV}(h:Fits T (c::cts) xs): ∃y ys,xs=y::ys∧Fit T c y∧Fits T cts ys:=by
 cases xs with
 |nil=>exact absurd h.1 sP
 |cons y ys=>exact⟨y,ys,rfl,h.2 0 c y U U,by simpa using h.1,fun i c' y' h1 h2=>h.2 (i+1) c' y' (by simpa using h1) (by simpa using h2)⟩
def Fits.nil_inv{T:Book}{xs:List IV}(h:Fits T [] xs):xs= []:=nZ h.1
end Go.Abs
namespace Go.Abs
section
variable {β:Type}
def AB(l:List β)(a b k:Nat):List β:=l.take a++(l.drop b).take k++(l.drop (a+k)).take (b - (a+k))++(l.drop a).take k++l.drop (b+k)
def pc{l:List β}{a b k:Nat}(h1:a+k≤b)(h2:b+k≤l.length):(AB l a b k).length=l.length:=by
 simp only[AB,gV,lT,lD];omega
def lE{l:List β}{a b k:Nat}(h1:a+k≤b)(h2:b+k≤l.length)(j:Nat):(AB l a b k)[j]?=l[if a≤j∧j<a+k then j+(b - a) else if b≤j∧j<b+k then j - (b - a) else j]?:=by
 have e1:(l.take a).length=a:=by simp;omega
 have e2:((l.drop b).take k).length=k:=by simp;omega
 have e3:((l.drop (a+k)).take (b - (a+k))).length=b - (a+k):=by simp;omega
 have e4:((l.drop a).take k).length=k:=by simp;omega
 simp only[AB,List.getElem?_append,gV,e1,e2,e3,e4,List.getElem?_take,List.getElem?_drop];repeat' split
 all_goals first|rfl|(congr 1;omega)|(exfalso;omega)
def Hr{l:List β}{a b:Nat}(h1:a≤b)(h2:b≤l.length):AB l a b 0=l:=List.ext_getElem? fun j=>by
 rw[lE C C,if_neg C,if_neg C]
def Hs{l:List β}{a b k:Nat}(h1:a+k+1≤b)(h2:b+k+1≤l.length){x y:β}(hx:l[a+k]?=some x)(hy:l[b+k]?=some y):((AB l a b k).set (a+k) y).set (b+k) x=AB l a b (k+1):=List.ext_getElem? fun j=>by
 have hl:=pc (l:=l) (a:=a) (b:=b) (k:=k) C C;rw[lE C C,List.getElem?_set,List.getElem?_set,lE C C];simp only[List.length_set,hl];by_cases e1:b+k=j
 · subst e1;rw[if_pos U,if_pos C,if_neg C,if_pos C,←hx];congr 1;omega
 rw[if_neg e1];by_cases e2:a+k=j
 · subst e2;rw[if_pos U,if_pos C,if_pos C,←hy];congr 1;omega
 rw[if_neg e2];repeat' split
 all_goals first|rfl|(congr 1;omega)|(exfalso;omega)
def dY(l:List β)(a m b:Nat):List β:=l.take a++(l.drop m).take (b - m)++(l.drop a).take (m - a)++l.drop b
def kP{l:List β}{a m b:Nat}(h1:a≤m)(h2:m≤b)(h3:b≤l.length):(dY l a m b).length=l.length:=by
 simp only[dY,gV,lT,lD];omega
def cC{l:List β}{a m b:Nat}(h1:a≤m)(h2:m≤b)(h3:b≤l.length)(j:Nat):(dY l a m b)[j]?=l[if a≤j∧j<a+(b - m) then j+(m - a) else if a+(b - m)≤j∧j<b then j - (b - m) else j]?:=by
 have e1:(l.take a).length=a:=by simp;omega
 have e2:((l.drop m).take (b - m)).length=b - m:=by simp;omega
 have e3:((l.drop a).take (m - a)).length=m - a:=by simp;omega
 simp only[dY,List.getElem?_append,gV,e1,e2,e3,List.getElem?_take,List.getElem?_drop];repeat' split
 all_goals first|rfl|(congr 1;omega)|(exfalso;omega)
def LX{l:List β}{m i j:Nat}(h1:j<i)(h2:i≤m)(h3:m+j≤l.length):dY (AB l (m - i) m j) (m - (i - j)) m (m+j)=dY l (m - i) m (m+j):=List.ext_getElem? fun t=>by
 have hl:=pc (l:=l) (a:=m - i) (b:=m) (k:=j) C C;rw[cC C C C,cC C C C,lE C C];repeat' split
 all_goals first|rfl|(congr 1;omega)|(exfalso;omega)
def LU{l:List β}{m i j:Nat}(h1:i<j)(h2:i≤m)(h3:m+j≤l.length):dY (AB l (m - i) (m+j - i) i) (m - i) m (m+(j - i))=dY l (m - i) m (m+j):=List.ext_getElem? fun t=>by
 have hl:=pc (l:=l) (a:=m - i) (b:=m+j - i) (k:=i) C C;rw[cC C C C,cC C C C,lE C C];repeat' split
 all_goals first|rfl|(congr 1;omega)|(exfalso;omega)
def LY{l:List β}{m i:Nat}(h2:i≤m)(h3:m+i≤l.length):AB l (m - i) m i=dY l (m - i) m (m+i):=List.ext_getElem? fun t=>by
 rw[cC C C C,lE C C];repeat' split
 all_goals first|rfl|(congr 1;omega)|(exfalso;omega)
def iO(l:List β)(a b:Nat):List β:=(l.drop a).take (b - a)
def ze{l:List β}{a b:Nat}(h:b≤l.length):(iO l a b).length=b - a:=by simp[iO];omega
def jl{l:List β}{a b:Nat}(j:Nat):(iO l a b)[j]?=if j<b - a then l[a+j]? else none:=by
 simp only[iO,List.getElem?_take,List.getElem?_drop]
def eW{l:List β}{a m b:Nat}(h1:a≤m)(h2:m≤b)(h3:m≤l.length):iO l a b=iO l a m++iO l m b:=List.ext_getElem? fun j=>by
 have e1:((l.drop a).take (m - a)).length=m - a:=by simp;omega
 simp only[iO,List.getElem?_append,e1,List.getElem?_take,List.getElem?_drop];repeat' split
 all_goals first|rfl|(congr 1;omega)|(exfalso;omega)
def ni(l:List β):iO l 0 l.length=l:=by simp[iO]
def ud{l:List β}{a b:Nat}(h1:a≤b):l.take a++iO l a b++l.drop b=l:=by
 have:iO l a b=(l.take b).drop a:=by simp[iO,List.drop_take]
 rw[this];have e:l.take a=(l.take b).take a:=by rw[List.take_take];congr 1;omega
 rw[e,List.take_append_drop,List.take_append_drop]
def bL(le:β→β→Bool)(l:List β)(a b:Nat):List β:=l.take a++(iO l a b).mergeSort le++l.drop b
def mx{le:β→β→Bool}{l:List β}{a b:Nat}(h1:a≤b)(h2:b≤l.length):(bL le l a b).length=l.length:=by
 simp only[bL,gV,List.length_mergeSort,ze h2,lT,lD];omega
structure Lin (le:β→β→Bool) (l:List β):Prop where
 tr: ∀a b c,le a b=true→le b c=true→le a c=true
 tot: ∀a b,(le a b||le b a)=true
 anti: ∀a∈l,∀b∈l,le a b=true→le b a=true→a=b
def AG{le:β→β→Bool}{l l':List β}{a b:Nat}(hL:Lin le l)(h1:a≤b)(ht:l'.take a=l.take a)(hd:l'.drop b=l.drop b)(hp:(iO l' a b).Perm (iO l a b))(hs:(iO l' a b).Pairwise (fun x y=>le x y=true)):l'=bL le l a b:=by
 have hm: ∀x∈iO l a b,x∈l:=fun x hx=>mD (mT hx)
 have e:iO l' a b=(iO l a b).mergeSort le:=List.Perm.eq_of_pairwise (le:=fun x y=>le x y=true) (fun x y hx hy h h'=>hL.anti x (hm x (hp.subset hx)) y (hm y ((List.mergeSort_perm _ le).subset hy)) h h') hs (List.pairwise_mergeSort hL.tr hL.tot _) (hp.trans (List.mergeSort_perm _ le).symm);rw[bL,←e,←ht,←hd,ud h1]
end
section
variable {β:Type}
def nu(l:List β)(i j:Nat):List β:=dY l j i (i+1)
section
variable {a b e i j s:Nat}
def vA{l:List β}(h1:j≤i)(h2:i<l.length):(nu l i j).length=l.length:=kP h1 C C
def ir{l:List β}(h1:j≤i)(h2:i<l.length)(t:Nat):(nu l i j)[t]?=l[if t=j then i else if j<t∧t≤i then t - 1 else t]?:=by
 rw[nu,cC h1 C C];repeat' split
 all_goals first|rfl|(exfalso;omega)|(congr 1;omega)
def xY{l:List β}(h2:i<l.length):nu l i i=l:=List.ext_getElem? fun t=>by
 rw[ir nR h2];repeat' split
 all_goals first|rfl|(exfalso;omega)|(congr 1;omega)
def xW{l:List β}(h1:j+1≤i)(h2:i<l.length){x y:β}(hx:l[i]?=some x)(hy:l[j]?=some y):((nu l i (j+1)).set (j+1) y).set j x=nu l i j:=List.ext_getElem? fun t=>by
 have hl:=vA (l:=l) (i:=i) (j:=j+1) h1 h2;rw[ir C h2,List.getElem?_set,List.getElem?_set,ir h1 h2];simp only[List.length_set,hl];by_cases e1:j=t
 · subst e1;rw[if_pos U,if_pos C,if_pos U,hx]
 rw[if_neg e1];by_cases e2:j+1=t
 · subst e2;rw[if_pos U,if_pos C,if_neg C,if_pos C,←hy];congr 1
 rw[if_neg e2];repeat' split
 all_goals first|rfl|(exfalso;omega)|(congr 1;omega)
def JU{l:List β}{k:Nat}(h1:i≤k)(h2:k+1<l.length){x y:β}(hx:l[i]?=some x)(hy:l[k+1]?=some y):((dY l i (i+1) (k+1)).set k y).set (k+1) x=dY l i (i+1) (k+2):=List.ext_getElem? fun t=>by
 have hl:=kP (l:=l) (a:=i) (m:=i+1) (b:=k+1) C C C;rw[cC C C C,List.getElem?_set,List.getElem?_set,cC C C C];simp only[List.length_set,hl];by_cases e1:k+1=t
 · subst e1;rw[if_pos U,if_pos C,if_neg C,if_pos C,←hx];congr 1;omega
 rw[if_neg e1];by_cases e2:k=t
 · subst e2;rw[if_pos U,if_pos C,if_pos C,←hy];congr 1;omega
 rw[if_neg e2];repeat' split
 all_goals first|rfl|(exfalso;omega)|(congr 1;omega)
def ek(le:β→β→Bool)(l:List β)(a b:Nat):Prop:= ∀p q x y,a≤p→p<q→q<b→l[p]?=some x→l[q]?=some y→le x y=true
def Hx{le:β→β→Bool}{l:List β}(h:ek le l a b):(iO l a b).Pairwise (fun x y=>le x y=true):=by
 rw[List.pairwise_iff_getElem];intro i j hi hj hij;have e1:=jl (l:=l) (a:=a) (b:=b) i;have e2:=jl (l:=l) (a:=a) (b:=b) j;rw[gG hi] at e1;rw[gG hj] at e2;split at e1
 · split at e2
   · exact h (a+i) (a+j) _ _ C C C e1.symm e2.symm
   · cases e2
 · cases e1
def JO{le:β→β→Bool}{l:List β}(h:(iO l a b).Pairwise (fun x y=>le x y=true)):ek le l a b:=fun p q x y h1 h2 h3 hx hy=>by
 have e1:=jl (l:=l) (a:=a) (b:=b) (p - a);have e2:=jl (l:=l) (a:=a) (b:=b) (q - a);rw[if_pos C,show a+(p - a)=p by omega,hx] at e1;rw[if_pos C,show a+(q - a)=q by omega,hy] at e2;obtain⟨i1,e1⟩:=gS e1;obtain⟨i2,e2⟩:=gS e2;have:=List.pairwise_iff_getElem.1 h (p - a) (q - a) i1 i2 C
 rwa [e1,e2] at this
def ph{l l':List β}(h: ∀j,a≤j→j<b→l[j]?=l'[j]?):iO l a b=iO l' a b:=List.ext_getElem? fun j=>by
 rw[jl,jl];split
 · exact h _ C C
 · rfl
def CM{l l':List β}(h: ∀j,j<a→l[j]?=l'[j]?):l.take a=l'.take a:=List.ext_getElem? fun j=>by
 rw[List.getElem?_take,List.getElem?_take];split
 · exact h j (by assumption)
 · rfl
def DJ{l l':List β}(h: ∀j,a≤j→l[j]?=l'[j]?):l.drop a=l'.drop a:=List.ext_getElem? fun j=>by
 rw[List.getElem?_drop,List.getElem?_drop];exact h _ C
def xA{l l':List β}{a' b':Nat}(hl:b' - a'=b - a)(h: ∀j,j<b - a→l'[a'+j]?=l[a+j]?):iO l' a' b'=iO l a b:=List.ext_getElem? fun j=>by
 rw[jl,jl,hl];split
 · exact h j (by assumption)
 · rfl
def uX{l:List β}{m:Nat}(h1:a≤s)(h2:s≤m)(h3:m≤e)(h4:e≤b)(h5:b≤l.length):(iO (dY l s m e) a b).Perm (iO l a b):=by
 have hl:=kP (l:=l) h2 h3 C;rw[eW (m:=s) h1 C C,eW (a:=s) (m:=s+(e - m)) C C C,eW (a:=s+(e - m)) (m:=e) C h4 C];rw[eW (l:=l) (m:=s) h1 C C,eW (l:=l) (a:=s) (m:=m) h2 C C,eW (l:=l) (a:=m) (m:=e) h3 h4 C];have k1:iO (dY l s m e) a s=iO l a s:=ph fun j hj1 hj2=>by rw[cC h2 h3 C,if_neg C,if_neg C]
 have k2:iO (dY l s m e) s (s+(e - m))=iO l m e:=xA C fun j hj=>by
  rw[cC h2 h3 C,if_pos C];congr 1;omega
 have k3:iO (dY l s m e) (s+(e - m)) e=iO l s m:=xA C fun j hj=>by
  rw[cC h2 h3 C,if_neg C,if_pos C];congr 1;omega
 have k4:iO (dY l s m e) e b=iO l e b:=ph fun j hj1 hj2=>by rw[cC h2 h3 C,if_neg C,if_neg C]
 rw[k1,k2,k3,k4];refine List.Perm.append_left _ ?_;rw[←List.append_assoc,←List.append_assoc];exact List.Perm.append_right _ List.perm_append_comm
def da{le:β→β→Bool}{l:List β}(h1:a≤b)(h2:b≤l.length)(j:Nat)(h:j<a∨b≤j):(bL le l a b)[j]?=l[j]?:=by
 have e1:(l.take a).length=a:=by simp;omega
 have e2:((iO l a b).mergeSort le).length=b - a:=by rw[List.length_mergeSort,ze h2]
 simp only[bL,List.getElem?_append,gV,e1,e2,List.getElem?_take,List.getElem?_drop];repeat' split
 all_goals first|rfl|(exfalso;omega)|(congr 1;omega)
def nX{le:β→β→Bool}{l:List β}(h1:a≤b)(h2:b≤l.length):iO (bL le l a b) a b=(iO l a b).mergeSort le:=by
 have e1:(l.take a).length=a:=by simp;omega
 have e2:((iO l a b).mergeSort le).length=b - a:=by rw[List.length_mergeSort,ze h2]
 unfold bL iO;rw[List.append_assoc,List.drop_append,e1,Nat.sub_self,List.drop_zero,dL C,List.nil_append,List.take_append];have e3:(((l.drop a).take (b - a)).mergeSort le).length=b - a:=e2;rw[e3,Nat.sub_self,List.take_zero,List.append_nil,tL C]
def kH{le:β→β→Bool}{l:List β}(hL:Lin le l)(h1:a≤b)(h2:b≤l.length):ek le (bL le l a b) a b:=JO (by rw[nX h1 h2];exact List.pairwise_mergeSort hL.tr hL.tot _)
def qj{le:β→β→Bool}{l:List β}(h1:a≤b)(h2:b≤a+1):bL le l a b=l:=by
 have:(iO l a b).length≤1:=by simp[iO];omega
 have e:(iO l a b).mergeSort le=iO l a b:=by
  match iO l a b,this with
  | [],_=>simp
  | [x],_=>simp
 rw[bL,e,ud h1]
def nY{le:β→β→Bool}{l:List β}(h1:a≤b){x:β}:x∈bL le l a b↔x∈l:=by
 have e:=ud (l:=l) h1;constructor
 · intro h;rw[←e];simp only[bL,List.mem_append,List.mem_mergeSort] at h⊢;exact h
 · intro h;rw[←e] at h;simp only[bL,List.mem_append,List.mem_mergeSort] at h⊢;exact h
def qh{le:β→β→Bool}{l l':List β}(hL:Lin le l)(h1:a≤b)(ho: ∀j,j<a∨b≤j→l'[j]?=l[j]?)(hp:(iO l' a b).Perm (iO l a b))(hs:ek le l' a b):l'=bL le l a b:=
 AG hL h1 (CM fun j hj=>ho j (.inl hj)) (DJ fun j hj=>ho j (.inr hj)) hp (Hx hs)
def rS{le:β→β→Bool}{l:List β}(h1:a≤s)(h2:s≤e)(h3:e≤b)(h4:b≤l.length):(iO (bL le l s e) a b).Perm (iO l a b):=by
 have hl:=mx (le:=le) (l:=l) h2 (by omega:e≤l.length);rw[eW (m:=s) h1 C C,eW (a:=s) (m:=e) h2 h3 C];rw[eW (l:=l) (m:=s) h1 C C,eW (l:=l) (a:=s) (m:=e) h2 h3 C];rw[nX h2 C,ph (l:=bL le l s e) (l':=l) (a:=a) (b:=s) (fun j hj1 hj2=>da h2 C j (.inl hj2)),ph (l:=bL le l s e) (l':=l) (a:=e) (b:=b) (fun j hj1 hj2=>da h2 C j (.inr hj1))];exact List.Perm.append_left _ (List.Perm.append_right _ (List.mergeSort_perm _ _))
def Lin.sub{le:β→β→Bool}{l l':List β}(h:Lin le l)(hs: ∀x,x∈l'→x∈l):Lin le l':=⟨h.tr,h.tot,fun x hx y hy=>h.anti x (hs x hx) y (hs y hy)⟩
def FC{le:β→β→Bool}{l:List β}(hL:Lin le l)(h1:a≤s)(h2:s≤e)(h3:e≤b)(h4:b≤l.length)(h5:a≤b):bL le (bL le l s e) a b=bL le l a b:=by
 have hl:=mx (le:=le) (l:=l) h2 (by omega:e≤l.length);have hL':Lin le (bL le l s e):=hL.sub (fun x hx=>(nY h2).1 hx);refine qh hL h5 (fun j hj=> ?_) ?_ (kH hL' h5 C)
 · rw[da h5 C j hj,da h2 C j C]
 · rw[nX h5 C];exact(List.mergeSort_perm _ _).trans (rS h1 h2 h3 h4)
def zE{le:β→β→Bool}{l:List β}{x:β}(hL:Lin le l)(h1:a≤j)(h2:j≤i)(h3:i<l.length)(hs:ek le l a i)(hx:l[i]?=some x)(hlo: ∀t y,a≤t→t<j→l[t]?=some y→le y x=true)(hhi: ∀t y,j≤t→t<i→l[t]?=some y→le x y=true):nu l i j=bL le l a (i+1):=by
 refine qh hL C (fun t ht=>by rw[ir h2 h3,if_neg C,if_neg C]) (uX h1 h2 C nR C) ?_;intro p q y z hp hpq hq hy hz;rw[ir h2 h3] at hy hz;by_cases p1:p<j
 · rw[if_neg C,if_neg C] at hy;by_cases q1:q<j
   · rw[if_neg C,if_neg C] at hz;exact hs p q y z hp hpq C hy hz
   · by_cases q2:q=j
     · rw[if_pos q2,hx] at hz;cases hz;exact hlo p y hp p1 hy
     · rw[if_neg q2,if_pos C] at hz;exact hs p (q - 1) y z hp C C hy hz
 · rw[if_neg (by omega: ¬q=j),if_pos C] at hz;by_cases p2:p=j
   · rw[if_pos p2,hx] at hy;cases hy;exact hhi (q - 1) z C C hz
   · rw[if_neg p2,if_pos C] at hy;exact hs (p - 1) (q - 1) y z C C C hy hz
end
end
section
variable {β:Type}
def zk{l:List β}{a m:Nat}(h1:a≤m)(h2:m≤l.length):dY l a m m=l:=List.ext_getElem? fun t=>by
 rw[cC h1 nR h2];repeat' split
 all_goals first|rfl|(exfalso;omega)|(congr 1;omega)
def EL{l:List β}{m b:Nat}(h1:m≤b)(h2:b≤l.length):dY l m m b=l:=List.ext_getElem? fun t=>by
 rw[cC nR h1 h2];repeat' split
 all_goals first|rfl|(exfalso;omega)|(congr 1;omega)
def iY{le:β→β→Bool}{l l':List β}{a b:Nat}(h:ek le l a b)(e: ∀j,a≤j→j<b→l'[j]?=l[j]?):ek le l' a b:=fun p q x y h1 h2 h3 hx hy=>by
 rw[e p h1 C] at hx;rw[e q C h3] at hy;exact h p q x y h1 h2 h3 hx hy
def ub{le:β→β→Bool}{l:List β}{a b:Nat}(hL:Lin le l)(h1:a≤b)(hs:ek le l a b):bL le l a b=l:=(qh hL h1 (fun j _=>rfl) (List.Perm.refl _) hs).symm
def xt{le:β→β→Bool}{l:List β}{a b p:Nat}{x:β}(h1:a≤b)(h2:b≤l.length)(hp1:a≤p)(hp2:p<b)(hx:(bL le l a b)[p]?=some x): ∃u,a≤u∧u<b∧l[u]?=some x:=by
 have e:=jl (l:=bL le l a b) (a:=a) (b:=b) (p - a);rw[if_pos C,show a+(p - a)=p by omega,hx,nX h1 h2] at e;have hm:x∈iO l a b:=List.mem_mergeSort.1 (gE e);obtain⟨j,hj⟩:=List.getElem?_of_mem hm;rw[jl] at hj;split at hj
 · exact⟨a+j,by omega,by omega,hj⟩
 · cases hj
def CV{le:β→β→Bool}{l l':List β}{a b:Nat}(hL:Lin le l)(h1:a≤b)(h2:b≤l.length)(h2':b≤l'.length)(ho: ∀j,j<a∨b≤j→l'[j]?=l[j]?)(hp:(iO l' a b).Perm (iO l a b))(hm: ∀x,x∈l'→x∈l):bL le l' a b=bL le l a b:=
 qh hL h1 (fun j hj=>by rw[da h1 h2' j hj,ho j hj]) (by rw[nX h1 h2'];exact(List.mergeSort_perm _ _).trans hp) (kH (hL.sub hm) h1 h2')
def qN{l:List β}{a m b:Nat}(h1:a≤m)(h2:m≤b)(h3:b≤l.length){x:β}(h:x∈dY l a m b):x∈l:=by
 obtain⟨j,hj⟩:=List.getElem?_of_mem h;rw[cC h1 h2 h3] at hj;exact gE hj
def Mo{le:β→β→Bool}{l:List β}{a c b:Nat}(hL:Lin le l)(h1:a≤c)(h2:c≤b)(h3:b≤l.length)(hc: ∀u v x y,a≤u→u<c→c≤v→v<b→l[u]?=some x→l[v]?=some y→le x y=true):bL le (bL le l a c) c b=bL le l a b:=by
 have hl:=mx (le:=le) (l:=l) h1 (by omega:c≤l.length);have hL':Lin le (bL le l a c):=hL.sub (fun x hx=>(nY h1).1 hx);refine qh hL C (fun j hj=> ?_) ?_ ?_
 · rw[da h2 C j C,da h1 C j C]
 · exact(rS h1 h2 nR C).trans (rS nR h1 h2 h3)
 · intro p q x y hp hpq hq hx hy;by_cases q1:q<c
   · rw[da h2 C p C] at hx;rw[da h2 C q C] at hy;exact kH hL h1 C p q x y hp hpq q1 hx hy
   · by_cases p1:c≤p
     · exact kH hL' h2 C p q x y p1 hpq hq hx hy
     · rw[da h2 C p C] at hx;obtain⟨u,u1,u2,hu⟩:=xt h1 C hp C hx;obtain⟨v,v1,v2,hv⟩:=xt h2 C C hq hy;rw[da h1 C v C] at hv;exact hc u v x y u1 u2 v1 v2 hu hv
def Is{le:β→β→Bool}{l:List β}{a i b:Nat}{x:β}(hL:Lin le l)(h1:a+1≤i)(h2:i≤b)(h3:b≤l.length)(hs:ek le l (a+1) b)(hx:l[a]?=some x)(hlo: ∀t y,a+1≤t→t<i→l[t]?=some y→le y x=true)(hhi: ∀t y,i≤t→t<b→l[t]?=some y→le x y=true):dY l a (a+1) i=bL le l a b:=by
 refine qh hL C (fun t ht=>by rw[cC C h1 C,if_neg C,if_neg C]) (uX nR C h1 h2 h3) ?_;intro p q y z hp hpq hq hy hz;rw[cC C h1 C] at hy hz;by_cases p1:p<i - 1
 · rw[if_pos C,show p+(a+1 - a)=p+1 by omega] at hy;by_cases q1:q<i - 1
   · rw[if_pos C,show q+(a+1 - a)=q+1 by omega] at hz;exact hs (p+1) (q+1) y z C C C hy hz
   · by_cases q2:q<i
     · rw[if_neg C,if_pos C,show q - (i - (a+1))=a by omega,hx] at hz;cases hz;exact hlo (p+1) y C C hy
     · rw[if_neg C,if_neg C] at hz;exact hs (p+1) q y z C C hq hy hz
 · rw[if_neg (by omega: ¬(a≤q∧q<a+(i - (a+1)))),if_neg C] at hz;by_cases p2:p<i
   · rw[if_neg C,if_pos C,show p - (i - (a+1))=a by omega,hx] at hy;cases hy;exact hhi q z C hq hz
   · rw[if_neg C,if_neg C] at hy;exact hs p q y z C hpq hq hy hz
def Ew{le:β→β→Bool}{l:List β}{a s m e b c:Nat}(hL:Lin le l)(h1:a≤s)(h2:s≤m)(h3:m≤e)(h4:e≤b)(h5:b≤l.length)(hcm:c=s+(e - m))(s1:ek le l a m)(s2:ek le l m b)
 (c1: ∀x y,a<s→e<b→l[s - 1]?=some x→l[e]?=some y→le x y=true) (c2: ∀x y,m<e→s<m→l[e - 1]?=some x→l[s]?=some y→le x y=true):
 bL le (bL le (dY l s m e) a c) c b=bL le l a b:=by
 subst hcm;have hl:=kP (l:=l) h2 h3 C;have hL':Lin le (dY l s m e):=hL.sub (fun x hx=>qN h2 h3 C hx);rw[Mo hL' C C C]
 · exact CV hL C h5 C (fun j hj=>by rw[cC h2 h3 C,if_neg C,if_neg C]) (uX h1 h2 h3 h4 h5) (fun x hx=>qN h2 h3 C hx)
 intro u v x y hu1 hu2 hv1 hv2 hx hy;rw[cC h2 h3 C] at hx hy;have lt_le: ∀{p q:Nat} {z w:β} {a b:Nat},ek le l a b→a≤p→p≤q→q<b→l[p]?=some z→l[q]?=some w→le z w=true:=by
  intro p q z w a b hs k1 k2 k3 hz hw;by_cases e:p=q
  · subst e;rw[hz] at hw;cases hw;have:=hL.tot z z;simpa using this
  · exact hs p q z w k1 C k3 hz hw
 by_cases u1:u<s
 · rw[if_neg C,if_neg C] at hx;by_cases v1:v<e
   · rw[if_neg C,if_pos C] at hy;exact s1 u (v - (e - m)) x y hu1 C C hx hy
   · rw[if_neg C,if_neg C] at hy;obtain⟨z,hz⟩: ∃z,l[s - 1]?=some z:=⟨_,gG C⟩
     obtain⟨w,hw⟩: ∃w,l[e]?=some w:=⟨_,gG C⟩
     have k1:=lt_le s1 hu1 (by omega:u≤s - 1) C hx hz;have k2:=lt_le s2 h3 (by omega:e≤v) hv2 hw hy;exact hL.tr _ _ _ (hL.tr _ _ _ k1 (c1 z w C C hz hw)) k2
 · rw[if_pos C] at hx;by_cases v1:v<e
   · rw[if_neg C,if_pos C] at hy;obtain⟨z,hz⟩: ∃z,l[e - 1]?=some z:=⟨_,gG C⟩
     obtain⟨w,hw⟩: ∃w,l[s]?=some w:=⟨_,gG C⟩
     have k1:=lt_le s2 (by omega:m≤u+(m - s)) (by omega:u+(m - s)≤e - 1) C hx hz;have k2:=lt_le s1 h1 (by omega:s≤v - (e - m)) C hw hy;exact hL.tr _ _ _ (hL.tr _ _ _ k1 (c2 z w C C hz hw)) k2
   · rw[if_neg C,if_neg C] at hy;exact s2 (u+(m - s)) v x y C C hv2 hx hy
def AA{le:β→β→Bool}{l:List β}{a s m e b c:Nat}(h1:a≤s)(h2:s≤m)(h3:m≤e)(h4:e≤b)(h5:b≤l.length)(hcm:c=s+(e - m))(s1:ek le l a m)(s2:ek le l m b):
 ek le (dY l s m e) a s∧ek le (dY l s m e) s c∧ek le (dY l s m e) c e∧ek le (dY l s m e) e b:=by
 subst hcm;refine⟨fun p q x y k1 k2 k3 hx hy=> ?_,fun p q x y k1 k2 k3 hx hy=> ?_,fun p q x y k1 k2 k3 hx hy=> ?_,fun p q x y k1 k2 k3 hx hy=> ?_⟩<;>rw[cC h2 h3 C] at hx hy
 · rw[if_neg C,if_neg C] at hx hy;exact s1 p q x y k1 k2 C hx hy
 · rw[if_pos C] at hx hy;exact s2 _ _ x y C C C hx hy
 · rw[if_neg C,if_pos C] at hx hy;exact s1 _ _ x y C C C hx hy
 · rw[if_neg C,if_neg C] at hx hy;exact s2 p q x y C k2 k3 hx hy
end
section
variable {β:Type}
inductive Pre (le:β→β→Bool) (l:List β) (k:Nat):Nat→Prop
 |z:Pre le l k 0
 |s {a:Nat} (h:Pre le l k a) (t:ek le l a (a+k)):Pre le l k (a+k)
inductive Blks (le:β→β→Bool) (l:List β) (k n:Nat):Nat→Prop
 |z {a:Nat} (h:n≤a):Blks le l k n a
 |s {a:Nat} (h:ek le l a (min (a+k) n)) (t:Blks le l k n (a+k)):Blks le l k n a
def Pre.congr{le:β→β→Bool}{l l':List β}{k a:Nat}(h:Pre le l k a):(∀j,j<a→l'[j]?=l[j]?)→Pre le l' k a:=by
 induction h with
 |z=>exact fun _=> .z
 |s h t ih=>exact fun e=> .s (ih fun j hj=>e j C) (iY t fun j _ hj=>e j hj)
def Blks.congr{le:β→β→Bool}{l l':List β}{k n a:Nat}(h:Blks le l k n a):(∀j,a≤j→l'[j]?=l[j]?)→Blks le l' k n a:=by
 induction h with
 |z h=>exact fun _=> .z h
 |s h t ih=>exact fun e=> .s (iY h fun j hj _=>e j hj) (ih fun j hj=>e j C)
def Blks.inv{le:β→β→Bool}{l:List β}{k n a:Nat}(h:Blks le l k n a)(ha:a<n):ek le l a (min (a+k) n)∧Blks le l k n (a+k):=by
 cases h with
 |z h=>omega
 |s h t=>exact⟨h,t⟩
def Pre.join{le:β→β→Bool}{l:List β}{k n a:Nat}(h:Pre le l k a):a≤n→Blks le l k n a→Blks le l k n 0:=by
 induction h with
 |z=>exact fun _ t=>t
 |s h t ih=>exact fun ha b=>ih C (.s (by rw[Nat.min_eq_left ha];exact t) b)
def ng{le:β→β→Bool}{l:List β}{a b:Nat}(h1:a≤b):(bL le l a b).Perm l:=by
 have e:=ud (l:=l) h1;conv=>rhs;rw[←e]
 exact List.Perm.append_right _ (List.Perm.append_left _ (List.mergeSort_perm _ _))
def Pre.more{le:β→β→Bool}{l:List β}{k a:Nat}(hL:Lin le l)(h:Pre le l k a)(hb:a+k≤l.length):Pre le (bL le l a (a+k)) k (a+k):=
 .s (h.congr fun j hj=>da C hb j (.inl hj)) (kH hL C hb)
def Pre.last{le:β→β→Bool}{l:List β}{k a:Nat}(hL:Lin le l)(h:Pre le l k a)(ha:a≤l.length)(hb:l.length≤a+k):Blks le (bL le l a l.length) k l.length 0:=
 (h.congr fun j hj=>da ha nR j (.inl hj)).join ha (.s (by rw[Nat.min_eq_right hb];exact kH hL ha nR) (.z hb))
def Blks.two{le:β→β→Bool}{l:List β}{k n a:Nat}(h:Blks le l k n a)(hk:0<k)(hb:a+(k+k)≤n):ek le l a (a+k)∧ek le l (a+k) (a+(k+k))∧Blks le l k n (a+(k+k)):=by
 obtain⟨h1,t1⟩:=h.inv C;obtain⟨h2,t2⟩:=t1.inv C;rw[Nat.min_eq_left C] at h1 h2;rw[Nat.add_assoc] at h2 t2;exact⟨h1,h2,t2⟩
def Blks.one{le:β→β→Bool}{l:List β}{k n a:Nat}(h:Blks le l k n a)(hk:0<k)(h1:a+k<n)(hb:n≤a+(k+k)):ek le l a (a+k)∧ek le l (a+k) n:=by
 obtain⟨h1,t1⟩:=h.inv C;obtain⟨h2,t2⟩:=t1.inv C;rw[Nat.min_eq_left C] at h1;rw[Nat.min_eq_right C] at h2;exact⟨h1,h2⟩
def Pre.rest{le:β→β→Bool}{l:List β}{k n a:Nat}(h:Pre le l (k+k) a)(t:Blks le l k n a)(ha:a≤n)(hb:n≤a+k):Blks le l (k+k) n 0:=by
 refine h.join ha ?_;by_cases e:n≤a
 · exact .z e
 · obtain⟨h1,_⟩:=t.inv C;rw[Nat.min_eq_right hb] at h1;exact .s (by rw[Nat.min_eq_right C];exact h1) (.z C)
def Hw{le:β→β→Bool}{l0 l:List β}{k:Nat}(hL:Lin le l0)(hp:l.Perm l0)(hk:l0.length≤k)(h:Blks le l k l0.length 0):l=l0.mergeSort le:=by
 have hs:ek le l 0 l0.length:=by
  by_cases e:0<l0.length
  · obtain⟨h1,_⟩:=h.inv e
    rwa [Nat.zero_add,Nat.min_eq_right hk] at h1
  · exact fun p q x y _ _ h3=>absurd h3 C
 have e:=hp.length_eq;have hq:(iO l 0 l0.length).Perm (iO l0 0 l0.length):=by rw[ni,←e,ni];exact hp
 have r:=qh (l:=l0) (l':=l) hL (Nat.zero_le _) (fun j hj=>by rw[List.getElem?_eq_none C,List.getElem?_eq_none C]) hq hs;rw[r,bL,ni];simp
end
end Go.Abs
namespace Go.Proofs.Y
open Go.Abs Go.Proofs.Tryz
def ww{H:Type}: ∀(ds:List (DataW H)),jr YtnhmohbhgocbjaaGreatDoor.Rows.uptoBulk ds=YtnhmohbhgocbjaaGreatDoor.Rows.uptoBulkAll ds
 | [] =>rfl
 |d::ds=>by
  have:=ww ds;simp only[jr,List.map_cons,List.foldr_cons,YtnhmohbhgocbjaaGreatDoor.Rows.uptoBulkAll] at this⊢;omega
def Aa{H:Type}:Bulk (H:=H) YtnhmohbhgocbjaaGreatDoor.Rows.uptoBulk where
 str s:=by simp[YtnhmohbhgocbjaaGreatDoor.Rows.uptoBulk]
 lit l:=by cases l<;>simp[YtnhmohbhgocbjaaGreatDoor.Rows.uptoBulk]
 nil:=by simp[YtnhmohbhgocbjaaGreatDoor.Rows.uptoBulk]
 slice es sp:=by rw[ww];simp only[YtnhmohbhgocbjaaGreatDoor.Rows.uptoBulk];omega
 agg es:=by rw[ww];simp only[YtnhmohbhgocbjaaGreatDoor.Rows.uptoBulk];omega
def book:Book:= [(3,8,[.int .i64]),(5,1,[.int .u8]),(9,16,[.str]),(35,24,[.sl 41]),(41,32,[.int .i64,.int .i64,.str]),(57,40,[.str,.sl 63]),(63,32,[.str,.int .i64,.bool]),(67,48,[.str,.str,.str]),(69,40,[.int .i64,.int .i64,.sl 35]),(72,16,[.str]),(75,24,[.sl 9]),(76,24,[.sl 78]),(78,104,[.int .i64,.int .i64,.int .i64,.str,.str,.str,.int .i64,.sl 78]),(80,320,[.int .i64,.str,.str,.str,.sl 63,.sl 76,.sl 144,.sl 9,.sl 78,.int .i64,.int .i64,.int .i64,.str,.str,.str,.int .i64,.sl 78,.sl 78,.bool,.int .i64]),(93,48,[.sl 9,.sl 9]),(144,120,[.str,.int .i64,.int .i64,.int .i64,.str,.str,.str,.int .i64,.sl 78])]
def jS:book.ok prog=true:=by kernel_rfl
end Go.Proofs.Y
namespace Go.Proofs.Y
open Go.Abs Go.Proofs.Tryz
attribute [local irreducible] L Code.wp bodyPost Exit.then Exit.inBlock
def Cv(a b:Int):Int:=if a=0∨b=0 then 0 else if a=1∧b=1 then 1 else 2
def vq(a:Int):Int:=if a=0∨a=1 then 1 - a else 2
def orM(a b:Int):Int:=vq (Cv (vq a) (vq b))
def Fn(a b:Int):CallA prog 195 [aI a,aI b] [] [] [] (aI (Cv a b)):=by
 refine CallA.intro 19 func195 rfl rfl rfl (fun w0 E0=> ?_);(repeat' first|intro hb hp|refine am ?_|refine ak ?_ ?_|fail)
 all_goals refine bn ?_
 all_goals simp[resOf,Cv, *]
def uh(a:Int):CallA prog 166 [aI a] [] [] [] (aI (vq a)):=by
 refine CallA.intro 11 func166 rfl rfl rfl (fun w0 E0=> ?_);(repeat' first|intro hb hp|refine am ?_|refine ak ?_ ?_|fail)
 all_goals refine bn ?_
 all_goals simp[resOf,vq, *]
structure Val where
 k:Int
 n:Int
 s:List UInt8
def Val.c(v:Val):List IV:= [I v.k,I v.n,S v.s]
def iJ(b:UInt8):Bool:=32≤b.toNat && b.toNat≤126 && b.toNat !=39
def aw(v:Val):Bool:=
 if v.k=0 then v.n==0 && v.s== []
 else if v.k=1 then v.s== [] && (-1000000≤v.n && v.n≤1000000)
 else if v.k=2 then v.n==0 && (v.s.length≤8 && v.s.all iJ)
 else false
def aX(v:Val):CallA prog 29 [.agg (v.c.map .iv)] [] [] [] (aB (aw v)):=by
 obtain⟨k,n,s⟩:=v;refine CallA.intro 63 func29 rfl rfl rfl (fun w0 E0=> ?_);(repeat' first|intro hb hp|refine am ?_|refine ak ?_ ?_|fail)
 all_goals try refine bn ?_
 all_goals try (simp[aw, *];done)
 all_goals try (simp[aw, *];intros;omega)
 rename_i hk0 hk0' hk1 hk1' hk2 hk2' hn hn';subst hk2';subst hn';have hg:aw ⟨2,0,s⟩=s.all iJ:=by simp[aw];omega
 rw[hg];refine ae (ι:=Nat) (fun i=>⟨[(40,aI (i:Int)),(39,aI (s.length:Int)),(1,.ptr 1 0)],[(1,⟨41,.l [.iv (I 2),.iv (I 0),.iv (S s)]⟩)],[]⟩) (fun i=>s.length - i) (fun i=>s.all iJ=(s.drop i).all iJ) (i0:=0) ?_ U ?_
 · exact df
 intro i hi K hK;cases hv:s[i]? with
 |none=>
  have hlt:=fa hv;refine wz ?_;all_goals refine bn ?_
  rw[hi,oN hv];rfl
 |some b=>
  have hlt:=eZ hv;have hlt':=eP hv;rw[eS hv,List.all_cons] at hi;(repeat' first|intro hb hp|refine am ?_|refine ak ?_ ?_|fail)
  all_goals try refine bn ?_
  all_goals try (rw[hi];simp[iJ, *];done)
  all_goals try (rw[hi];simp[iJ, *];intros;omega)
  refine hK _ (i+1) ?_ C ?_
  · have h1:iJ b=true:=by
     simp[iJ];omega
    rw[hi,h1];rfl
  · exact df
def u8(n:Int):UInt8:=UInt8.ofNat (IntKind.u8.wrap n).toNat
def tZ(n:Int):(((u8 n).toNat:Nat):Int)=IntKind.u8.wrap n:=by
 rw[u8,UInt8.toNat_ofNat'];have:IntKind.u8.wrap n=n % 256:=IntKind.wrap_u8 n;rw[this];omega
def Ef(x:Int):List UInt8:= [u8 (x / 16777216),u8 (x / 65536),u8 (x / 256),u8 x]
def ca(v:Val):List UInt8:=u8 (v.k+1)::(if v.k=1 then Ef (v.n+1073741824) else if v.k=2 then v.s++ [0] else [])
def Dq(vs:List Val):List UInt8×Int:=if vs.all aw then(vs.flatMap ca,0) else([],1)
def ny{v:Val}(h:aw v=true):0≤v.k∧v.k≤2∧ -1000000≤v.n∧v.n≤1000000∧v.s.length≤8:=by
 unfold aw at h;split at h
 · simp at h;simp[h];omega
 · split at h
   · simp at h;simp[h];omega
   · split at h
     · simp at h;simp[h];omega
     · cases h
def wV{v:Val}(h:aw v=true):(ca v).length≤10:=by
 unfold aw at h;unfold ca;split at h
 · rename_i h0;simp[h0]
 · split at h
   · rename_i h0 h1;simp[h1,Ef]
   · split at h
     · rename_i h0 h1 h2;simp at h;simp[h2];omega
     · cases h
def BF{vs:List Val}:vs.all aw=true→(vs.flatMap ca).length≤10*vs.length:=by
 induction vs with
 |nil=>simp
 |cons v vs ih=>
  intro h;simp only[List.all_cons,aE] at h;have:=wV h.1;have:=ih h.2;simp only[List.flatMap_cons,gV,lC];omega
def Ks(vs:List Val)(hlen:10*vs.length≤140737488355328):CallA prog 101 [.iv (.sl (vs.map Val.c))] [] [] [] (.tup [.iv (S (Dq vs).1),.iv (I (Dq vs).2)]):=by
 refine CallA.intro 57 func101 rfl rfl rfl (fun w0 E0=> ?_);refine wz ?_;refine L.adopt 4 (s:=4) (t:=5) (k:=1) U U U ?_;refine ae (ι:=Nat) (fun i=>⟨[(4,.row 4 (((vs.take i).flatMap ca).map cB)),(8,.iv (.sl (vs.map Val.c))),(9,aI ((vs.map Val.c).length:Int)),(10,aI (i:Int))],[],[(4,⟨5,1⟩)]⟩) (fun i=>vs.length - i) (fun i=>(vs.take i).all aw=true) (i0:=0) ?_ U ?_
 · exact df
 intro i hi K hK;cases hv:vs[i]? with
 |none=>
  have hlt:=fa (l:=vs.map Val.c) (bf hv);refine wz ?_;all_goals refine bn ?_
  rw[Lx hv] at hi⊢;simp[Dq,hi]
 |some v=>
  have hlt:=eZ (l:=vs.map Val.c) (cq hv);have hlt':=eP hv;have hfl:=BF hi;have htl:(vs.take i).length=i:=by simp;omega
  cases hg:aw v with
  |false=>
   have hng:(!aw v)=true:=by rw[hg];rfl
   (repeat' first|intro hb hp|refine LW.is (gp U (aX v) U U ?_)|refine am ?_|refine ak ?_ ?_|fail)
   all_goals refine bn ?_
   have:vs.all aw=false:=by
    rw[List.all_eq_false];exact⟨v,gE hv,by simp[hg]⟩
   simp[Dq,this]
  |true=>
   have hng:(!aw v)=false:=by rw[hg];rfl
   have hb3:0≤v.k∧v.k≤2∧ -1000000≤v.n∧v.n≤1000000∧v.s.length≤8:=ny hg;obtain⟨hk0,hk2,hn0,hn1,hs8⟩:=hb3;have hnext:(vs.take (i+1)).all aw=true:=by rw[dg hv];simp[hi,hg]
   have hacc:(vs.take (i+1)).flatMap ca=(vs.take i).flatMap ca++ca v:=by rw[dg hv];simp
   generalize hq:(vs.take (i+1)).flatMap ca=acc' at hacc;generalize (vs.take i).flatMap ca=acc at hfl hacc⊢;rw[htl] at hfl;(repeat' first|intro hb hp|refine LW.is (gp U (aX v) U U ?_)|refine am ?_|refine ak ?_ ?_|fail)
   · refine L.only [4,8,9,10] ?_;refine L.retok 4 45 4 U U U U ?_;refine hK _ (i+1) hnext C (Wk.mk' kK (.cons U (Sub.of_eq (congrArg (AV.row 4) ?_)) F3) .nil (.cons U .nil));have hw:IntKind.u32.wrap (v.n+1073741824)=v.n+1073741824:=by rw[IntKind.wrap_u32];omega
     have h24: ∀x:Int,x.fdiv (2 ^ min 24 IntKind.u32.bits)=x / 16777216:=fun x=>Int.fdiv_eq_ediv_of_nonneg x dD
     have h16: ∀x:Int,x.fdiv (2 ^ min 16 IntKind.u32.bits)=x / 65536:=fun x=>Int.fdiv_eq_ediv_of_nonneg x dD
     have h8: ∀x:Int,x.fdiv (2 ^ min 8 IntKind.u32.bits)=x / 256:=fun x=>Int.fdiv_eq_ediv_of_nonneg x dD
     rw[hq,hacc];simp[ca, *,Ef,cB,tZ,cY]
   · refine L.only [4,8,9,10] ?_;refine L.retok 4 53 4 U U U U ?_;refine hK _ (i+1) hnext C (Wk.mk' kK (.cons U (Sub.of_eq (congrArg (AV.row 4) ?_)) F3) .nil (.cons U .nil));rw[hq,hacc];simp[ca, *,cB,tZ,cY]
   · refine L.only [4,8,9,10] ?_;refine L.retok 4 23 4 U U U U ?_;refine hK _ (i+1) hnext C (Wk.mk' kK (.cons U (Sub.of_eq (congrArg (AV.row 4) ?_)) F3) .nil (.cons U .nil));rw[hq,hacc];simp[ca, *,cB,tZ,cY]
def sN(s:List UInt8):Int:=(s.getD 0 0).toNat*16777216+(s.getD 1 0).toNat*65536+(s.getD 2 0).toNat*256+(s.getD 3 0).toNat - 1073741824
def dE(s:List UInt8):List UInt8:=s.takeWhile (fun b=>b !=0)
def dj:List UInt8→Option (Val×List UInt8)
 | [] =>none
 |b::s=>
  if b.toNat=1 then some (⟨0,0,[]⟩,s)
  else if b.toNat=2 then if s.length<4 then none else some (⟨1,sN s,[]⟩,s.drop 4)
  else if b.toNat=3 then if(dE s).length=s.length then none else some (⟨2,0,dE s⟩,s.drop ((dE s).length+1))
  else none
def Fu{s r:List UInt8}{v:Val}(h:dj s=some (v,r)):r.length<s.length:=by
 cases s with
 |nil=>cases h
 |cons b s=>
  simp only[dj] at h;split at h
  · simp at h;simp[h.2]
  · split at h
    · split at h
      · cases h
      · simp at h;rw[←h.2];simp;omega
    · split at h
      · split at h
        · cases h
        · simp at h;rw[←h.2];simp;omega
      · cases h
def dz(s:List UInt8):Option (List Val):=
 if s= [] then some [] else
 match h:dj s with
 |none=>none
 |some (v,r)=>if aw v then(dz r).map (v:: ·) else none
 termination_by s.length
 decreasing_by exact Fu h
def xm:dz [] =some []:=by rw[dz];rfl
def CG{s:List UInt8}(hs:s≠ [])(h:dj s=none):dz s=none:=by
 rw[dz,if_neg hs];split
 · rfl
 · rename_i v r h';rw[h] at h';cases h'
def pZ{s r:List UInt8}{v:Val}(h:dj s=some (v,r)):dz s=if aw v then(dz r).map (v:: ·) else none:=by
 have hs:s≠ []:=fun e=>by subst e;cases h
 rw[dz,if_neg hs];split
 · rename_i h';rw[h] at h';cases h'
 · rename_i v' r' h';rw[h] at h';cases h';rfl
def dB(s:List UInt8):List Val×Int:=match dz s with|some l=>(l,0)|none=>([],1)
def ut: ∀{r:List UInt8} {j:Nat},r[j]?=some 0→j≤(dE r).length→(dE r).length=j
 | [],j,h,_=>by simp at h
 |b::r,0,h,_=>by simp at h;subst h;rfl
 |b::r,j+1,h,hj=>by
  by_cases hb:b=0
  · subst hb;simp[dE] at hj
  · have e:dE (b::r)=b::dE r:=by simp[dE,hb]
    rw[e] at hj⊢;simp only[lC] at hj⊢;rw[ut (by simpa using h) C]
def uu: ∀{r:List UInt8} {j:Nat} {c:UInt8},r[j]?=some c→c≠0→j≤(dE r).length→j+1≤(dE r).length
 | [],j,c,h,_,_=>by simp at h
 |b::r,0,c,h,hc,_=>by simp at h;subst h;simp[dE,hc]
 |b::r,j+1,c,h,hc,hj=>by
  by_cases hb:b=0
  · subst hb;simp[dE] at hj
  · have e:dE (b::r)=b::dE r:=by simp[dE,hb]
    rw[e] at hj⊢;simp only[lC] at hj⊢;have:=uu (r:=r) (j:=j) (c:=c) (by simpa using h) hc C;omega
def He(r:List UInt8):(dE r).length≤r.length:=(List.takeWhile_prefix _).length_le
def CI(r:List UInt8):r.take (dE r).length=dE r:=(List.prefix_iff_eq_take.1 (List.takeWhile_prefix _)).symm
section
variable {s:List UInt8}{acc:List Val}{b:UInt8}{r r':List UInt8}{v:Val}
def rP(hi:dz s=(dz (b::r)).map (acc++ ·))(h:dj (b::r)=some (v,r'))(hg:aw v=true):dz s=(dz r').map ((acc++ [v])++ ·):=by
 rw[hi,pZ h,if_pos hg,Option.map_map];congr 1;funext l;simp
def AC(hi:dz s=(dz (b::r)).map (acc++ ·))(h:dj (b::r)=some (v,r'))(hg:aw v=false):dB s=([],1):=by
 have:dz s=none:=by rw[hi,pZ h,hg];rfl
 simp[dB,this]
def rQ(hi:dz s=(dz (b::r)).map (acc++ ·))(h:dj (b::r)=none):dB s=([],1):=by
 have:dz s=none:=by rw[hi,CG sP h];rfl
 simp[dB,this]
end
def mu(s:List UInt8)(hlen:32*s.length≤140737488355328):CallA prog 56 [aS s] [] [] [] (.tup [.iv (.sl ((dB s).1.map Val.c)),.iv (I (dB s).2)]):=by
 refine CallA.intro 81 func56 rfl rfl rfl (fun w0 E0=> ?_);refine wz ?_;refine L.adopt 4 (s:=4) (t:=41) (k:=3) U U U ?_;refine ae (ι:=List Val×List UInt8) (fun i=>⟨[(4,.row 4 (i.1.map Val.c)),(0,aS i.2)],[],[(4,⟨41,3⟩)]⟩) (fun i=>i.2.length) (fun i=>dz s=(dz i.2).map (i.1++ ·)∧i.1.length+i.2.length≤s.length) (i0:=([],s)) ?_ sP ?_
 · exact df
 rintro ⟨acc,s'⟩ ⟨hi,hl⟩ K hK;dsimp only at hi hl⊢;cases s' with
 |nil=>
  have hne:(!(([]:List UInt8)== []))=false:=rfl;refine wz ?_;all_goals refine bn ?_
  rw[xm] at hi;simp[dB,hi]
 |cons b r=>
  have hne:(!(b::r==([]:List UInt8)))=true:=by simp
  simp only[lC] at hl;by_cases h1:b=1
  · subst h1;have hv:dj (1::r)=some (⟨0,0,[]⟩,r):=rfl;have hg:aw ⟨0,0,[]⟩=true:=rfl;have hng:(!aw ⟨0,0,[]⟩)=false:=rfl;(repeat' first|intro hb hp|(refine LW.is ?_;first|refine ag U (bF U U dD U) ?_|refine ag U (bq U U dD (by simp<;>omega) (by show _=r;rfl)) ?_|refine s_C (aX ⟨0,0,[]⟩) ?_)|refine am ?_|refine ak ?_ ?_|fail)
    · refine L.only [4,0] ?_;refine L.retok 4 79 4 U U U U ?_;refine hK _ (acc++ [⟨0,0,[]⟩],r) ⟨rP hi hv hg,by simp<;>omega⟩ (by simp<;>omega) (Wk.mk' kK (.cons U (Sub.of_eq (congrArg (AV.row 4) ?_)) F1) .nil (.cons U .nil));simp[cY,Val.c]
  by_cases h2:b=2
  · subst h2;by_cases hr:r.length<4
    · have hv:dj (2::r)=none:=by simp[dj,hr]
      have hlt:decide ((r.length:Int)<4)=true:=by simp;omega
      (repeat' first|intro hb hp|(refine LW.is ?_;first|refine ag U (bF U U dD U) ?_|refine ag U (bq U U dD (by simp<;>omega) (by show _=r;rfl)) ?_)|refine am ?_|refine ak ?_ ?_|fail)
      all_goals refine bn ?_
      rw[rQ hi hv];rfl
    · have hlt:decide ((r.length:Int)<4)=false:=by simp;omega
      obtain⟨c0,c1,c2,c3,t,rfl⟩: ∃c0 c1 c2 c3 t,r=c0::c1::c2::c3::t:=by
       match r,hr with
       | [],h=>simp at h
       | [_],h=>simp at h
       | [_,_],h=>simp at h
       | [_,_,_],h=>simp at h
       |c0::c1::c2::c3::t,_=>exact⟨c0,c1,c2,c3,t,rfl⟩
      have k0:=c0.toNat_lt;have k1:=c1.toNat_lt;have k2:=c2.toNat_lt;have k3:=c3.toNat_lt;have hv:dj (2::c0::c1::c2::c3::t)=some (⟨1,sN (c0::c1::c2::c3::t),[]⟩,t):=by simp[dj]
      cases hg:aw ⟨1,sN (c0::c1::c2::c3::t),[]⟩ with
      |false=>
       have hng:(!aw ⟨1,sN (c0::c1::c2::c3::t),[]⟩)=true:=by rw[hg];rfl
       (repeat' first|intro hb hp|(refine LW.is ?_;first|refine ag U (bF U U dD U) ?_|(refine ag U (bq U U dD (by simp<;>omega) (by first|(show _=c0::c1::c2::c3::t;rfl)|(show _=t;rfl))) ?_)|refine s_C (aX ⟨1,sN (c0::c1::c2::c3::t),[]⟩) ?_)|(refine DR.is ?_;first|refine bk U (bF U U dD U) ?_|refine bk U (rL (p:=16777216) U U dD dD C C) ?_|refine bk U (rL (p:=65536) U U dD dD C C) ?_|refine bk U (rL (p:=256) U U dD dD C C) ?_|refine bk U (xp (a:=(c0.toNat:Int)) (p:=16777216) 24 U U dD C C C C C) ?_|refine bk U (xp (a:=(c0.toNat:Int)*256+c1.toNat) (p:=65536) 16 U U dD C C C C C) ?_|refine bk U (xp (a:=(c0.toNat:Int)*65536+c1.toNat*256+c2.toNat) (p:=256) 8 U U dD C C C C C) ?_)|refine am ?_|refine ak ?_ ?_|fail)
       all_goals refine bn ?_
       rw[AC hi hv hg];rfl
      |true=>
       have hng:(!aw ⟨1,sN (c0::c1::c2::c3::t),[]⟩)=false:=by rw[hg];rfl
       (repeat' first|intro hb hp|(refine LW.is ?_;first|refine ag U (bF U U dD U) ?_|(refine ag U (bq U U dD (by simp<;>omega) (by first|(show _=c0::c1::c2::c3::t;rfl)|(show _=t;rfl))) ?_)|refine s_C (aX ⟨1,sN (c0::c1::c2::c3::t),[]⟩) ?_)|(refine DR.is ?_;first|refine bk U (bF U U dD U) ?_|refine bk U (rL (p:=16777216) U U dD dD C C) ?_|refine bk U (rL (p:=65536) U U dD dD C C) ?_|refine bk U (rL (p:=256) U U dD dD C C) ?_|refine bk U (xp (a:=(c0.toNat:Int)) (p:=16777216) 24 U U dD C C C C C) ?_|refine bk U (xp (a:=(c0.toNat:Int)*256+c1.toNat) (p:=65536) 16 U U dD C C C C C) ?_|refine bk U (xp (a:=(c0.toNat:Int)*65536+c1.toNat*256+c2.toNat) (p:=256) 8 U U dD C C C C C) ?_)|refine am ?_|refine ak ?_ ?_|fail)
       refine L.only [4,0] ?_;refine L.retok 4 79 4 U U U U ?_;refine hK _ (acc++ [⟨1,sN (c0::c1::c2::c3::t),[]⟩],t) ⟨rP hi hv hg,by simp at hl⊢ <;>omega⟩ (by simp<;>omega) (Wk.mk' kK (.cons U (Sub.of_eq (congrArg (AV.row 4) ?_)) F1) .nil (.cons U .nil));simp[cY,Val.c,sN]
  by_cases h3:b=3
  · subst h3;(repeat' first|intro hb hp|(refine LW.is ?_;first|refine ag U (bF U U dD U) ?_|refine ag U (bq U U dD (by simp<;>omega) (by show _=r;rfl)) ?_)|refine am ?_|refine ak ?_ ?_|fail)
    have hule:=He r;refine ae (ι:=Nat) (fun j=>⟨[(6,aI (j:Int)),(5,.ptr 5 0),(4,.row 4 (acc.map Val.c)),(0,aS r)],[(5,⟨41,.l [.iv (I 2),.iv (I 0),.iv (S [])]⟩)],[(4,⟨41,3⟩)]⟩) (fun j=>r.length - j) (fun j=>j≤(dE r).length) (i0:=0) ?_ (Nat.zero_le _) ?_
    · exact df
    intro j hj K2 hK2;cases hc:r[j]? with
    |none=>
     have hlt:=fa hc;have hjl:r.length≤j:=gO hc;have hju:(dE r).length=r.length:=C;have hv:dj (3::r)=none:=by simp[dj,hju]
     have hjr:((j:Int)==(r.length:Int))=true:=by simp;omega
     refine wz ?_;all_goals refine bn ?_
     rw[rQ hi hv];rfl
    |some c=>
     have hlt:=eZ hc;have hjl:=eP hc;by_cases hz:c=0
     · subst hz;have hju:=ut hc hj;have htk:r.take j=dE r:=by rw[←hju];exact CI r
       have hjr:((j:Int)==(r.length:Int))=false:=by simp;omega
       have hv:dj (3::r)=some (⟨2,0,r.take j⟩,r.drop (j+1)):=by
        have: ¬(dE r).length=r.length:=C;simp only[dj];rw[if_neg dD,if_neg dD,if_pos dD,if_neg this,hju,htk]
       cases hg:aw ⟨2,0,r.take j⟩ with
       |false=>
        have hng:(!aw ⟨2,0,r.take j⟩)=true:=by rw[hg];rfl
        (repeat' first|intro hb hp|refine LW.is (s_C (aX ⟨2,0,r.take j⟩) ?_)|(refine DR.is ?_;first|refine bk U (eU U U C C (by show _=r.take j;rfl)) ?_|refine bk U (bq U U C C (by show _=r.drop (j+1);rfl)) ?_)|refine am ?_|refine ak ?_ ?_|fail)
        all_goals refine bn ?_
        rw[AC hi hv hg];rfl
       |true=>
        have hng:(!aw ⟨2,0,r.take j⟩)=false:=by rw[hg];rfl
        (repeat' first|intro hb hp|refine LW.is (s_C (aX ⟨2,0,r.take j⟩) ?_)|(refine DR.is ?_;first|refine bk U (eU U U C C (by show _=r.take j;rfl)) ?_|refine bk U (bq U U C C (by show _=r.drop (j+1);rfl)) ?_)|refine am ?_|refine ak ?_ ?_|fail)
        refine L.only [4,0] ?_;refine L.retok 4 79 4 U U U U ?_;refine hK _ (acc++ [⟨2,0,r.take j⟩],r.drop (j+1)) ⟨rP hi hv hg,by simp at hl⊢ <;>omega⟩ (by simp<;>omega) (Wk.mk' kK (.cons U (Sub.of_eq (congrArg (AV.row 4) ?_)) F1) .nil (.cons U .nil));simp[cY,Val.c]
     · have hnz:((c.toNat:Int) !=0)=true:=by
        have:c.toNat≠0:=fun h=>hz (UInt8.toNat_inj.1 h)
        simpa using this
       have hnx:=uu hc hz hj;refine wz ?_;refine hK2 _ (j+1) hnx C ?_;exact df
  · have hb:=b.toNat_lt;have n1:b.toNat≠1:=fun h=>h1 (UInt8.toNat_inj.1 h)
    have n2:b.toNat≠2:=fun h=>h2 (UInt8.toNat_inj.1 h)
    have n3:b.toNat≠3:=fun h=>h3 (UInt8.toNat_inj.1 h)
    have hv:dj (b::r)=none:=by simp[dj,n1,n2,n3]
    have q1:((b.toNat:Int) - 1==0)=false:=by simp;omega
    have q2:((b.toNat:Int) - 1==1)=false:=by simp;omega
    have q3:((b.toNat:Int) - 1==2)=false:=by simp;omega
    have hg:aw ⟨(b.toNat:Int) - 1,0,[]⟩=false:=by
     unfold aw;rw[if_neg (by simpa using q1),if_neg (by simpa using q2),if_neg (by simpa using q3)]
    have hng:(!aw ⟨(b.toNat:Int) - 1,0,[]⟩)=true:=by rw[hg];rfl
    (repeat' first|intro hb hp|(refine LW.is ?_;first|refine ag U (bF U U dD U) ?_|refine ag U (bq U U dD (by simp<;>omega) (by show _=r;rfl)) ?_|refine s_C (aX ⟨(b.toNat:Int) - 1,0,[]⟩) ?_)|refine am ?_|refine ak ?_ ?_|fail)
    all_goals refine bn ?_
    rw[rQ hi hv];rfl
def Mg(a b:Int):CallA prog 196 [aI a,aI b] [] [] [] (aI (orM a b)):=by
 refine iA func196 ntmps196 (fun w0 E0=> ?_);(repeat' first|intro hb hp|(refine LW.is ?_;first|refine gp U (uh a) U U ?_|refine gp U (uh b) U U ?_|refine gp U (Fn (vq a) (vq b)) U U ?_|refine gp U (uh (Cv (vq a) (vq b))) U U ?_)|refine am ?_|refine ak ?_ ?_|fail)
 all_goals refine bn ?_
 rfl
end Go.Proofs.Y
namespace Go.Proofs.Y
open Go.Abs
def Gp{b:UInt8}(h:iJ b=true):b≠0:=by
 intro e;subst e;simp[iJ] at h
def Fv{s r:List UInt8}(h:s.all iJ=true):dE (s++0::r)=s:=by
 induction s with
 |nil=>simp[dE]
 |cons b s ih=>
  simp only[List.all_cons,aE] at h;have:=Gp h.1;have ih:=ih h.2;unfold dE at ih⊢;simp[this,ih]
def jE{n:Int}(h0:0≤n):((u8 n).toNat:Int)=n % 256:=by rw[tZ,IntKind.wrap_u8]
def Jc{x:Int}(h0:0≤x)(h1:x<4294967296)(r:List UInt8):sN (Ef x++r)=x - 1073741824:=by
 have e0:=jE (n:=x / 16777216) C;have e1:=jE (n:=x / 65536) C;have e2:=jE (n:=x / 256) C;have e3:=jE (n:=x) C;simp only[sN,Ef,List.cons_append,List.getD_cons_zero,List.getD_cons_succ];omega
def nw{v:Val}(h:aw v=true):v=⟨0,0,[]⟩∨(∃n:Int,v=⟨1,n,[]⟩∧ -1000000≤n∧n≤1000000)∨ ∃s,v=⟨2,0,s⟩∧s.length≤8∧s.all iJ=true:=by
 obtain⟨k,n,s⟩:=v;unfold aw at h;split at h
 · rename_i h0;simp at h h0;left;simp[h,h0]
 · split at h
   · rename_i h0;simp at h h0;right;left;exact⟨n,by simp[h,h0],h.2⟩
   · split at h
     · rename_i h0;simp only[aE,beq_iff_eq,decide_eq_true_eq] at h;simp only at h0;right;right;exact⟨s,by simp[h.1,h0],h.2⟩
     · cases h
def pE:ca ⟨0,0,[]⟩= [1]:=by simp[ca,u8,IntKind.wrap_u8]
def lL(n:Int):ca ⟨1,n,[]⟩=2::Ef (n+1073741824):=by simp[ca,u8,IntKind.wrap_u8]
def lK(s:List UInt8):ca ⟨2,0,s⟩=3::(s++ [0]):=by simp[ca,u8,IntKind.wrap_u8]
def JG(s:List UInt8):dj (2::s)=if s.length<4 then none else some (⟨1,sN s,[]⟩,s.drop 4):=by
 simp only[dj];rw[if_neg dD,if_pos dD]
def JF(s:List UInt8):dj (3::s)=if(dE s).length=s.length then none else some (⟨2,0,dE s⟩,s.drop ((dE s).length+1)):=by
 simp only[dj];rw[if_neg dD,if_neg dD,if_pos dD]
def qe{v:Val}(h:aw v=true)(r:List UInt8):dj (ca v++r)=some (v,r):=by
 rcases nw h with rfl|⟨n,rfl,h0,h1⟩|⟨s,rfl,hl,hs⟩
 · rw[pE];rfl
 · rw[lL];have hl: ¬(Ef (n+1073741824)++r).length<4:=by simp[Ef]
   have e:sN (Ef (n+1073741824)++r)=n:=by rw[Jc C C];omega
   have ed:(Ef (n+1073741824)++r).drop 4=r:=by simp[Ef]
   show dj (2::(Ef (n+1073741824)++r))=_;rw[JG,if_neg hl,e,ed]
 · rw[lK];have hu:dE ((s++ [0])++r)=s:=by
    have:=Fv (r:=r) hs;simpa using this
   have hl: ¬(dE ((s++ [0])++r)).length=((s++ [0])++r).length:=by rw[hu];simp
   have ed:((s++ [0])++r).drop (s.length+1)=r:=by
    rw[List.drop_append_of_le_length sP];simp
   show dj (3::((s++ [0])++r))=_;rw[JF,if_neg hl,hu,ed]
def xo: ∀{vs:List Val},vs.all aw=true→dz (vs.flatMap ca)=some vs
 | [],_=>xm
 |v::vs,h=>by
  simp only[List.all_cons,aE] at h;rw[List.flatMap_cons,pZ (qe h.1 _),if_pos h.1,xo h.2];rfl
def words:List (List UInt8):= [[97,110,100],[98,121],[99,114,101,97,116,101],[100,101,108,101,116,101],[100,101,115,99],[100,114,111,112],[102,114,111,109],[105,110,100,101,120],[105,110,115,101,114,116],[105,110,116],[105,110,116,111],[105,115],[108,105,109,105,116],[109,117,115,116],[110,111,116],[110,117,108,108],[111,110],[111,114],[111,114,100,101,114],[115,101,108,101,99,116],[115,101,116],[116,97,98,108,101],[116,101,120,116],[117,112,100,97,116,101],[118,97,108,117,101,115],[119,104,101,114,101]]
def xh:words.length=26:=rfl
def tV:au:= [(0,[.sl (words.map fun s=> [S s])])]
def Iw:(0,[IV.sl (words.map fun s=> [S s])])∈tV:=by simp[tV]
attribute [irreducible] words tV
def tp:List IV:=Lib.pow10Tab.map fun z=> .im (.int .u64 z)
def cA[Errs]:au:=(2,[.im Errs.s])::(3,[.im Errs.r])::(4,tp)::tV
def Nf[Errs]:(2,[IV.im Errs.s])∈cA:=by simp[cA]
def Ng[Errs]:(3,[IV.im Errs.r])∈cA:=by simp[cA]
def LG[Errs]:(4,tp)∈cA:=by simp[cA]
def KA[Errs]: ∀p∈tV,p∈cA:=fun p h=>by simp only[cA,List.mem_cons];exact .inr (.inr (.inr h))
def CA[Errs]{P:Program}{f:FuncId}{args:List AV}{bx bx':List (Nat×Box)}{tk':List (Nat×Tok)}{res:AV}(h:CallG tV P f args bx bx' tk' res):CallG cA P f args bx bx' tk' res:=h.sub KA
attribute [irreducible] cA
end Go.Proofs.Y
namespace Go.Proofs.Y
open Go.Abs Go.Proofs.Tryz
attribute [local irreducible] L Code.wp bodyPost Exit.then Exit.inBlock
variable [Dr]
def fN(a b:Int):Int:=if a<b then -1 else if b<a then 1 else 0
def ly(a b:List UInt8):Int:=if Op.bytesLess a b then -1 else if Op.bytesLess b a then 1 else 0
def tU:List Int→Int
 | [] =>0
 |x::l=>if x=0 then tU l else x
def cD(v w:Val):Int:=tU [fN v.k w.k,fN v.n w.n,ly v.s w.s]
def cI(n:Int):List IV:= [I n]
def Ig(a:Int):CallA prog 83 [aI a] [] [] [] (aB false):=by
 refine iA func83 ntmps83 (fun w0 E0=> ?_);refine wz ?_;all_goals refine bn ?_
 all_goals simp[resOf]
def vw(a:List UInt8):CallA prog 84 [aS a] [] [] [] (aB false):=by
 refine iA func84 ntmps84 (fun w0 E0=> ?_);refine wz ?_;all_goals refine bn ?_
 all_goals simp[resOf]
def Jq(a b:Int):CallA prog 47 [aI a,aI b] [] [] [] (aI (fN a b)):=by
 refine iA func47 ntmps47 (fun w0 E0=> ?_);(repeat' first|intro hb hp|refine LW.is (s_C (Ig _) ?_)|refine am ?_|refine ak ?_ ?_|fail)
 all_goals refine bn ?_
 all_goals simp only[decide_eq_true_eq,decide_eq_false_iff_not] at*
 all_goals simp[resOf,fN, *]
def iy: ∀(x y:List UInt8),Op.bytesLess x y=decide (x<y):=by
 intro x;induction x with
 |nil=>intro y;cases y<;>simp[Op.bytesLess]
 |cons a x ih=>
  intro y;cases y with
  |nil=>simp[Op.bytesLess]
  |cons b y=>
   unfold Op.bytesLess;rw[ih y,Bool.eq_iff_iff];simp[List.cons_lt_cons_iff]
def Js{a b:List UInt8}:(!(Op.bytesLess a b||a==b))=Op.bytesLess b a:=by
 rw[iy,iy];by_cases h:b<a
 · have h1: ¬a<b:=List.lt_asymm h;have h2:a≠b:=fun e=>by subst e;exact List.lt_irrefl _ h
   simp[h,h1,h2]
 · by_cases h1:a<b
   · simp[h,h1]
   · have:a=b:=List.le_antisymm (List.not_lt.1 h) (List.not_lt.1 h1);simp[h,this]
def Jo(a b:List UInt8):CallA prog 48 [aS a,aS b] [] [] [] (aI (ly a b)):=by
 refine iA func48 ntmps48 (fun w0 E0=> ?_);cases h1:Op.bytesLess a b with
 |true=>
  (repeat' first|intro hb hp|refine LW.is (s_C (vw _) ?_)|refine am ?_|refine ak ?_ ?_|fail)
  all_goals refine bn ?_
  all_goals simp[resOf,ly, *]
 |false=>
  have h2:(!(Op.bytesLess a b||a==b))=Op.bytesLess b a:=Js;cases h3:Op.bytesLess b a with
  |true=>
   rw[h3] at h2;(repeat' first|intro hb hp|refine LW.is (s_C (vw _) ?_)|refine am ?_|refine ak ?_ ?_|fail)
   all_goals refine bn ?_
   all_goals simp[resOf,ly, *]
  |false=>
   rw[h3] at h2;(repeat' first|intro hb hp|refine LW.is (s_C (vw _) ?_)|refine am ?_|refine ak ?_ ?_|fail)
   all_goals refine bn ?_
   all_goals simp[resOf,ly, *]
def Kg(vs:List Int)(hl:vs.length≤1000):CallA prog 46 [.iv (.sl (vs.map cI))] [] [] [] (aI (tU vs)):=by
 refine iA func46 ntmps46 (fun w0 E0=> ?_);refine wz ?_;refine ae (ι:=Nat) (fun i=>⟨[(8,aI (i:Int)),(7,aI ((vs.map cI).length:Int)),(6,.iv (.sl (vs.map cI))),(3,aI 0)],[],[]⟩) (fun i=>vs.length - i) (fun i=>tU vs=tU (vs.drop i)) (i0:=0) ?_ U ?_
 · exact df
 intro i hi K hK;cases hv:vs[i]? with
 |none=>
  have hlt:=fa (l:=vs.map cI) (bf hv);refine wz ?_;all_goals refine bn ?_
  rw[hi,oN hv];rfl
 |some v=>
  have hlt:=eZ (l:=vs.map cI) (cq hv);have hlt':=eP hv;rw[eS hv] at hi;cases hq:v !=0 with
  |true=>
   refine wz ?_;all_goals refine bn ?_
   simp at hq;simp[hi,tU,hq]
  |false=>
   refine wz ?_;refine hK _ (i+1) ?_ C ?_
   · simp at hq;simp[hi,tU,hq]
   · exact df
def nF(v w:Val):CallA prog 21 [.agg (v.c.map .iv),.agg (w.c.map .iv)] [] [] [] (aI (cD v w)):=by
 refine iA func21 ntmps21 (fun w0 E0=> ?_);(repeat' first|intro hb hp|(refine DR.is ?_;first|refine d_C (Jq _ _) ?_|refine d_C (Jo _ _) ?_|refine ry U (Kg [fN v.k w.k,fN v.n w.n,ly v.s w.s] sP) U U ?_)|refine am ?_|refine ak ?_ ?_|fail)
 all_goals refine bn ?_
 all_goals rfl
end Go.Proofs.Y
namespace Go.Proofs.Y
open Go.Abs Go.Proofs.Tryz
attribute [local irreducible] L Code.wp bodyPost Exit.then Exit.inBlock
def af:Val:=⟨0,0,[]⟩
def rG(v:Val):Int:=if v.k=3 then v.n % 2 else 2
def dX(n:Int):Val:=if n=0∨n=1 then⟨3,n,[]⟩ else af
def zu(b:Bool):Int:=if b then 1 else 0
def tR(op:Int)(a b:Val):Val:=let n:=if op=4 then a.n - b.n else a.n+b.n;if aw ⟨1,n,[]⟩ then⟨1,n,[]⟩ else af
def qg(op:Int)(a b:Val):Val:=
 if op=7 then dX (Cv (rG a) (rG b))
 else if op=8 then dX (orM (rG a) (rG b))
 else if a.k≠b.k∨aw a=false∨aw b=false∨a.k=0 then af
 else if op=5 then dX (zu (cD a b==0))
 else if op=6 then dX (zu (decide (cD a b<0)))
 else if a.k≠1∨(op≠3∧op≠4) then af
 else tR op a b
def sk(v:Val):CallA prog 167 [.agg (v.c.map .iv)] [] [] [] (aI (rG v)):=by
 refine iA func167 ntmps167 (fun w0 E0=> ?_);(repeat' first|intro hb hp|refine am ?_|refine ak ?_ ?_|fail)
 all_goals refine bn ?_
 all_goals simp[rG,resOf, *]
 have:=Int.emod_nonneg v.n (b:=2) dD;have:=Int.emod_lt_of_pos v.n (b:=2) dD;omega
def jU(n:Int):CallA prog 165 [aI n] [] [] [] (.agg ((dX n).c.map .iv)):=by
 refine iA func165 ntmps165 (fun w0 E0=> ?_);by_cases h:n=0∨n=1
 · have e:dX n=⟨3,n,[]⟩:=by rw[dX,if_pos h]
   rw[e];rcases h with rfl|rfl
   · refine wz ?_;all_goals refine bn ?_
     all_goals kernel_rfl
   · refine wz ?_;all_goals refine bn ?_
     all_goals kernel_rfl
 · have e:dX n=af:=by rw[dX,if_neg h]
   rw[e];have h0:(n !=0)=true:=by simp;omega
   have h1:(n !=1)=true:=by simp;omega
   refine wz ?_;all_goals refine bn ?_
   all_goals kernel_rfl
def zt(b:Bool):CallA prog 168 [aB b] [] [] [] (aI (zu b)):=by
 refine iA func168 ntmps168 (fun w0 E0=> ?_);cases b
 · refine wz ?_;all_goals refine bn ?_
   all_goals rfl
 · refine wz ?_;all_goals refine bn ?_
   all_goals rfl
def yT(op:Int)(a b:Val):CallA prog 169 [aI op,.agg (a.c.map .iv),.agg (b.c.map .iv)] [] [] [] (.agg ((qg op a b).c.map .iv)):=by
 refine iA func169 ntmps169 (fun w0 E0=> ?_);by_cases h7:op=7
 · subst h7;have e:qg 7 a b=dX (Cv (rG a) (rG b)):=by simp[qg]
   rw[e];(repeat' first|intro hb hp|(refine DR.is ?_;first|refine d_C (sk a) ?_|refine d_C (sk b) ?_|refine d_C (Fn _ _) ?_|refine d_C (jU _) ?_)|refine am ?_|refine ak ?_ ?_|fail)
   all_goals refine bn ?_
   all_goals kernel_rfl
 have q7:(op==7)=false:=by simp[h7]
 by_cases h8:op=8
 · subst h8;have e:qg 8 a b=dX (orM (rG a) (rG b)):=by simp[qg]
   rw[e];(repeat' first|intro hb hp|(refine DR.is ?_;first|refine d_C (sk a) ?_|refine d_C (sk b) ?_|refine d_C (Mg _ _) ?_|refine d_C (jU _) ?_)|refine am ?_|refine ak ?_ ?_|fail)
   all_goals refine bn ?_
   all_goals kernel_rfl
 have q8:(op==8)=false:=by simp[h8]
 have e1:qg op a b=if a.k≠b.k∨aw a=false∨aw b=false∨a.k=0 then af else if op=5 then dX (zu (cD a b==0)) else if op=6 then dX (zu (decide (cD a b<0))) else if a.k≠1∨(op≠3∧op≠4) then af else tR op a b:=by
  rw[qg,if_neg h7,if_neg h8]
 rw[e1];clear e1;by_cases hk:a.k=b.k
 case neg=>
  rw[if_pos (.inl hk)];have qk:(a.k !=b.k)=true:=by simp[hk]
  refine wz ?_;all_goals refine bn ?_
  all_goals kernel_rfl
 have qk:(a.k !=b.k)=false:=by simp[hk]
 cases ga:aw a with
 |false=>
  rw[if_pos (.inr (.inl U))];have qa:(!aw a)=true:=by rw[ga];rfl
  (repeat' first|intro hb hp|refine LW.is (s_C (aX a) ?_)|refine am ?_|refine ak ?_ ?_|fail)
  all_goals refine bn ?_
  all_goals kernel_rfl
 |true=>
 have qa:(!aw a)=false:=by rw[ga];rfl
 cases gb:aw b with
 |false=>
  rw[if_pos (.inr (.inr (.inl U)))];have qb:(!aw b)=true:=by rw[gb];rfl
  (repeat' first|intro hb hp|(refine LW.is ?_;first|refine s_C (aX a) ?_|refine s_C (aX b) ?_)|refine am ?_|refine ak ?_ ?_|fail)
  all_goals refine bn ?_
  all_goals kernel_rfl
 |true=>
 have qb:(!aw b)=false:=by rw[gb];rfl
 by_cases h0:a.k=0
 · rw[if_pos (.inr (.inr (.inr h0)))];have q0:(a.k==0)=true:=by simp[h0]
   (repeat' first|intro hb hp|(refine LW.is ?_;first|refine s_C (aX a) ?_|refine s_C (aX b) ?_)|refine am ?_|refine ak ?_ ?_|fail)
   all_goals refine bn ?_
   all_goals kernel_rfl
 have q0:(a.k==0)=false:=by simp[h0]
 rw[if_neg (by
  rintro (h|h|h|h)
  · exact h hk
  · cases h
  · cases h
  · exact h0 h)]
 by_cases h5:op=5
 · subst h5;rw[if_pos U];(repeat' first|intro hb hp|(refine LW.is ?_;first|refine s_C (aX a) ?_|refine s_C (aX b) ?_|refine s_C (nF a b) ?_|refine s_C (zt _) ?_|refine s_C (jU _) ?_)|refine am ?_|refine ak ?_ ?_|fail)
   all_goals refine bn ?_
   all_goals kernel_rfl
 rw[if_neg h5];have q5:(op==5)=false:=by simp[h5]
 by_cases h6:op=6
 · subst h6;rw[if_pos U];(repeat' first|intro hb hp|(refine LW.is ?_;first|refine s_C (aX a) ?_|refine s_C (aX b) ?_|refine s_C (nF a b) ?_|refine s_C (zt _) ?_|refine s_C (jU _) ?_)|refine am ?_|refine ak ?_ ?_|fail)
   all_goals refine bn ?_
   all_goals kernel_rfl
 rw[if_neg h6];have q6:(op==6)=false:=by simp[h6]
 by_cases h1:a.k=1
 case neg=>
  rw[if_pos (.inl h1)];have q1:(a.k !=1)=true:=by simp[h1]
  (repeat' first|intro hb hp|(refine LW.is ?_;first|refine s_C (aX a) ?_|refine s_C (aX b) ?_)|refine am ?_|refine ak ?_ ?_|fail)
  all_goals refine bn ?_
  all_goals kernel_rfl
 have q1:(a.k !=1)=false:=by simp[h1]
 obtain⟨_,_,ha0,ha1,_⟩:=ny ga;obtain⟨_,_,hb0,hb1,_⟩:=ny gb;by_cases h4:op=4
 · subst h4;rw[if_neg (by simp[h1])];cases gn:aw ⟨1,a.n - b.n,[]⟩ with
   |false=>
    have e:tR 4 a b=af:=by simp[tR,gn]
    rw[e];(repeat' first|intro hb hp|(refine LW.is ?_;first|refine s_C (aX a) ?_|refine s_C (aX b) ?_|refine s_C (aX ⟨1,a.n - b.n,[]⟩) ?_)|refine am ?_|refine ak ?_ ?_|fail)
    all_goals refine bn ?_
    all_goals kernel_rfl
   |true=>
    have e:tR 4 a b=⟨1,a.n - b.n,[]⟩:=by simp[tR,gn]
    rw[e];(repeat' first|intro hb hp|(refine LW.is ?_;first|refine s_C (aX a) ?_|refine s_C (aX b) ?_|refine s_C (aX ⟨1,a.n - b.n,[]⟩) ?_)|refine am ?_|refine ak ?_ ?_|fail)
    all_goals refine bn ?_
    all_goals kernel_rfl
 have q4:(op==4)=false:=by simp[h4]
 have q4':(op !=4)=true:=by simp[h4]
 by_cases h3:op=3
 · subst h3;rw[if_neg (by simp[h1])];cases gn:aw ⟨1,a.n+b.n,[]⟩ with
   |false=>
    have e:tR 3 a b=af:=by simp[tR,gn]
    rw[e];(repeat' first|intro hb hp|(refine LW.is ?_;first|refine s_C (aX a) ?_|refine s_C (aX b) ?_|refine s_C (aX ⟨1,a.n+b.n,[]⟩) ?_)|refine am ?_|refine ak ?_ ?_|fail)
    all_goals refine bn ?_
    all_goals kernel_rfl
   |true=>
    have e:tR 3 a b=⟨1,a.n+b.n,[]⟩:=by simp[tR,gn]
    rw[e];(repeat' first|intro hb hp|(refine LW.is ?_;first|refine s_C (aX a) ?_|refine s_C (aX b) ?_|refine s_C (aX ⟨1,a.n+b.n,[]⟩) ?_)|refine am ?_|refine ak ?_ ?_|fail)
    all_goals refine bn ?_
    all_goals kernel_rfl
 · rw[if_pos (.inr ⟨h3,h4⟩)];have q3:(op !=3)=true:=by simp[h3]
   (repeat' first|intro hb hp|(refine LW.is ?_;first|refine s_C (aX a) ?_|refine s_C (aX b) ?_)|refine am ?_|refine ak ?_ ?_|fail)
   all_goals refine bn ?_
   all_goals kernel_rfl
inductive Ex where
 |mk (op:Int) (v:Val) (s name:List UInt8) (n:Int) (l:List Ex)
def Ex.op:Ex→Int| .mk op _ _ _ _ _=>op
def Ex.v:Ex→Val| .mk _ v _ _ _ _=>v
def Ex.s:Ex→List UInt8| .mk _ _ s _ _ _=>s
def Ex.name:Ex→List UInt8| .mk _ _ _ s _ _=>s
def Ex.n:Ex→Int| .mk _ _ _ _ n _=>n
def Ex.l:Ex→List Ex| .mk _ _ _ _ _ l=>l
def Ex.c:Ex→List IV
 | .mk op v s name n l=> [I op,I v.k,I v.n,S v.s,S s,S name,I n,.sl (l.attach.map fun x=>x.1.c)]
 decreasing_by
  have:=List.sizeOf_lt_of_mem x.2;simp;omega
def Ex.c_eq(op:Int)(v:Val)(s name:List UInt8)(n:Int)(l:List Ex):Ex.c (.mk op v s name n l)= [I op,I v.k,I v.n,S v.s,S s,S name,I n,.sl (l.map Ex.c)]:=by
 rw[Ex.c];simp[List.attach_map_val]
def mC(op:Int):List Val→Val
 | [a] =>if op=9 then dX (vq (rG a)) else if op=10 then dX (zu (a.k==0)) else af
 | [a,b] =>qg op a b
 |_=>af
def uZ(n:Int)(row:List Val):Val:=if 0≤n then(row[n.toNat]?).getD af else af
def jp(op:Int)(v:Val)(n:Int)(vs row:List Val):Val:=
 if op=1 then v else if op=2 then uZ n row else mC op vs
def aC(row:List Val):Ex→Val
 | .mk op v s name n l=>jp op v n (l.attach.map fun x=>aC row x.1) row
 decreasing_by
  have:=List.sizeOf_lt_of_mem x.2;simp;omega
def eR(row:List Val)(op:Int)(v:Val)(s name:List UInt8)(n:Int)(l:List Ex):aC row (.mk op v s name n l)=jp op v n (l.map (aC row)) row:=by
 rw[aC];simp
inductive Ex.Ok:Ex→Prop
 |mk {op:Int} {v:Val} {s name:List UInt8} {n:Int} {l:List Ex} (hl:l.length*104≤140737488355328) (h: ∀x∈l,x.Ok):Ex.Ok (.mk op v s name n l)
def oK(v:Val)(n:Int)(vs row:List Val):jp 2 v n vs row=uZ n row:=by simp[jp]
def jQ{op:Int}(v:Val)(n:Int)(vs row:List Val)(h1:op≠1)(h2:op≠2):jp op v n vs row=mC op vs:=by rw[jp,if_neg h1,if_neg h2]
def lg(row:List Val): ∀(e:Ex) (hok:e.Ok),CallA prog 119 [.agg (e.c.map .iv),.iv (.sl (row.map Val.c))] [] [] [] (.agg ((aC row e).c.map .iv))
 | .mk op v s name n l,hok=>by
   have ih: ∀x∈l,CallA prog 119 [.agg (x.c.map .iv),.iv (.sl (row.map Val.c))] [] [] [] (.agg ((aC row x).c.map .iv)):=fun x hx=>lg row x (by cases hok with|mk _ h=>exact h x hx)
   have hl:l.length*104≤140737488355328:=by cases hok with|mk hl _=>exact hl
   rw[Ex.c_eq,eR];refine iA func119 ntmps119 (fun w0 E0=> ?_);refine wz ?_;refine L.adopt 5 (s:=5) (t:=41) (k:=3) U U U ?_;refine ae (ι:=Nat) (fun i=>⟨[(11,aI (i:Int)),(10,aI ((l.map Ex.c).length:Int)),(9,.iv (.sl (l.map Ex.c))),(5,.row 5 (((l.take i).map (aC row)).map Val.c)),(1,.iv (.sl (row.map Val.c))),(2,.ptr 2 0),(4,.ptr 4 0)],
    [(2,⟨78,.l [.iv (I op),.iv (I v.k),.iv (I v.n),.iv (S v.s),.iv (S s),.iv (S name),.iv (I n),.iv (.sl (l.map Ex.c))]⟩),(4,⟨41,.l [.iv (I 0),.iv (I 0),.iv (S [])]⟩)],[(5,⟨41,3⟩)]⟩) (fun i=>l.length - i) (fun i=>True) (i0:=0) ?_ trivial ?_
   · exact df
   intro i _ K hK;cases hv:l[i]? with
   |some x=>
    have hlt:=eZ (l:=l.map Ex.c) (cq hv);have hlt':=eP hv;have ihx:=ih x (gE hv);have hnext:((l.take (i+1)).map (aC row)).map Val.c=((l.take i).map (aC row)).map Val.c++ [(aC row x).c]:=by rw[dg hv];simp
    generalize aC row x=r at ihx hnext;obtain⟨op',v',s',name',n',l'⟩:=x;rw[Ex.c_eq] at ihx;have he:(l.map Ex.c)[((i:Nat):Int).toNat]?=some [I op',I v'.k,I v'.n,S v'.s,S s',S name',I n',.sl (l'.map Ex.c)]:=by
     rw[←Ex.c_eq];simp[hv]
    clear hv ih hok;refine wz ?_;refine L.only [11,10,9,5,1,2,4] ?_;refine L.retok 5 20 5 U U U U ?_;refine hK _ (i+1) trivial C (Wk.mk' kK (wF (wF (wF (.cons U (Sub.of_eq (congrArg (AV.row 5) ?_)) F3)))) B2 (.cons U .nil));rw[hnext];rfl
   |none=>
    have hlt:=fa (l:=l.map Ex.c) (bf hv);rw[Lx hv];generalize hvs:l.map (aC row)=vs;clear hK ih hok hvs;by_cases h1:op=1
    · subst h1;have e:jp 1 v n vs row=v:=by simp[jp]
      rw[e];refine wz ?_;all_goals refine bn ?_
      all_goals kernel_rfl
    have q1:(op==1)=false:=by simp[h1]
    by_cases h2:op=2
    · subst h2;rw[oK];cases hn0:decide ((0:Int)≤n) with
      |false=>
       have e:uZ n row=af:=by simp at hn0;rw[uZ,if_neg C]
       rw[e];refine wz ?_;all_goals refine bn ?_
       all_goals kernel_rfl
      |true=>
       have hn0':0≤n:=by simpa using hn0
       cases hr:row[n.toNat]? with
       |none=>
        have e:uZ n row=af:=by rw[uZ,if_pos hn0',hr];rfl
        have hlt2:decide (n<((row.map Val.c).length:Int))=false:=by
         have:=gO hr;simp;omega
        rw[e];refine wz ?_;all_goals refine bn ?_
        all_goals kernel_rfl
       |some r=>
        have e:uZ n row=r:=by rw[uZ,if_pos hn0',hr];rfl
        have hlt2:decide (n<((row.map Val.c).length:Int))=true:=by
         have:=(gS hr).1;simp;omega
        have hrow:(row.map Val.c)[n.toNat]?=some r.c:=by simp[hr]
        rw[e];refine wz ?_;all_goals refine bn ?_
        all_goals kernel_rfl
    have q2:(op==2)=false:=by simp[h2]
    rw[jQ _ _ _ _ h1 h2];by_cases h9:op=9
    · subst h9
      match vs with
      | [] =>
        refine wz ?_;all_goals refine bn ?_
        all_goals kernel_rfl
      | [a] =>
        have e:mC 9 [a] =dX (vq (rG a)):=by simp[mC]
        rw[e];(repeat' first|intro hb hp|(refine LW.is ?_;first|refine ag U (cd U U dD U U) ?_|refine s_C (sk a) ?_|refine s_C (uh _) ?_|refine s_C (jU _) ?_)|refine am ?_|refine ak ?_ ?_|fail)
        all_goals refine bn ?_
        all_goals kernel_rfl
      | [a,b] =>
        (repeat' first|intro hb hp|(refine DR.is ?_;first|refine bk U (cd U U dD U U) ?_|refine d_C (yT 9 a b) ?_)|refine am ?_|refine ak ?_ ?_|fail)
        all_goals refine bn ?_
        all_goals kernel_rfl
      |a::b::c::t=>
       have hn1:((((a::b::c::t).map Val.c).length:Int)==1)=false:=by simp;omega
       have hn2:((((a::b::c::t).map Val.c).length:Int)==2)=false:=by simp;omega
       refine wz ?_;all_goals refine bn ?_
       all_goals kernel_rfl
    have q9:(op==9)=false:=by simp[h9]
    by_cases h10:op=10
    · subst h10
      match vs with
      | [] =>
        refine wz ?_;all_goals refine bn ?_
        all_goals kernel_rfl
      | [a] =>
        have e:mC 10 [a] =dX (zu (a.k==0)):=by simp[mC]
        rw[e];(repeat' first|intro hb hp|(refine LW.is ?_;first|refine ag U (cd U U dD U U) ?_|refine s_C (zt _) ?_|refine s_C (jU _) ?_)|refine am ?_|refine ak ?_ ?_|fail)
        all_goals refine bn ?_
        all_goals kernel_rfl
      | [a,b] =>
        (repeat' first|intro hb hp|(refine DR.is ?_;first|refine bk U (cd U U dD U U) ?_|refine d_C (yT 10 a b) ?_)|refine am ?_|refine ak ?_ ?_|fail)
        all_goals refine bn ?_
        all_goals kernel_rfl
      |a::b::c::t=>
       have hn1:((((a::b::c::t).map Val.c).length:Int)==1)=false:=by simp;omega
       have hn2:((((a::b::c::t).map Val.c).length:Int)==2)=false:=by simp;omega
       refine wz ?_;all_goals refine bn ?_
       all_goals kernel_rfl
    have q10:(op==10)=false:=by simp[h10]
    match vs with
    | [] =>
      refine wz ?_;all_goals refine bn ?_
      all_goals kernel_rfl
    | [a] =>
      have e:mC op [a] =af:=by simp[mC,h9,h10]
      rw[e];refine wz ?_;all_goals refine bn ?_
      all_goals kernel_rfl
    | [a,b] =>
      (repeat' first|intro hb hp|(refine DR.is ?_;first|refine bk U (cd U U dD U U) ?_|refine d_C (yT op a b) ?_)|refine am ?_|refine ak ?_ ?_|fail)
      all_goals refine bn ?_
      all_goals kernel_rfl
    |a::b::c::t=>
     have hn2:((((a::b::c::t).map Val.c).length:Int)==2)=false:=by simp;omega
     refine wz ?_;all_goals refine bn ?_
     all_goals kernel_rfl
 termination_by e=>SizeOf.sizeOf e
 decreasing_by
  have:=List.sizeOf_lt_of_mem hx;simp;omega
end Go.Proofs.Y
