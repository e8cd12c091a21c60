/- Several texts in one, each with its own sentence ahead of it. Conditions: each one says its own. -/
import Derived.ChangeArms
import Derived.ChangeOld
import Derived.OpenShut
import Derived.Carry
import Derived.SizedLaws
import Derived.JoinedCond
import Derived.Test.YthcjohcakdnmmaaGreatDoorRows
import Derived.MapKept
import Derived.Test.YthcjohcakdnmmaaGreatDoorChecked
import Derived.KernelRfl
import Derived.Shelf.Strings.Shaped
import Derived.Shelf.Strings.SlTrimAscii
import Derived.Test.YthcjohcakdnmmaaGreatDoorZS14
set_option linter.all false
namespace Go.Abs
open Go.RowKit (Below)
set_option linter.unusedVariables false
inductive CT where
 |bool
 |int (k:IntKind)
 |str
 |sl (e:TypeId)
 deriving DecidableEq
def flatFs(P:Program)(fl:TypeId→Option (List CT)):List Field→Nat→Nat→Option (List CT)
 | [],off,tot=>if off=tot then some [] else none
 |f::fs,off,tot=>match fl f.type with
  |some cts=>if f.offset=off∧P.cellsOf f.type=cts.length then(flatFs P fl fs (off+cts.length) tot).map (cts++ ·) else none
  |none=>none
def flat(P:Program):Nat→TypeId→Option (List CT)
 |0,_=>none
 |n+1,t=>match P.underlying t with
  |some .bool=>some [.bool]
  |some (.int k)=>some [.int k]
  |some .string=>some [.str]
  |some (.slice e)=>some [.sl e]
  |some (.struct fs)=>flatFs P (flat P n) fs.toList 0 (P.cellsOf t)
  |_=>none
mutual
def IV.sz:IV→Nat
 | .im (.string s)=>s.size+1
 | .im _=>1
 | .sl es=>szss es+1
def szss:List (List IV)→Nat
 | [] =>0
 |e::es=>szs e+szss es
def szs:List IV→Nat
 | [] =>0
 |x::xs=>x.sz+szs xs
end
theorem szs_append: ∀(a b:List IV),szs (a++b)=szs a+szs b
 | [],b=>by simp[szs]
 |x::a,b=>by simp[szs,szs_append a b];omega
abbrev Book:=List (TypeId×Nat×List CT)
def Book.has(T:Book):CT→Bool
 | .sl e=>(T.lookup e).isSome
 |_=>true
def Book.ok(P:Program)(T:Book):Bool:=T.all fun p=>decide (flat P 9 p.1=some p.2.2) && decide (P.cellsOf p.1=p.2.2.length) && decide (0<p.2.2.length) && p.2.2.all T.has && decide (P.bytesOf p.1=p.2.1)
inductive Fit (P:Book):CT→IV→Prop
 |bool {b:Bool}:Fit P .bool (.im (.bool b))
 |int {k:IntKind} {n:Int} (h:(Lit.int k n).wf=true):Fit P (.int k) (.im (.int k n))
 |str {s:ByteArray} (h:s.size≤reachBytes):Fit P .str (.im (.string s))
 |sl {e:TypeId} {es:List (List IV)} {n:Nat} {cts:List CT} (hm:es.length*n≤reachBytes) (hl:P.lookup e=some (n,cts)) (h1: ∀(j:Nat) (x:List IV),es[j]?=some x→x.length=cts.length)
   (h: ∀(j:Nat) (x:List IV) (i:Nat) (c:CT) (y:IV),es[j]?=some x→cts[i]?=some c→x[i]?=some y→Fit P c y):Fit P (.sl e) (.sl es)
def Fits(P:Book)(cts:List CT)(xs:List IV):Prop:=xs.length=cts.length∧ ∀(i:Nat) (c:CT) (y:IV),cts[i]?=some c→xs[i]?=some y→Fit P c y
def Reps(φ:Nat→Nat)(w:World)(xs:List IV)(cs:List Value):Prop:=xs.length=cs.length∧ ∀(i:Nat) (y:IV) (v:Value),xs[i]?=some y→cs[i]?=some v→RepI φ w y v
theorem two_append{α β:Type}{R:α→β→Prop}{a a':List α}{b b':List β}(hl:a.length=b.length)
 (h: ∀(i:Nat) (x:α) (y:β),a[i]?=some x→b[i]?=some y→R x y) (h': ∀(i:Nat) (x:α) (y:β),a'[i]?=some x→b'[i]?=some y→R x y):
 ∀(i:Nat) (x:α) (y:β),(a++a')[i]?=some x→(b++b')[i]?=some y→R x y:=by
 intro i x y hx hy
 by_cases hi:i<a.length
 · rw[List.getElem?_append_left hi] at hx
   rw[List.getElem?_append_left (by omega)] at hy
   exact h i x y hx hy
 · rw[List.getElem?_append_right (by omega)] at hx
   rw[List.getElem?_append_right (by omega),←hl] at hy
   exact h' _ x y hx hy
theorem Fits.append{P:Book}{a b:List CT}{x y:List IV}(h:Fits P a x)(k:Fits P b y):Fits P (a++b) (x++y):=
 ⟨by simp[h.1,k.1],two_append h.1.symm h.2 k.2⟩
theorem Reps.append{φ:Nat→Nat}{w:World}{x y:List IV}{a b:List Value}(h:Reps φ w x a)(k:Reps φ w y b):Reps φ w (x++y) (a++b):=
 ⟨by simp[h.1,k.1],two_append h.1 h.2 k.2⟩
theorem Fits.nil{P:Book}:Fits P [] []:=⟨rfl,fun i c y h=>by simp at h⟩
theorem Reps.nil{φ:Nat→Nat}{w:World}:Reps φ w [] []:=⟨rfl,fun i c y h=>by simp at h⟩
theorem Fits.one{P:Book}{c:CT}{x:IV}(h:Fit P c x):Fits P [c] [x]:=⟨rfl,fun i c' y h1 h2=>by
 cases i with
 |zero=>simp at h1 h2;subst h1;subst h2;exact h
 |succ i=>simp at h1⟩
theorem Reps.one{φ:Nat→Nat}{w:World}{x:IV}{v:Value}(h:RepI φ w x v):Reps φ w [x] [v]:=⟨rfl,fun i c' y h1 h2=>by
 cases i with
 |zero=>simp at h1 h2;subst h1;subst h2;exact h
 |succ i=>simp at h1⟩
def sizes(w:World)(b:Nat):Nat:=match w.heap[b]? with
 |some (.cells c _ _)=>c.size
 |_=>0
theorem sizes_new{w:World}{b:Nat}(h:w.heap.size≤b):sizes w b=0:=by
 have:w.heap[b]?=none:=by simpa using h
 simp[sizes,this]
theorem sizes_cell{w:World}{b o:Nat}{v:Value}(h:w.cell? ⟨b,o,none⟩=some v):o<sizes w b:=by
 unfold World.cell? at h
 unfold sizes
 split at h
 · rename_i c _ _ hc
   simp only at hc
   rw[hc]
   simp at h
   exact(Array.getElem?_eq_some_iff.1 h).1
 · cases h
section
variable {H:Type}{enc:TypeId×Value→H}{P:Program}{w:World}
def bulkAll(f:DataW H→Nat)(ds:List (DataW H)):Nat:=(ds.map f).foldr (· + ·) 0
structure Bulk (f:DataW H→Nat):Prop where
 str: ∀s:List UInt8,s.length+1≤f (.lit (.string s))
 lit: ∀l:Lit,1≤f (.lit l)
 nil:1≤f .nil
 slice: ∀es sp:List (DataW H),bulkAll f es+1≤f (.slice es sp)
 agg: ∀es:List (DataW H),bulkAll f es≤f (.agg es)
theorem exists_list{α:Type}{R:Nat→α→Prop}: ∀(n:Nat),(∀i,i<n→ ∃x,R i x)→ ∃l:List α,l.length=n∧ ∀(i:Nat) (x:α),l[i]?=some x→R i x
 |0,_=>⟨[],rfl,fun i x h=>by simp at h⟩
 |n+1,h=>by
  obtain⟨l,hl,hr⟩:=exists_list n (fun i hi=>h i (by omega))
  obtain⟨x,hx⟩:=h n (by omega)
  refine⟨l++ [x],by simp[hl],fun i y hy=> ?_⟩
  by_cases hi:i<l.length
  · rw[List.getElem?_append_left hi] at hy;exact hr i y hy
  · rw[List.getElem?_append_right (by omega)] at hy
    have:i - l.length=0:=by
     have:=(List.getElem?_eq_some_iff.1 hy).1
     simp at this;omega
    rw[this] at hy;simp at hy;subst hy
    have:i=n:=by omega
    subst this;exact hx
theorem szss_le{f:DataW H→Nat}: ∀{es:List (List IV)} {ys:List (DataW H)},es.length=ys.length→(∀(i:Nat) (e:List IV) (y:DataW H),es[i]?=some e→ys[i]?=some y→szs e≤f y)→szss es≤bulkAll f ys
 | [],ys,_,_=>by simp[szss]
 |e::es,[],h,_=>by simp at h
 |e::es,y::ys,hl,h=>by
  have h0:=h 0 e y rfl rfl
  have:=szss_le (es:=es) (ys:=ys) (f:=f) (by simpa using hl) (fun i e y h1 h2=>h (i+1) e y (by simpa using h1) (by simpa using h2))
  simp[szss,bulkAll] at this⊢;omega
theorem Book.get{T:Book}(hT:T.ok P=true){e:TypeId}{n:Nat}{cts:List CT}(h:T.lookup e=some (n,cts)):flat P 9 e=some cts∧P.cellsOf e=cts.length∧0<cts.length∧cts.all T.has=true∧P.bytesOf e=n:=by
 have:=List.all_eq_true.1 hT _ (lookup_mem h)
 simp only[Bool.and_eq_true,decide_eq_true_eq] at this
 exact⟨this.1.1.1.1,this.1.1.1.2,this.1.1.2,this.1.2,this.2⟩
theorem weightsAll_get{e:TypeId}: ∀{ds:List (DataW H)} {i:Nat} {d:DataW H},ds[i]?=some d→(DataW.weightsAll P e ds).all (· ≤reachBytes)=true→(DataW.weights P e d).all (· ≤reachBytes)=true
 | [],i,d,h,_=>by simp at h
 |d0::ds,0,d,h,hw=>by
  simp only[DataW.weightsAll,List.all_append,Bool.and_eq_true] at hw
  simp at h;subst h;exact hw.1
 |d0::ds,i+1,d,h,hw=>by
  simp only[DataW.weightsAll,List.all_append,Bool.and_eq_true] at hw
  exact weightsAll_get (by simpa using h) hw.2
def wOk(P:Program)(t:TypeId)(d:DataW H):Prop:=(DataW.weights P t d).all (· ≤reachBytes)=true
theorem open_cells{f:DataW H→Nat}(hf:Bulk f){T:Book}(hT:T.ok P=true): ∀(fuel n:Nat) (t:TypeId) (cs:List Value) (x:DataW H×List MemPlace) (cts:List CT),
 DataW.trod enc P w 0 (fun _=>true) true fuel t cs=some x→flat P n t=some cts→cts.all T.has=true→wOk P t x.1→
 ∃xs:List IV,Fits T cts xs∧Reps (sizes w) w xs cs∧szs xs≤f x.1:=by
 intro fuel
 induction fuel with
 |zero=>intro n t cs x cts h;simp[DataW.trod] at h
 |succ fuel ih=>
  intro n t cs x cts h hfl hin hwt
  cases n with
  |zero=>simp[flat] at hfl
  |succ n=>
   unfold flat at hfl
   split at hfl
   · rename_i hu
     obtain⟨b,rfl,rfl⟩:=DataW.trod_bool hu h
     cases hfl
     exact⟨[.im (.bool b)],.one .bool,.one (.im rfl),by simp[szs,IV.sz,hf.lit]⟩
   · rename_i k hu
     obtain⟨m,rfl,rfl,hw⟩:=DataW.trod_int hu h
     cases hfl
     exact⟨[.im (.int k m)],.one (.int hw),.one (.im rfl),by simp[szs,IV.sz,hf.lit]⟩
   · rename_i hu
     obtain⟨s,rfl,rfl,hw⟩:=DataW.trod_string hu h
     cases hfl
     have e:s.data.toList.length=s.size:=Array.length_toList
     have hwl:s.size≤reachBytes:=by simpa[wOk,DataW.weights,e] using hwt
     refine⟨[.im (.string s)],.one (.str hwl),.one (.im rfl),?_⟩
     have:=hf.str s.data.toList
     simp only[szs,IV.sz,Nat.add_zero]
     rw[e] at this;exact this
   · rename_i e hu
     cases hfl
     simp only[List.all_cons,List.all_nil,Bool.and_true,Book.has] at hin
     obtain⟨⟨bte,cte⟩,hcte⟩:=Option.isSome_iff_exists.1 hin
     obtain⟨g1,g2,g3,g4,g5⟩:=Book.get hT hcte
     rcases DataW.trod_slice hu h with⟨rfl,rfl⟩|⟨a,len,cap,elems,rest,n',hn',rfl,rfl,_,hlc,hcm,hel,hget,_,_⟩
     · exact⟨[.sl []],.one (.sl (by simp) hcte (fun j x hx=>by simp at hx) (fun j x i c y hx=>by simp at hx)),.one .nil,by simp[szs,IV.sz,szss,hf.nil]⟩
     · obtain rfl:n'=fuel:=by omega
       unfold wOk at hwt
       simp only[DataW.weights,hu,List.all_cons,List.all_append,Bool.and_eq_true,decide_eq_true_eq,g5,List.length_map] at hwt
       obtain⟨hw0,hw1,_⟩:=hwt
       have each: ∀i,i<len→ ∃xv:List IV×List Value,Fits T cte xv.1∧Reps (sizes w) w xv.1 xv.2∧(∃y,elems[i]?=some y∧szs xv.1≤f y.1)∧xv.2.length=cte.length∧ ∀j,j<cte.length→w.cell? ((a.add (i*cte.length)).add j)=xv.2[j]?:=by
        intro i hi
        have h1:=hget i hi
        have:i<elems.length:=by omega
        rw[List.getElem?_eq_getElem this,g2] at h1
        obtain⟨cs',hc1,hc2⟩:=Option.bind_eq_some_iff.1 h1
        obtain⟨xs,k1,k2,k3⟩:=ih 9 e cs' _ cte hc2 g1 g4 (weightsAll_get (i:=i) (by rw[List.getElem?_map,List.getElem?_eq_getElem this];rfl) hw1)
        obtain⟨_,hc3,hc4⟩:=World.cells?_some hc1
        exact⟨(xs,cs'),k1,k2,⟨_,List.getElem?_eq_getElem this,k3⟩,hc3,hc4⟩
       obtain⟨l,hl,hr⟩:=exists_list len each
       have hes:(l.map (·.1)).length=len:=by simp[hl]
       refine⟨[.sl (l.map (·.1))],.one (.sl (by rw[hes,←hel];exact Nat.le_trans (Nat.mul_le_mul_right _ (Nat.le_add_right _ _)) hw0) hcte ?_ ?_),?_,?_⟩
       · intro j x hx
         simp only[List.getElem?_map,Option.map_eq_some_iff] at hx
         obtain⟨xv,hxv,rfl⟩:=hx
         exact(hr j xv hxv).1.1
       · intro j x i c y hx hc hy
         simp only[List.getElem?_map,Option.map_eq_some_iff] at hx
         obtain⟨xv,hxv,rfl⟩:=hx
         exact(hr j xv hxv).1.2 i c y hc hy
       · refine .one ?_
         by_cases h0:len=0
         · subst h0
           obtain rfl:l= []:=List.eq_nil_of_length_eq_zero hl
           exact .emp (fun h=>by cases h) hcm
         · obtain⟨xv0,hxv0⟩: ∃xv,l[0]?=some xv:=⟨_,List.getElem?_eq_getElem (by omega)⟩
           have hc0:=(hr 0 xv0 hxv0).2.2.2.2 0 g3
           have hl0:=(hr 0 xv0 hxv0).2.2.2.1
           rw[List.getElem?_eq_getElem (by omega)] at hc0
           obtain⟨b,o,spot⟩:=a
           have hsp:spot=none:=by simpa[Addr.add] using World.cell?_spot hc0
           subst hsp
           have hlen:len=(l.map (·.1)).length:=hes.symm
           rw[hlen]
           refine .sl (k:=cte.length) (fun i j=>((l.getD i ([],[])).2).getD j undef) (by omega) hcm ?_ ?_ ?_ ?_
           · intro i e' he
             simp only[List.getElem?_map,Option.map_eq_some_iff] at he
             obtain⟨xv,hxv,rfl⟩:=he
             exact(hr i xv hxv).1.1
           all_goals
            intro i e' j x' he hx'
            simp only[List.getElem?_map,Option.map_eq_some_iff] at he
            obtain⟨xv,hxv,rfl⟩:=he
            obtain⟨q1,q2,q3,q4,q5⟩:=hr i xv hxv
            have hj:j<cte.length:=by rw[←q1.1];exact(List.getElem?_eq_some_iff.1 hx').1
            have hv:xv.2[j]?=some (xv.2.getD j undef):=by
             rw[List.getD,List.getElem?_eq_getElem (by omega)];rfl
            have hcell:=q5 j hj
            rw[Addr.add_none,Addr.add_none,hv] at hcell
            have hgd:(l.getD i ([],[]))=xv:=by rw[List.getD,hxv];rfl
            try rw[hgd]
            first
             |exact sizes_cell hcell
             |exact hcell
             |exact q2.2 j x' _ hx' hv
       · have h1:szss (l.map (·.1))≤bulkAll f (elems.map (·.1)):=szss_le (by simp[hl,hel]) (fun i e' y he hy=>by
          simp only[List.getElem?_map,Option.map_eq_some_iff] at he hy
          obtain⟨xv,hxv,rfl⟩:=he
          obtain⟨y',hy',rfl⟩:=hy
          obtain⟨_,_,⟨y2,hy2,hle⟩,_,_⟩:=hr i xv hxv
          rw[hy'] at hy2;cases hy2;exact hle)
         have h2:=hf.slice (elems.map (·.1)) (rest.map (·.1))
         simp only[szs,IV.sz,Nat.add_zero];omega
   · rename_i fs hu
     obtain⟨xs,n',hn',rfl,hcl,hxl,hget⟩:=DataW.trod_struct hu h
     obtain rfl:n'=fuel:=by omega
     have key: ∀(fl:List Field) (yl:List (DataW H×List MemPlace)) (off:Nat) (cts:List CT),fl.length=yl.length→flatFs P (flat P n) fl off (P.cellsOf t)=some cts→cts.all T.has=true→off≤P.cellsOf t→(DataW.weightsEach P (fl.map (·.type)) (yl.map (·.1))).all (· ≤reachBytes)=true→
      (∀(i:Nat) (f:Field),fl[i]?=some f→DataW.trod enc P w 0 (fun _=>true) true n' f.type ((cs.drop f.offset).take (P.cellsOf f.type))=yl[i]?)→
      ∃zs:List IV,Fits T cts zs∧Reps (sizes w) w zs (cs.drop off)∧szs zs≤bulkAll f (yl.map (·.1)):=by
      intro fl
      induction fl with
      |nil=>
       intro yl off cts hlen hfs _ _ _ _
       obtain rfl:yl= []:=List.eq_nil_of_length_eq_zero hlen.symm
       unfold flatFs at hfs
       split at hfs
       · rename_i he
         cases hfs
         refine⟨[],.nil,?_,by simp[szs,bulkAll]⟩
         rw[List.drop_of_length_le (by omega)];exact .nil
       · cases hfs
      |cons fd fl ihf=>
       intro yl off cts hlen hfs hin' hoff hwe hg
       cases yl with
       |nil=>simp at hlen
       |cons y yl=>
        unfold flatFs at hfs
        split at hfs
        · rename_i c1 hc1
          split at hfs
          · rename_i hcond
            obtain⟨c2,hc2,rfl⟩:=Option.map_eq_some_iff.1 hfs
            simp only[List.all_append,Bool.and_eq_true] at hin'
            simp only[List.map_cons,DataW.weightsEach,List.all_append,Bool.and_eq_true] at hwe
            have h0:=hg 0 fd rfl
            rw[hcond.1,hcond.2] at h0
            obtain⟨z1,k1,k2,k3⟩:=ih n fd.type _ y c1 h0 hc1 hin'.1 hwe.1
            have hz:c1.length=((cs.drop off).take c1.length).length:=k1.1.symm.trans k2.1
            have hle:off+c1.length≤P.cellsOf t:=by
             simp at hz;omega
            obtain⟨z2,m1,m2,m3⟩:=ihf yl (off+c1.length) c2 (by simpa using hlen) hc2 hin'.2 hle hwe.2 (fun i fd' hfd=>by simpa using hg (i+1) fd' (by simpa using hfd))
            refine⟨z1++z2,k1.append m1,?_,?_⟩
            · have:cs.drop off=(cs.drop off).take c1.length++cs.drop (off+c1.length):=by
               rw[←List.drop_drop,List.take_append_drop]
              rw[this];exact k2.append m2
            · rw[szs_append];simp[bulkAll] at m3⊢;omega
          · cases hfs
        · cases hfs
     obtain⟨zs,q1,q2,q3⟩:=key fs.toList xs 0 cts (by simp[hxl]) hfl hin (Nat.zero_le _) (by simpa[wOk,DataW.weights,hu] using hwt) (fun i fd hfd=>hget i fd (by simpa using hfd))
     exact⟨zs,q1,by simpa using q2,Nat.le_trans q3 (hf.agg _)⟩
   · cases hfl
end
end Go.Abs
namespace Go.Abs
open Go.RowKit (Below)
open Go.ChangeShapes Go.WideShapes
set_option linter.unusedVariables false
section
variable {H:Type}{enc:TypeId×Value→H}{P:Program}{w:World}
theorem RelL.reps{E:Env}{w:World}{xs:List IV}{us:List Value}(h:Reps E.φ w xs us):RelL E w (xs.map .iv) us:=
 ⟨by simp[h.1],fun i c u hc hu=>by
   simp only[List.getElem?_map,Option.map_eq_some_iff] at hc
   obtain⟨x,hx,rfl⟩:=hc
   exact .iv (h.2 i x u hx hu)⟩
theorem open_agg{f:DataW H→Nat}(hf:Bulk f){T:Book}(hT:T.ok P=true){r:Reach}{b0:Nat}{t:TypeId}{fs:Array Field}{cts:List CT}(hu:P.underlying t=some (.struct fs))(hfl:flat P 9 t=some cts)(hin:cts.all T.has=true)
 {v:Value} {d:DataW H} {ps:List MemPlace} (hval:Value.okWide P w r b0 t v) (hd:DataW.Trod enc P w 0 (fun _=>true) true t v d ps) (hw:wOk P t d):
 ∃xs:List IV,Fits T cts xs∧RepA (lawEnv (sizes w)) w (.agg (xs.map .iv)) v∧szs xs≤f d:=by
 obtain⟨us,rfl,hs⟩:=okWide_struct hu hval
 obtain⟨fuel,hd⟩:=hd
 obtain⟨xs,h1,h2,h3⟩:=open_cells hf hT fuel 9 t _ _ cts hd hfl hin hw
 have h2':Reps (sizes w) w xs us.toList:=by simpa[Value.cells] using h2
 refine⟨xs,h1,?_,h3⟩
 have:=RelL.agg (E:=lawEnv (sizes w)) (RelL.reps h2') (fun u hu'=>by
  obtain⟨i,hi,rfl⟩:=List.getElem_of_mem hu'
  have hx:xs[i]?=some (xs[i]'(by rw[h2'.1];exact hi)):=List.getElem?_eq_getElem _
  exact(h2'.2 i _ _ hx (List.getElem?_eq_getElem hi)).oneCell)
 simpa using this
theorem open_val{f:DataW H→Nat}(hf:Bulk f){T:Book}(hT:T.ok P=true){t:TypeId}{c:CT}(hfl:flat P 9 t=some [c])(hin:T.has c=true)
 {v:Value} {d:DataW H} {ps:List MemPlace} (hcells:v.cells= #[v]) (hd:DataW.Trod enc P w 0 (fun _=>true) true t v d ps) (hw:wOk P t d):
 ∃x:IV,Fit T c x∧RepA (lawEnv (sizes w)) w (.iv x) v∧x.sz≤f d:=by
 obtain⟨fuel,hd⟩:=hd
 obtain⟨xs,h1,h2,h3⟩:=open_cells hf hT fuel 9 t _ _ [c] hd hfl (by simp[hin]) hw
 obtain⟨x,rfl⟩: ∃x,xs= [x]:=List.length_eq_one_iff.1 h1.1
 rw[hcells] at h2
 exact⟨x,h1.2 0 c x rfl rfl,.iv (h2.2 0 x v rfl rfl),by simpa[szs] using h3⟩
theorem open_slice{f:DataW H→Nat}(hf:Bulk f){T:Book}(hT:T.ok P=true){r:Reach}{b0:Nat}{t e:TypeId}(hu:P.underlying t=some (.slice e))(hfl:flat P 9 t=some [.sl e])(hin:T.has (.sl e)=true)
 {v:Value} {d:DataW H} {ps:List MemPlace} (hval:Value.okWide P w r b0 t v) (hd:DataW.Trod enc P w 0 (fun _=>true) true t v d ps) (hw:wOk P t d):
 ∃x:IV,Fit T (.sl e) x∧RepA (lawEnv (sizes w)) w (.iv x) v∧x.sz≤f d:=by
 obtain⟨a,len,cap,rfl⟩:=okWide_slice hu hval
 exact open_val hf hT hfl hin rfl hd hw
theorem open_str{f:DataW H→Nat}(hf:Bulk f){T:Book}(hT:T.ok P=true){r:Reach}{b0:Nat}{t:TypeId}(hu:P.underlying t=some .string)(hfl:flat P 9 t=some [.str])
 {v:Value} {d:DataW H} {ps:List MemPlace} (hval:Value.okWide P w r b0 t v) (hd:DataW.Trod enc P w 0 (fun _=>true) true t v d ps) (hw:wOk P t d):
 ∃x:IV,Fit T .str x∧RepA (lawEnv (sizes w)) w (.iv x) v∧x.sz≤f d:=by
 obtain⟨s,rfl⟩:=okWide_string hu hval
 exact open_val hf hT hfl rfl rfl hd hw
theorem open_num{f:DataW H→Nat}(hf:Bulk f){T:Book}(hT:T.ok P=true){r:Reach}{b0:Nat}{t:TypeId}{k:IntKind}(hu:P.underlying t=some (.int k))(hfl:flat P 9 t=some [.int k])
 {v:Value} {d:DataW H} {ps:List MemPlace} (hval:Value.okWide P w r b0 t v) (hd:DataW.Trod enc P w 0 (fun _=>true) true t v d ps) (hw:wOk P t d):
 ∃x:IV,Fit T (.int k) x∧RepA (lawEnv (sizes w)) w (.iv x) v∧x.sz≤f d:=by
 obtain⟨s,rfl⟩:=okWide_int hu hval
 exact open_val hf hT hfl rfl rfl hd hw
theorem trodAll_after(hl:laidOutB P=true){W W':World}(hb:Below W.heap.size W W'): ∀{ts:List TypeId} {vs:List Value} {ds:List (DataW H)} {ps:List MemPlace},
 ts.all (fun t=>P.readableRec t && decide (t<P.types.size))=true→DataW.TrodAll enc P W 0 (fun _=>true) true ts vs ds ps→DataW.TrodAll enc P W' 0 (fun b=>decide (b<W.heap.size)) true ts vs ds ps
 | [],[],[],_,_,h=>h
 | [],[],_::_,_,_,h=>h.elim
 | [],_::_,_,_,_,h=>h.elim
 |t::ts,[],_,_,_,h=>h.elim
 |t::ts,v::vs,[],_,_,h=>h.elim
 |t::ts,v::vs,d::ds,ps,ht,h=>by
  simp only[List.all_cons,Bool.and_eq_true,decide_eq_true_eq] at ht
  obtain⟨p,q,h1,h2,rfl⟩:=h
  have lt: ∀x∈p,x.block<W.heap.size:=by obtain⟨m,hm⟩:=h1;exact DataW.trod_lt m _ _ _ hm
  exact⟨p,q,Below.trod hl ht.1.1 ht.1.2 h1 hb lt,trodAll_after hl hb ht.2 h2,rfl⟩
end
theorem returnsInHanded_of_cond_sized{H:Type}{enc:TypeId×Value→H}{a:Assume}{C:Checked}{os:Os}{f:FuncId}{fn:Func}{s:OpenSpec}{k:(H:Type)→List (DataW H)→Bool}(hk:s.cond=some k){F:Stop.Interp}{conds:List PathCond}{apart fresh handsOn again:Bool}
 (own:ownKnob C.prog.godebug=none) (started:os.Started) (noInit:C.prog.inits.idxOf? f=none) (hfn:C.prog.funcs[f]?=some fn)
 (witness: ∃(w:World) (tape:Tape) (i:Input),w.os=os∧(w.forCall tape i).Shaped C.prog∧i.vars= [] ∧Input.okWide C.prog (w.forCall tape i) .any w.heap.size f i∧
   s.pre6 enc C.prog fn conds apart (w.forCall tape i).memory i.args∧a.holds C.prog (lone (Frame.enter C.prog f i.args .normal) [] (w.forCall tape i)))
 (contract: ∀(W:World) (base:Nat) (args:Array Value) (ds gs:List (DataW H)) (before:List MemPlace),
   (∀(j:Nat) t v,fn.params[j]?=some t→args[j]?=some v→Value.okWide C.prog W .any base t v)→
   DataW.Whole enc C.prog fn.params.toList s.vars apart W args.toList ds gs before→
   conds.all (PathCond.test C.prog ⟨fn.params.toList,ds,s.bare.plain.varTypes C.prog,gs⟩)=true→k H (ds++gs)=true→
   (DataW.weightsEach C.prog (fn.params.toList++s.bare.plain.varTypes C.prog) (ds++gs)).all (· ≤reachBytes)=true→
   a.holds C.prog (lone (Frame.enter C.prog f args .normal) [] W)→
   Calls C.prog f args W fun e W'=> ∃v,e= .returned v∧(s.at F).post enc C.prog fn apart fresh handsOn again W args v W'):
 ReturnsInHanded a C os f .any (s.pre6 enc C.prog fn conds apart) ((s.at F).post enc C.prog fn apart fresh handsOn again):=by
 refine returnsInHanded_of_calls own started noInit witness ?_
 intro w tape i _ _ _ hok hpre hholds
 obtain⟨_,_,_,fn',hfn',_,_,_,_,hval⟩:=hok
 have e:fn'=fn:=Option.some.inj (hfn'.symm.trans hfn)
 subst e
 obtain⟨ds,gs,before,hw,hc,hkk⟩:=(OpenSpec.pre_some hk conds apart _ _).1 hpre.1
 have hw':=DataW.Whole.of_heap (w':=w.forCall tape i) (by rfl) hw
 refine(contract (w.forCall tape i) w.heap.size i.args ds gs before hval hw' hc hkk (hpre.2.weights hw) hholds).mono fun e W' ⟨v,he,hp⟩=> ?_
 subst he
 exact ChangeSpec.post_blind hp
theorem Fit.str_inv{T:Book}{x:IV}(h:Fit T .str x): ∃s:List UInt8,x=S s∧s.length≤reachBytes:=by
 cases h with
 | @str s hs=>
   have e:s.data.toList.length=s.size:=Array.length_toList
   exact⟨s.data.toList,by simp,by rw[e];exact hs⟩
theorem Fit.int_inv{T:Book}{x:IV}(h:Fit T (.int .i64) x): ∃n:Int,x=I n∧ -9223372036854775808≤n∧n≤9223372036854775807:=by
 cases h with
 |int hw=>exact⟨_,rfl,Go.bounds_i64 hw⟩
theorem Fit.bool_inv{T:Book}{x:IV}(h:Fit T .bool x): ∃b:Bool,x=B b:=by
 cases h with
 |bool=>exact⟨_,rfl⟩
theorem Fit.sl_inv{T:Book}{e:TypeId}{n:Nat}{cts:List CT}{x:IV}(hl:T.lookup e=some (n,cts))(h:Fit T (.sl e) x): ∃es:List (List IV),x= .sl es∧es.length*n≤reachBytes∧ ∀e'∈es,Fits T cts e':=by
 cases h with
 | @sl e es n' cts' hm hl' h1 h=>
   have:=Option.some.inj (hl'.symm.trans hl)
   cases this
   refine⟨es,rfl,hm,fun e' he=> ?_⟩
   obtain⟨j,hj,rfl⟩:=List.getElem_of_mem he
   exact⟨h1 j _ (List.getElem?_eq_getElem hj),fun i c y hc hy=>h j _ i c y (List.getElem?_eq_getElem hj) hc hy⟩
theorem map_of{α:Type}{f:α→List IV}{Q:List IV→α→Prop}: ∀{es:List (List IV)},(∀e∈es,∃a,e=f a∧Q e a)→ ∃l:List α,es=l.map f∧ ∀a∈l,Q (f a) a
 | [],_=>⟨[],rfl,fun a h=>by cases h⟩
 |e::es,h=>by
  obtain⟨a,h1,h2⟩:=h e (by simp)
  obtain⟨l,h3,h4⟩:=map_of (es:=es) (fun e he=>h e (by simp[he]))
  subst h1
  exact⟨a::l,by simp[h3],fun b hb=>by
   rcases List.mem_cons.1 hb with rfl|hb
   · exact h2
   · exact h4 b hb⟩
theorem Fits.get{T:Book}{cts:List CT}{xs:List IV}(h:Fits T cts xs){i:Nat}{c:CT}(hc:cts[i]?=some c): ∃y,xs[i]?=some y∧Fit T c y:=by
 have hi:i<xs.length:=by rw[h.1];exact(List.getElem?_eq_some_iff.1 hc).1
 exact⟨xs[i],List.getElem?_eq_getElem hi,h.2 i c _ hc (List.getElem?_eq_getElem hi)⟩
theorem Fits.cons_inv{T:Book}{c:CT}{cts:List CT}{xs:List IV}(h:Fits T (c::cts) xs): ∃y ys,xs=y::ys∧Fit T c y∧Fits T cts ys:=by
 cases xs with
 |nil=>exact absurd h.1 (by simp)
 |cons y ys=>exact⟨y,ys,rfl,h.2 0 c y rfl rfl,by simpa using h.1,fun i c' y' h1 h2=>h.2 (i+1) c' y' (by simpa using h1) (by simpa using h2)⟩
theorem Fits.nil_inv{T:Book}{xs:List IV}(h:Fits T [] xs):xs= []:=List.eq_nil_of_length_eq_zero h.1
end Go.Abs
namespace Go.Proofs.YthcjohcakdnmmaaGreatDoor
open Go.Abs
set_option maxRecDepth 100000
attribute [local irreducible] L Code.wp bodyPost Exit.then Exit.inBlock
set_option linter.unusedVariables false
set_option linter.unusedSimpArgs false
end Go.Proofs.YthcjohcakdnmmaaGreatDoor
namespace Go.Proofs.YthcjohcakdnmmaaGreatDoor
open Go.Abs
def words:List (List UInt8):= [[97,110,100],[98,121],[99,114,101,97,116,101],[100,101,108,101,116,101],[100,101,115,99],[100,114,111,112],[102,114,111,109],[105,110,100,101,120],[105,110,115,101,114,116],[105,110,116],[105,110,116,111],[105,115],[108,105,109,105,116],[109,117,115,116],[110,111,116],[110,117,108,108],[111,110],[111,114],[111,114,100,101,114],[115,101,108,101,99,116],[115,101,116],[116,97,98,108,101],[116,101,120,116],[117,112,100,97,116,101],[118,97,108,117,101,115],[119,104,101,114,101]]
theorem words_len:words.length=26:=rfl
def gs0:Globs:= [(0,[.sl (words.map fun s=> [S s])])]
theorem gs_words:(0,[IV.sl (words.map fun s=> [S s])])∈gs0:=by simp[gs0]
def maxG(m:Int):Nat×List IV:=(1,[I m])
attribute [irreducible] words gs0
end Go.Proofs.YthcjohcakdnmmaaGreatDoor
namespace Go.Abs
open Go.RowKit (Below)
set_option linter.unusedVariables false
theorem CallG.below{gs:Globs}{P:Program}{f:FuncId}{args:List AV}{v:Value}(hv:v.oneCell'=true)
 (h: ∀(E:Env) (w:World) (us:List Value),RelL E w args us→Glob gs E w→Calls P f us.toArray w fun e w'=>e= .returned v∧Below w.heap.size w w'):CallG gs P f args [] [] [] (.iv (.im v)):=by
 intro E w us hr hh hG
 refine(h E w us hr hG).mono ?_
 rintro e w' ⟨he,hb⟩
 refine⟨v,E,he,.iv (.im hv),⟨fun id b h=>by simp at h,fun id t h=>by simp at h,fun i j b b' h=>by simp at h,fun i j t t' g h=>by simp at h,fun i j b t h=>by simp at h,fun i b h=>by simp at h,fun i t g h=>by simp at h,
  fun b hb'=>hh.new b (Nat.le_trans hb.size hb'),fun b _=>rfl,fun id h=>by simp[keys] at h,KeptBut.ofBelow hb⟩⟩
theorem Glob.sub{gs gs':Globs}{E:Env}{w:World}(hs: ∀p∈gs',p∈gs)(h:Glob gs E w):Glob gs' E w:=
 ⟨⟨h.1.1,fun g xs hm=>h.1.2 g xs (hs _ hm)⟩,fun g xs hm=>h.2 g xs (hs _ hm)⟩
theorem Glob.int{gs:Globs}{E:Env}{w:World}{g:Nat}{m:Int}(h:Glob gs E w)(hm:(g,[I m])∈gs):w.cell? ⟨g,0,none⟩=some (.int .i64 m):=by
 obtain⟨_,v,h1,h2⟩:=h.2 g _ hm 0 _ rfl
 rw[h1,h2.im_eq]
theorem RelL.im1{E:Env}{w:World}{v:Value}{us:List Value}(h:RelL E w [.iv (.im v)] us):us= [v]:=by
 obtain⟨hl,h⟩:=h
 match us,hl with
 | [u],_=>rw[(h 0 _ u rfl rfl).iv_im]
theorem RelL.im2{E:Env}{w:World}{v v':Value}{us:List Value}(h:RelL E w [.iv (.im v),.iv (.im v')] us):us= [v,v']:=by
 obtain⟨hl,h⟩:=h
 match us,hl with
 | [u,u'],_=>rw[(h 0 _ u rfl rfl).iv_im,(h 1 _ u' rfl rfl).iv_im]
theorem Below.same{w:World}:Below w.heap.size w w:=⟨rfl,rfl,rfl,Nat.le_refl _,fun _ _=>rfl⟩
end Go.Abs
namespace Go.Abs
open Go.RowKit (Below)
set_option linter.unusedVariables false
theorem HInv.aside{c:Ctx}{E:Env}{bx:List (Nat×Box)}{tk:List (Nat×Tok)}{w w':World}{g:Nat}(h:HInv c E bx tk w)(hk:KeptBut (· =g) w w')(hg:c.w0.heap.size≤g)(hφ:E.φ g=0)
 (hb: ∀(id:Nat) (b:Box),bx.lookup id=some b→b.cs≠ [] →E.ρ id≠g) (ht: ∀(j:Nat) (t:Tok),tk.lookup j=some t→(E.η j).ownBlock≠some g):
 HInv c E bx tk w'∧ ∀(x:AV) (u:Value),RepA E w x u→RepA E w' x u:=by
 have hkp:Keeps E.φ w w':=fun b o ho=>by
  have hlt:b<w.heap.size:=by
   rcases Nat.lt_or_ge b w.heap.size with h1|h1
   · exact h1
   · rw[h.new b h1] at ho;cases ho
  exact World.cell?_of_block (hk.block b hlt (fun e=>by rw[e,hφ] at ho;cases ho))
 have mono: ∀(x:AV) (u:Value),RepA E w x u→RepA E w' x u:=fun x u hr=>RepA.mono (h:=hr) hkp (fun _=>Nat.le_refl _) (fun _ _=>⟨rfl,rfl⟩)
 refine⟨⟨fun id b hi hn=> ?_,fun j t hj=> ?_,h.bb,h.tt,h.bt,h.own,h.ownt,fun b hb'=>h.new b (Nat.le_trans hk.size hb'),h.old,h.ins,?_⟩,mono⟩
 · have hlt:=box_lt (h.box id b hi hn)
   obtain⟨h0,arr,ha,hl,h1,hr,hq⟩:=h.box id b hi hn
   exact⟨h0,arr,by rw[hk.block _ hlt (hb id b hi hn)];exact ha,hl,h1,fun i x u hx hu=>mono x u (hr i x u hx hu),hq⟩
 · rcases h.tok j t hj with hn|⟨g',n,cap,cur,hv,hh,rest⟩
   · exact .inl hn
   · refine .inr ⟨g',n,cap,cur,hv,?_,rest⟩
     have hlt:g'<w.heap.size:=(Array.getElem?_eq_some_iff.1 hh).1
     rw[hk.block g' hlt (fun e=>ht j t hj (by rw[hv,e];rfl))];exact hh
 · exact h.kept.next hk.os hk.tape hk.output hk.size (fun k hk' _=>hk.block k (Nat.lt_of_lt_of_le hk' h.kept.size) (by omega)) (fun h=>False.elim h)
def Ents(es:Array MapEntry)(l:List (Int×Int)):Prop:=es.toList.map (fun e=>(e.key,e.val))=l.map (fun p=>(Value.int .i64 p.1,Value.int .i64 p.2))
def lookM(l:List (Int×Int))(k:Int):Option Int:=(l.find? (fun p=>k==p.1)).map (·.2)
theorem findNow_ents(k:Int): ∀(es:List MapEntry) (l:List (Int×Int)) (i:Nat),es.map (fun e=>(e.key,e.val))=l.map (fun p=>(Value.int .i64 p.1,Value.int .i64 p.2))→
 ∃r,Instr.findNow (.int .i64) (.int .i64 k) es i=some r∧r.map Prod.snd=(lookM l k).map (Value.int .i64)
 | [],[],i,_=>⟨none,rfl,rfl⟩
 | [],p::l,i,h=>by simp at h
 |e::es,[],i,h=>by simp at h
 |e::es,p::l,i,h=>by
  simp only[List.map_cons,List.cons.injEq,Prod.mk.injEq] at h
  obtain⟨⟨h1,h2⟩,h3⟩:=h
  cases hq:k==p.1 with
  |true=>
   refine⟨some (i,e.val),by simp only[Instr.findNow,h1,Instr.sameNow,if_true];rw[hq],?_⟩
   rw[lookM,List.find?_cons,hq,h2];rfl
  |false=>
   obtain⟨r,hr,hv⟩:=findNow_ents k es l (i+1) h3
   refine⟨r,by simp only[Instr.findNow,h1,Instr.sameNow,if_true];rw[hq];exact hr,?_⟩
   rw[hv,lookM,lookM,List.find?_cons,hq]
structure MapTy (P:Program) (t:TypeId):Prop where
 h: ∃kt et,P.underlying t=some (.map kt et)∧P.underlying kt=some (.int .i64)∧(P.info? et).bind (·.zero)=some (.int .i64 0)
theorem run_zero{P:Program}{w:World}{t:TypeId}{z:Value}(h:(P.info? t).bind (·.zero)=some z):(zeroValue t).run P w= .ok z w:=by
 cases hq:P.info? t with
 |none=>rw[hq] at h;simp at h
 |some i=>
  rw[hq] at h
  simp only[Option.bind_some] at h
  simp[zeroValue,typeInfo,Sem.run_bind,run_program,Result.andThen,hq,h]
section
variable {P:Program}{c:Ctx}{st:St}{ops:Array Oper}{Q:Exit→Act→World→Prop}{rest:List Oper}{o:Oper}
def LM(c:Ctx)(b:Nat)(l:List (Int×Int))(st:St)(X:Act→World→Prop):Prop:=
 ∀(a:Act) (w:World) (E:Env),Inv c E st a w→c.w0.heap.size≤b→E.φ b=0→(∃es clk,w.heap[b]?=some (.map es clk)∧Ents es l)→X a w
theorem LM.make{t:TypeId}{d:Nat}(ho:o.op= .makeMap t none)(hg:o.guard=none)(hd:o.dst=some d)(hlt:Nat.ble (d+1) c.nt=true)
 (h: ∀b:Nat,LM c b [] ⟨(d,.iv (.im (.map (some b))))::st.fr,st.bx,st.tk⟩ (wpList P ops Q rest)):L c st (wpList P ops Q (o::rest)):=by
 rintro a w ⟨E,hi⟩
 have hrun:(execOp a.eval o).run P w= .ok (.value (.map (some w.heap.size))) (w.alloc (.map #[] 0)):=by
  simp[execOp,ho,Instr.makeMap,Result.andThen]
 refine wpList_plain hg (fun K hK=>Oper.wp_value hrun (hK _ _ ?_))
 rw[hd]
 have hal:=MapKept.heap_alloc w (.map #[] 0)
 have hkb:KeptBut (· =w.heap.size) w (w.alloc (.map #[] 0)):=⟨rfl,rfl,rfl,by show w.heap.size≤(w.heap.push _).size;simp,fun k hk _=>hal.2 k hk,fun _=>Nat.le_refl _⟩
 obtain⟨h1,h2⟩:=hi.heap.aside hkb hi.heap.kept.size (hi.heap.new _ (Nat.le_refl _)) (fun id b hb hn=>Nat.ne_of_lt (box_lt (hi.heap.box id b hb hn))) (fun j t' hj e=>Nat.lt_irrefl _ (ownBlock_lt (hi.heap.tok j t' hj) e))
 exact h w.heap.size _ _ E (Inv.put ⟨hi.defers,hi.size,fun s v hs=>h2 _ _ (hi.slot s v hs),h1⟩ (Nat.le_of_ble_eq_true hlt) (.iv (.im rfl))) hi.heap.kept.size (hi.heap.new _ (Nat.le_refl _)) ⟨#[],0,hal.1,rfl⟩
theorem LM.insert{t:TypeId}{b:Nat}{l:List (Int×Int)}{x y z:Operand}{k v:Int}(ho:o.op= .insert t x y z)(hg:o.guard=none)(hd:o.dst=none)(hx:st.ev x= .iv (.im (.map (some b))))(hy:st.ev y=aI k)(hz:st.ev z=aI v)
 (ht:MapTy P t) (hnew:lookM l k=none) (h:LM c b (l++ [(k,v)]) st (wpList P ops Q rest)):LM c b l st (wpList P ops Q (o::rest)):=by
 rintro a w E hi hb hφ ⟨es,clk,hh,he⟩
 obtain⟨kt,et,t1,t2,t3⟩:=ht.h
 obtain⟨r,hr,hrv⟩:=findNow_ents k es.toList l 0 he
 rw[hnew] at hrv
 have hr0:r=none:=by cases r with|none=>rfl|some _=>cases hrv
 subst hr0
 have e1:a.eval x= .map (some b):=by have:=hi.ev x;rw[hx] at this;exact this.iv_im
 have e2:a.eval y= .int .i64 k:=by have:=hi.ev y;rw[hy] at this;exact this.iv_im
 have e3:a.eval z= .int .i64 v:=by have:=hi.ev z;rw[hz] at this;exact this.iv_im
 have hkey:MapKept.IsKey (.int .i64) (.int .i64 k):=rfl
 have hrun:(execOp a.eval o).run P w= .ok .skip {w with heap:=w.heap.setIfInBounds b (.map (es.push {key:= .int .i64 k,val:= .int .i64 v,born:=clk}) (clk+1))}:=by
  simp[execOp,ho,e1,e2,e3,Instr.mapUpdate,run_underlying t1,MapKept.run_getObj_map hh,MapKept.run_checkKey t2 hkey,MapKept.run_findKey t2 hr,MapKept.run_setObj_map _ hh,Result.andThen]
 refine wpList_plain hg (fun K hK=> ?_)
 unfold Oper.wp
 rw[hrun]
 simp only[Oper.upon_skip,hd,Act.put]
 refine hK _ _ ?_
 have hs:=MapKept.heap_set (o':= .map (es.push {key:= .int .i64 k,val:= .int .i64 v,born:=clk}) (clk+1)) hh
 have hkb:KeptBut (· =b) w {w with heap:=w.heap.setIfInBounds b (.map (es.push {key:= .int .i64 k,val:= .int .i64 v,born:=clk}) (clk+1))}:=⟨rfl,rfl,rfl,by simp,fun k' _ hk=>hs.2 k' hk,fun _=>Nat.le_refl _⟩
 obtain⟨h1,h2⟩:=hi.heap.aside hkb hb hφ (fun id bb hbb hn e=>by
  obtain⟨_,arr,ha,_⟩:=hi.heap.box id bb hbb hn
  rw[e,hh] at ha;cases ha) (fun j t' hj e=>by
  rcases hi.heap.tok j t' hj with hn|⟨g',n,cap,cur,hv,hh',_⟩
  · rw[hn] at e;simp[Value.ownBlock] at e
  · rw[hv] at e;simp[Value.ownBlock] at e;rw[e,hh] at hh';cases hh')
 refine h a _ E ⟨hi.defers,hi.size,fun s v hs=>h2 _ _ (hi.slot s v hs),h1⟩ hb hφ ⟨_,_,hs.1,?_⟩
 unfold Ents at he⊢
 simp[he]
structure Link (c c':Ctx):Prop where
 nt:c'.nt=c.nt
 own: ∀id∈c'.ins,c.w0.heap.size≤c'.E0.ρ id∨c.M (c'.E0.ρ id)
 ins: ∀id∈c.ins,id∈c'.ins∧c'.E0.ρ id=c.E0.ρ id∧c'.E0.η id=c.E0.η id
 old: ∀b,b<c.w0.heap.size→c'.E0.φ b=c.E0.φ b
 kept:KeptBut c.M c.w0 c'.w0
def MapIn(c:Ctx)(b:Nat)(l:List (Int×Int)):Prop:=(∃es clk,c.w0.heap[b]?=some (.map es clk)∧Ents es l)∧ ¬c.M b
theorem LM.rebase{b:Nat}{l:List (Int×Int)}{X:Act→World→Prop}(htk:st.tk= [])(hlive:st.bx.all (fun p=> !p.2.cs.isEmpty)=true)
 (h: ∀c':Ctx,c'.ins=keys st.bx→Link c c'→MapIn c' b l→L c' st X):LM c b l st X:=by
 rintro a w E hi hb hφ ⟨es,clk,hh,he⟩
 have hne: ∀(id:Nat) (bb:Box),st.bx.lookup id=some bb→bb.cs≠ []:=fun id bb hl=>by
  have:=List.all_eq_true.1 hlive _ (lookup_mem hl)
  simpa using this
 refine h ⟨c.nt,w,E,keys st.bx⟩ rfl ⟨rfl,fun id hid=> ?_,fun id hid=> ?_,fun b' hb'=>hi.heap.old b' hb',hi.heap.kept⟩ ⟨⟨es,clk,hh,he⟩,?_⟩ a w ⟨E,hi.defers,hi.size,hi.slot,?_⟩
 · obtain⟨bb,hl⟩:=mem_keys hid
   exact hi.heap.own id bb hl (hne id bb hl)
 · obtain⟨e1,e2,e3⟩:=hi.heap.ins id hid
   obtain⟨bb,hl⟩:=Option.isSome_iff_exists.1 e3
   exact⟨keys_mem hl,e1,e2⟩
 · rintro ⟨id,hid,e,_⟩
   obtain⟨bb,hl⟩:=mem_keys hid
   obtain⟨_,arr,ha,_⟩:=hi.heap.box id bb hl (hne id bb hl)
   dsimp only at e
   rw[e,hh] at ha;cases ha
 · refine⟨hi.heap.box,hi.heap.tok,hi.heap.bb,hi.heap.tt,hi.heap.bt,fun i bb hl hn=> .inr ⟨i,keys_mem hl,rfl,(hi.heap.box i bb hl hn).1⟩,fun j t g hj=>by rw[htk] at hj;simp at hj,hi.heap.new,fun _ _=>rfl,fun id hid=> ?_,KeptBut.refl _ _⟩
   obtain⟨bb,hl⟩:=mem_keys hid
   exact⟨rfl,rfl,by rw[hl];rfl⟩
theorem L.back{c':Ctx}{X:Act→World→Prop}(hk:Link c c')(h:L c st X):L c' st X:=by
 rintro a w ⟨E,hi⟩
 refine h a w ⟨E,hi.defers,hi.size.trans hk.nt,hi.slot,hi.heap.box,hi.heap.tok,hi.heap.bb,hi.heap.tt,hi.heap.bt,fun i b hl hn=> ?_,fun j t g hj hg=>Nat.le_trans hk.kept.size (hi.heap.ownt j t g hj hg),hi.heap.new,fun b hb=> ?_,fun id hid=> ?_,?_⟩
 · rcases hi.heap.own i b hl hn with h1|⟨id,hid,e,_⟩
   · exact .inl (Nat.le_trans hk.kept.size h1)
   · rw[←e];exact hk.own id hid
 · rw[hi.heap.old b (Nat.lt_of_lt_of_le hb hk.kept.size),hk.old b hb]
 · obtain⟨k1,k2,k3⟩:=hk.ins id hid
   obtain⟨e1,e2,e3⟩:=hi.heap.ins id k1
   exact⟨e1.trans k2,e2.trans k3,e3⟩
 · refine hk.kept.next hi.heap.kept.os hi.heap.kept.tape hi.heap.kept.output hi.heap.kept.size (fun k hk' hm=>hi.heap.kept.block k (Nat.lt_of_lt_of_le hk' hk.kept.size) (fun hM=> ?_)) (fun h=>False.elim h)
   obtain⟨id,hid,e,_⟩:=hM
   rcases hk.own id hid with h1|h1
   · rw[e] at h1;omega
   · rw[e] at h1;exact hm h1
theorem Yields.lookM{t:TypeId}{b:Nat}{l:List (Int×Int)}{x y:Operand}{k:Int}(ho:o.op= .lookup t x y true)(ht:MapTy P t)(hm:MapIn c b l)(hx:st.ev x= .iv (.im (.map (some b))))(hy:st.ev y=aI k):
 Yields P c st o (.tup [aI ((Abs.lookM l k).getD 0),aB (Abs.lookM l k).isSome]):=fun E a w hi=>by
 obtain⟨⟨es,clk,hh,he⟩,hM⟩:=hm
 obtain⟨kt,et,t1,t2,t3⟩:=ht.h
 have hlt:b<c.w0.heap.size:=(Array.getElem?_eq_some_iff.1 hh).1
 rw[←hi.heap.kept.block b hlt hM] at hh
 obtain⟨r,hr,hrv⟩:=findNow_ents k es.toList l 0 he
 have e1:a.eval x= .map (some b):=by have:=hi.ev x;rw[hx] at this;exact this.iv_im
 have e2:a.eval y= .int .i64 k:=by have:=hi.ev y;rw[hy] at this;exact this.iv_im
 have hkey:MapKept.IsKey (.int .i64) (.int .i64 k):=rfl
 have hz:=run_zero (w:=w) t3
 refine⟨.tuple #[.int .i64 ((Abs.lookM l k).getD 0),.bool (Abs.lookM l k).isSome],?_,.tup rfl (fun i cc u hc hu=> ?_)⟩
 · cases r with
   |none=>
    have:Abs.lookM l k=none:=by cases hl:Abs.lookM l k with|none=>rfl|some _=>rw[hl] at hrv;cases hrv
    simp[execOp,ho,e1,e2,Instr.lookup,run_underlying t1,MapKept.run_getObj_map hh,MapKept.run_checkKey t2 hkey,MapKept.run_findKey t2 hr,hz,Result.andThen,this]
   |some q=>
    obtain⟨j,v⟩:=q
    cases hl:Abs.lookM l k with
    |none=>rw[hl] at hrv;cases hrv
    |some v'=>
     rw[hl] at hrv
     simp only[Option.map_some,Option.some.injEq] at hrv
     subst hrv
     simp[execOp,ho,e1,e2,Instr.lookup,run_underlying t1,MapKept.run_getObj_map hh,MapKept.run_checkKey t2 hkey,MapKept.run_findKey t2 hr,Result.andThen]
 · match i,hc,hu with
   |0,hc,hu=>simp at hc hu;subst hc;subst hu;exact .iv (.im rfl)
   |1,hc,hu=>simp at hc hu;subst hc;subst hu;exact .iv (.im rfl)
   |n+2,hc,hu=>simp at hc
end
end Go.Abs
namespace Go.Proofs
open Go.Shelf
set_option maxRecDepth 100000
def Tryz.lays144_ren:Go.Shelf.Ren:=⟨fun|144=>67|143=>89|219=>98|217=>104|225=>105|224=>106|267=>107|266=>110|314=>111|n=>n,fun|9=>9|4=>4|3=>3|5=>5|46=>110|146=>147|51=>146|n=>n,fun|1=>1|n=>n⟩
theorem Tryz.lays144:Go.Proofs.Lays.n144 Tryz.prog Tryz.lays144_ren where
 mixed:=by kernel_rfl
 f143:=Tryz.func89.trans (congrArg some (by kernel_rfl))
 f144:=Tryz.func67.trans (congrArg some (by kernel_rfl))
 f217:=Tryz.func104.trans (congrArg some (by kernel_rfl))
 f219:=Tryz.func98.trans (congrArg some (by kernel_rfl))
 f224:=Tryz.func106.trans (congrArg some (by kernel_rfl))
 f225:=Tryz.func105.trans (congrArg some (by kernel_rfl))
 f266:=Tryz.func110.trans (congrArg some (by kernel_rfl))
 f267:=Tryz.func107.trans (congrArg some (by kernel_rfl))
 f314:=Tryz.func111.trans (congrArg some (by kernel_rfl))
 t3:=Tryz.underlying3
 a3:=Tryz.isAgg3
 z3:=Tryz.sizeOf3
 v3:=Tryz.zeroValue3
 t4:=Tryz.underlying4
 a4:=Tryz.isAgg4
 z4:=Tryz.sizeOf4
 v4:=Tryz.zeroValue4
 t5:=Tryz.underlying5
 a5:=Tryz.isAgg5
 z5:=Tryz.sizeOf5
 v5:=Tryz.zeroValue5
 t9:=Tryz.underlying9
 a9:=Tryz.isAgg9
 z9:=Tryz.sizeOf9
 v9:=Tryz.zeroValue9
 t46:=Tryz.underlying110
 a46:=Tryz.isAgg110
 z46:=Tryz.sizeOf110
 v46:=Tryz.zeroValue110
 t51:=Tryz.underlying146
 a51:=Tryz.isAgg146
 z51:=Tryz.sizeOf146
 v51:=Tryz.zeroValue146
 t146:=Tryz.underlying147
 a146:=Tryz.isAgg147
 z146:=Tryz.sizeOf147
 v146:=Tryz.zeroValue147
 g1:=by kernel_rfl
def Tryz.lays160_ren:Go.Shelf.Ren:=⟨fun|160=>66|232=>83|231=>82|227=>84|234=>86|233=>85|236=>88|235=>87|228=>94|271=>97|151=>96|197=>95|120=>103|152=>102|260=>101|137=>108|119=>109|224=>106|225=>105|217=>104|266=>110|n=>n,fun|9=>9|4=>4|3=>3|5=>5|117=>127|116=>126|0=>0|124=>130|21=>21|105=>133|46=>110|119=>141|139=>144|138=>143|n=>n,fun|3=>2|4=>3|n=>n⟩
theorem Tryz.lays160:Go.Proofs.Lays.n160 Tryz.prog Tryz.lays160_ren where
 mixed:=by kernel_rfl
 f119:=Tryz.func109.trans (congrArg some (by kernel_rfl))
 f120:=Tryz.func103.trans (congrArg some (by kernel_rfl))
 f137:=Tryz.func108.trans (congrArg some (by kernel_rfl))
 f151:=Tryz.func96.trans (congrArg some (by kernel_rfl))
 f152:=Tryz.func102.trans (congrArg some (by kernel_rfl))
 f160:=Tryz.func66.trans (congrArg some (by kernel_rfl))
 f197:=Tryz.func95.trans (congrArg some (by kernel_rfl))
 f217:=Tryz.func104.trans (congrArg some (by kernel_rfl))
 f224:=Tryz.func106.trans (congrArg some (by kernel_rfl))
 f225:=Tryz.func105.trans (congrArg some (by kernel_rfl))
 f227:=Tryz.func84.trans (congrArg some (by kernel_rfl))
 f228:=Tryz.func94.trans (congrArg some (by kernel_rfl))
 f231:=Tryz.func82.trans (congrArg some (by kernel_rfl))
 f232:=Tryz.func83.trans (congrArg some (by kernel_rfl))
 f233:=Tryz.func85.trans (congrArg some (by kernel_rfl))
 f234:=Tryz.func86.trans (congrArg some (by kernel_rfl))
 f235:=Tryz.func87.trans (congrArg some (by kernel_rfl))
 f236:=Tryz.func88.trans (congrArg some (by kernel_rfl))
 f260:=Tryz.func101.trans (congrArg some (by kernel_rfl))
 f266:=Tryz.func110.trans (congrArg some (by kernel_rfl))
 f271:=Tryz.func97.trans (congrArg some (by kernel_rfl))
 t0:=Tryz.underlying0
 a0:=Tryz.isAgg0
 z0:=Tryz.sizeOf0
 v0:=Tryz.zeroValue0
 t3:=Tryz.underlying3
 a3:=Tryz.isAgg3
 z3:=Tryz.sizeOf3
 v3:=Tryz.zeroValue3
 t4:=Tryz.underlying4
 a4:=Tryz.isAgg4
 z4:=Tryz.sizeOf4
 v4:=Tryz.zeroValue4
 t5:=Tryz.underlying5
 a5:=Tryz.isAgg5
 z5:=Tryz.sizeOf5
 v5:=Tryz.zeroValue5
 t9:=Tryz.underlying9
 a9:=Tryz.isAgg9
 z9:=Tryz.sizeOf9
 v9:=Tryz.zeroValue9
 t21:=Tryz.underlying21
 a21:=Tryz.isAgg21
 z21:=Tryz.sizeOf21
 v21:=Tryz.zeroValue21
 t46:=Tryz.underlying110
 a46:=Tryz.isAgg110
 z46:=Tryz.sizeOf110
 v46:=Tryz.zeroValue110
 t105:=Tryz.underlying133
 a105:=Tryz.isAgg133
 z105:=Tryz.sizeOf133
 v105:=Tryz.zeroValue133
 t116:=Tryz.underlying126
 a116:=Tryz.isAgg126
 z116:=Tryz.sizeOf126
 t117:=Tryz.underlying127
 a117:=Tryz.isAgg127
 z117:=Tryz.sizeOf127
 v117:=Tryz.zeroValue127
 t119:=Tryz.underlying141
 a119:=Tryz.isAgg141
 z119:=Tryz.sizeOf141
 t124:=Tryz.underlying130
 a124:=Tryz.isAgg130
 z124:=Tryz.sizeOf130
 v124:=Tryz.zeroValue130
 t138:=Tryz.underlying143
 a138:=Tryz.isAgg143
 z138:=Tryz.sizeOf143
 v138:=Tryz.zeroValue143
 t139:=Tryz.underlying144
 a139:=Tryz.isAgg144
 z139:=Tryz.sizeOf144
 v139:=Tryz.zeroValue144
 g3:=by kernel_rfl
 g4:=by kernel_rfl
end Go.Proofs
