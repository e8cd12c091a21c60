/- Lemmas towards the law. Conditions: each one says its own. -/
import Derived.Test.YtnhmohbhgocbjaaGreatDoorZT1
import Derived.Laws.StructEq
import Derived.Laws.Slices
import Derived.Laws.Strings2
import Derived.Laws.BytesString
import Derived.Laws.Externs
import Derived.Lib.Bytealg
import Derived.Laws.Small
import Derived.Laws.Cover3
import Derived.Lib.AppendZerosOnto
import Derived.Lib.Overlaps
set_option linter.all false
set_option maxHeartbeats 64000000
set_option maxRecDepth 100000
namespace Go.Abs
variable [Dr]
open Go.RowKit (Below)
def getM{α β:Type}{f:α→β}{vs:List α}{i:Nat}{v:α}(hv:vs[i]?=some v):(vs.map f)[((i:Nat):Int).toNat]?=some (f v):=by simp[hv]
def NF{m:List UInt8}{n:Int}(h0:0≤n)(h1:n<m.length):m[n.toNat]?=some (m.getD n.toNat 0):=by
 have:n.toNat<m.length:=C;simp[List.getD_eq_getElem?_getD,gG this]
def eqV:Value→Value→Option Bool
 | .int k a,.int k' b=>if k=k' then some (a==b) else none
 | .bool a,.bool b=>some (a==b)
 | .string a,.string b=>some (a.data.toList==b.data.toList)
 |_,_=>none
def vW:List AV→List AV→Option Bool
 | [],[] =>some true
 | .iv (.im v)::vs,.iv (.im u)::us=>match eqV v u,vW vs us with
   |some a,some b=>some (a && b)
   |_,_=>none
 |_,_=>none
def wu(P:Program)(t:TypeId):Nat:=match P.underlying t with|some (.int _)=>1|some .bool=>2|some .string=>3|_=>0
def mv:AV→Nat
 | .iv (.im (.int _ _))=>1
 | .iv (.im (.bool _))=>2
 | .iv (.im (.string _))=>3
 |_=>0
def Gh(P:Program):Nat→List Field→List Nat→Bool
 |_,[],[] =>true
 |i,f::fs,k::ks=>(f.name != "_" && (f.offset==i && wu P f.type==k)) && Gh P (i+1) fs ks
 |_,_,_=>false
def IM(P:Program)(t:TypeId)(ks:List Nat):Bool:=
 match P.underlying t with
 |some (.struct fs)=> !(P.stoodInHeld t) && (!(P.eqGuardType P.depth t) && Gh P 0 fs.toList ks)
 |_=>false
def JS{P:Program}{t:TypeId}{v u:Value}{b:Bool}(d:Nat)(w:World)(hk:wu P t=mv (.iv (.im v)))(h:eqV v u=some b):(Op.equalIn (d+1) t v u).run P w= .ok b w∧(isAgg t).run P w= .ok false w:=by
 unfold wu at hk;cases v<;>cases u<;>simp only[eqV] at h<;>try (cases h;done)
 · rename_i a b';cases h;cases hu:P.underlying t with
   |none=>rw[hu] at hk;simp[mv] at hk
   |some x=>rw[hu] at hk;cases x<;>simp[mv] at hk<;>simp[Op.equalIn,run_underlying hu,isAgg]
 · rename_i k a k' b';split at h
   · rename_i hkk;subst hkk;cases h;cases hu:P.underlying t with
     |none=>rw[hu] at hk;simp[mv] at hk
     |some x=>rw[hu] at hk;cases x<;>simp[mv] at hk<;>simp[Op.equalIn,run_underlying hu,isAgg]
   · cases h
 · rename_i a b';cases h;have:(a==b')=(a.data.toList==b'.data.toList):=by
    obtain⟨⟨x⟩⟩:=a;obtain⟨⟨y⟩⟩:=b';show((⟨x⟩:Array UInt8)==⟨y⟩)=(x==y)
    simp
   cases hu:P.underlying t with
   |none=>rw[hu] at hk;simp[mv] at hk
   |some x=>rw[hu] at hk;cases x<;>simp[mv] at hk<;>simp[Op.equalIn,run_underlying hu,this,isAgg]
def AP{P:Program}(d:Nat)(w:World): ∀(fs:List Field) (i:Nat) (xs ys:Array Value) (vs us:List AV) (b:Bool),Gh P i fs (vs.map mv)=true→vW vs us=some b→
 (∀(j:Nat) (v:Value),vs[j]?=some (.iv (.im v))→xs[i+j]?=some v)→(∀(j:Nat) (v:Value),us[j]?=some (.iv (.im v))→ys[i+j]?=some v)→
 (Op.eqFields (d+1) xs ys fs).run P w= .ok b w
 | [],i,xs,ys,vs,us,b,hf,h,_,_=>by
   cases vs with
   |nil=>cases us with
    |nil=>simp only[vW] at h;cases h;simp[Op.eqFields]
    |cons _ _=>simp[vW] at h
   |cons _ _=>simp[Gh] at hf
 |f::fs,i,xs,ys,vs,us,b,hf,h,hx,hy=>by
  match vs,us,h with
  | [],_,h=>simp[Gh] at hf
  | .iv (.im v)::vs,.iv (.im u)::us,h=>
    simp only[List.map_cons,Gh,aE,bne_iff_ne,beq_iff_eq] at hf;obtain⟨⟨hn,ho,hk⟩,hfs⟩:=hf;simp only[vW] at h;cases h1:eqV v u with
    |none=>rw[h1] at h;cases h
    |some b1=>
     cases h2:vW vs us with
     |none=>rw[h1,h2] at h;cases h
     |some b2=>
      rw[h1,h2] at h;cases h;have hxi:xs[f.offset]?=some v:=by rw[ho];exact hx 0 v U
      have hyi:ys[f.offset]?=some u:=by rw[ho];exact hy 0 u U
      obtain⟨he,hag⟩:=JS (P:=P) d w hk h1;have ih:=AP d w fs (i+1) xs ys vs us b2 hfs h2 (fun j v' hv'=>by have:=hx (j+1) v' (by simpa using hv');rwa [show i+1+j=i+(j+1) by omega]) (fun j v' hv'=>by have:=hy (j+1) v' (by simpa using hv');rwa [show i+1+j=i+(j+1) by omega]);have hpx:(part f.type xs f.offset).run P w= .ok v w:=by simp[part,hag,hxi]
      have hpy:(part f.type ys f.offset).run P w= .ok u w:=by simp[part,hag,hyi]
      simp only[Op.eqFields,hn,ne_eq,not_false_eq_true,if_true,Sem.run_bind,hpx,hpy,Result.andThen_ok,he];cases b1
      · simp
      · simpa using ih
section
variable {P:Program}{c:Ctx}{st:St}{ops:Array Oper}{Q:Exit→Act→World→Prop}{rest:List Oper}{o:Oper}
section
variable {a m n p:Int}{b:Bool}{cs ds:List AV}{e s t t':TypeId}{es:List (List IV)}{k k' kd:IntKind}{ks:List Nat}{w:World}{x y:Operand}
def yv(hx:st.ev x= .agg cs)(hy:st.ev y= .agg ds)(hok:IM P t ks=true)(hn:cs.map mv=ks)(hb:vW cs ds=some b)
 {E:Env} {a:Act} {w:World} (hi:Inv c E st a w): ∃xs ys:Array Value,a.eval x= .agg xs∧a.eval y= .agg ys∧(Op.equalIn 10000 t (.agg xs) (.agg ys)).run P w= .ok b w∧ ∀op,(eqGuard op t x y (.agg xs) (.agg ys)).run P w= .ok () w:=by
 have h1:=hi.ev x;rw[hx] at h1;have h2:=hi.ev y;rw[hy] at h2;obtain⟨xs,hxs,hxr,_⟩:=h1.agg_inv;obtain⟨ys,hys,hyr,_⟩:=h2.agg_inv;unfold IM at hok;split at hok
 · rename_i fs hu;simp only[aE,Bool.not_eq_true',beq_iff_eq] at hok;obtain⟨hs,hg,hfs⟩:=hok;subst hn;have hfo:P.fieldsOf t=fs:=by simp[Program.fieldsOf,hu]
   refine⟨_,_,hxs,hys,?_,fun op=>run_eqGuard_agg w op t x y _ _ hg⟩;rw[run_equalIn_struct w 9999 t _ _ (by rw[hfo];exact hu) hs,hfo];have hcell: ∀(l:List AV) (us:List Value),RelL E w l us→ ∀(j:Nat) (v:Value),l[j]?=some (.iv (.im v))→us.toArray[0+j]?=some v:=by
    intro l us hr j v hj;have hlt:j<us.length:=by rw[hr.1];exact(gS hj).1
    have:=(hr.2 j _ _ hj (gG hlt)).iv_im;simp[gG hlt,this]
   exact AP 9998 w fs.toList 0 _ _ cs ds b hfs hb (hcell cs xs hxr) (hcell ds ys hyr)
 · cases hok
def Yields.eqlAgg(ho:o.op= .binOp .eql t x y t')(hx:st.ev x= .agg cs)(hy:st.ev y= .agg ds)(hok:IM P t ks=true)(hn:cs.map mv=ks)(hb:vW cs ds=some b):Yields P c st o (aB b):=
 .im U fun E a w hi=>by
   obtain⟨xs,ys,h1,h2,h3,h4⟩:=yv hx hy hok hn hb hi;simp[execOp,ho,h1,h2,h4,run_eql_struct,h3,Result.andThen]
def Yields.neqAgg(ho:o.op= .binOp .neq t x y t')(hx:st.ev x= .agg cs)(hy:st.ev y= .agg ds)(hok:IM P t ks=true)(hn:cs.map mv=ks)(hb:vW cs ds=some b):Yields P c st o (aB (!b)):=
 .im U fun E a w hi=>by
   obtain⟨xs,ys,h1,h2,h3,h4⟩:=yv hx hy hok hn hb hi;simp[execOp,ho,h1,h2,h4,run_neq_struct,h3,Result.andThen]
def Yields.shrI(ho:o.op= .binOp .shr t x y t')(hx:st.ev x= .iv (.im (.int k m)))(hy:st.ev y= .iv (.im (.int k' n)))(h0:0≤n):
 Yields P c st o (.iv (.im (.int k (m.fdiv (2 ^ min n.toNat k.bits))))):=
 .im U fun E a w hi=>by
   have: ¬n<0:=C;simp[execOp,ho,hi.im hx,hi.im hy,eqGuard,binOp,Op.shift,this]
def Yields.convU8{b:UInt8}(ho:o.op= .convert s t x)(hx:st.ev x= .iv (.im (.int .u8 (b.toNat:Int))))(ht:P.underlying t=some (.int .i64))(hs:(P.underlying s).isSome=true):Yields P c st o (aI (b.toNat:Int)):=by
 have h:=Yields.conv (c:=c) ho hx ht hs;have hb:=b.toNat_lt;have hw:IntKind.i64.wrap (b.toNat:Int)=(b.toNat:Int):=IntWalk.i64_in _ C
 rwa [hw] at h
def Mh{i:Nat}(ha:0≤a)(h1:a*2 ^ i+2 ^ i≤9223372036854775807)(hn:0≤n)(h2:n<2 ^ i):
 IntKind.i64.wrap ((BitVec.ofInt IntKind.i64.bits (a*2 ^ i)|||BitVec.ofInt IntKind.i64.bits n).toNat:Int)=a*2 ^ i+n:=by
 obtain⟨A,rfl⟩:=Int.eq_ofNat_of_zero_le ha;obtain⟨N,rfl⟩:=Int.eq_ofNat_of_zero_le hn;have e0:((A:Int)*2 ^ i)=((A*2 ^ i:Nat):Int):=by simp
 have h2':N<2 ^ i:=by
  have:((N:Nat):Int)<((2 ^ i:Nat):Int):=by simpa using h2
  exact Int.ofNat_lt.1 this
 have h1':A*2 ^ i+2 ^ i≤9223372036854775807:=by
  have:(((A*2 ^ i+2 ^ i:Nat)):Int)≤9223372036854775807:=by simpa using h1
  omega
 have hor:(A*2 ^ i)|||N=A*2 ^ i+N:=by
  have:=Nat.shiftLeft_add_eq_or_of_lt h2' A;rw[Nat.shiftLeft_eq] at this;exact this.symm
 have hb:(BitVec.ofInt IntKind.i64.bits ((A:Int)*2 ^ i)|||BitVec.ofInt IntKind.i64.bits (N:Int)).toNat=A*2 ^ i+N:=by
  rw[e0,BitVec.toNat_or];have b64:IntKind.i64.bits=64:=rfl;rw[b64,BitVec.ofInt_natCast,BitVec.ofInt_natCast,BitVec.toNat_ofNat,BitVec.toNat_ofNat,Nat.mod_eq_of_lt C,Nat.mod_eq_of_lt C,hor]
 rw[hb,IntWalk.i64_in _ C];simp
def Yields.orA(i:Nat)(ho:o.op= .binOp .or t x y t')(hx:st.ev x=aI m)(hy:st.ev y=aI n)(hp:(2:Int)^ i=p)(hm:m=a*p)(ha:0≤a)(h1:a*p+p≤9223372036854775807)(hn:0≤n)(h2:n<p):Yields P c st o (aI (m+n)):=
 .im U fun E act w hi=>by
   subst hm;subst hp;have h:=Mh ha h1 hn h2;simp[execOp,ho,hi.im hx,hi.im hy,eqGuard,binOp,Op.intBits] at h⊢;exact h
def Yields.shlA(ho:o.op= .binOp .shl t x y t')(hx:st.ev x=aI m)(hy:st.ev y= .iv (.im (.int k' n)))(h0:0≤n)(hp:(2:Int)^ min n.toNat 64=p)(hlo: -9223372036854775808≤m*p)(hhi:m*p≤9223372036854775807):
 Yields P c st o (aI (m*p)):=
 .im U fun E a w hi=>by
   subst hp;have: ¬n<0:=C;have hw:IntKind.i64.wrap (m*2 ^ min n.toNat 64)=m*2 ^ min n.toNat 64:=IntWalk.i64_in _ ⟨hlo,hhi⟩;have hb:IntKind.i64.bits=64:=rfl;simp[execOp,ho,hi.im hx,hi.im hy,eqGuard,binOp,Op.shift,this,hb,hw]
def Yields.quoI(ho:o.op= .binOp .quo t x y t')(hx:st.ev x=aI m)(hy:st.ev y=aI n)(hn:0<n)(hlo: -9223372036854775808≤m)(hhi:m≤9223372036854775807):
 Yields P c st o (aI (m.tdiv n)):=
 .im U fun E a w hi=>by
   have h0: ¬n=0:=C;have hr: -9223372036854775808≤m.tdiv n∧m.tdiv n≤9223372036854775807:=by
    rcases Int.le_total 0 m with h|h
    · have h1:=Int.tdiv_nonneg h (by omega:0≤n);have h2:m.tdiv n≤m:=Int.tdiv_le_self n h;omega
    · have h1:(-m).tdiv n≤ -m:=Int.tdiv_le_self n C;have h2:=Int.tdiv_nonneg (by omega:0≤ -m) (by omega:0≤n);rw[Int.neg_tdiv] at h1 h2;omega
   have:IntKind.i64.wrap (m.tdiv n)=m.tdiv n:=IntWalk.i64_in _ hr;simp[execOp,ho,hi.im hx,hi.im hy,eqGuard,binOp,Op.intDiv,h0,this]
def Yields.remI(ho:o.op= .binOp .rem t x y t')(hx:st.ev x= .iv (.im (.int k m)))(hy:st.ev y= .iv (.im (.int k n)))(hn:0<n):
 Yields P c st o (.iv (.im (.int k (m.tmod n)))):=
 .im U fun E a w hi=>by
   have h0: ¬n=0:=C;simp[execOp,ho,hi.im hx,hi.im hy,eqGuard,binOp,Op.intDiv,h0]
def Yields.sliceSl{m:List UInt8}(ho:o.op= .slice t x (some y) none none)(hx:st.ev x=aS m)(hy:st.ev y= .iv (.im (.int k n)))(ht:P.underlying t=some .string)
 (h0:0≤n) (h1:n≤m.length):Yields P c st o (aS (m.drop n.toNat)):=
 .im U fun E a w hi=>by
   have hs:=run_slice_string_l (P:=P) w t ⟨m.toArray⟩ ht k n h0 (by simpa[ByteArray.size] using h1);have he:(ByteArray.mk m.toArray).extract n.toNat (ByteArray.mk m.toArray).size=ByteArray.mk (m.drop n.toNat).toArray:=by
    rw[ByteArray.extract_mk];congr 2
    exact tL (by simp[ByteArray.size])
   rw[he] at hs;simp[execOp,ho,hi.im hx,hi.im hy,run_sliceAt_string w t _ _ _ _ ht,hs]
def Yields.sliceSh{m:List UInt8}(ho:o.op= .slice t x none (some y) none)(hx:st.ev x=aS m)(hy:st.ev y= .iv (.im (.int k n)))(ht:P.underlying t=some .string)
 (h0:0≤n) (h1:n≤m.length):Yields P c st o (aS (m.take n.toNat)):=
 .im U fun E a w hi=>by
   have hs:=run_slice_string_h (P:=P) w t ⟨m.toArray⟩ ht k n h0 (by simpa[ByteArray.size] using h1);rw[ByteArray.extract_mk] at hs;simp only[List.drop_zero,Nat.sub_zero] at hs;simp[execOp,ho,hi.im hx,hi.im hy,run_sliceAt_string w t _ _ _ _ ht,hs]
def Yields.sliceSlh{z:Operand}{m:List UInt8}{j:Int}(ho:o.op= .slice t x (some y) (some z) none)(hx:st.ev x=aS m)(hy:st.ev y= .iv (.im (.int k n)))(hz:st.ev z= .iv (.im (.int k' j)))(ht:P.underlying t=some .string)
 (h0:0≤n) (h1:n≤j) (h2:j≤m.length):Yields P c st o (aS ((m.drop n.toNat).take (j.toNat - n.toNat))):=
 .im U fun E a w hi=>by
   have hs:=run_slice_string (P:=P) w t ⟨m.toArray⟩ k k' n j ht h0 h1 (by simpa[ByteArray.size] using h2);rw[ByteArray.extract_mk] at hs;simp[execOp,ho,hi.im hx,hi.im hy,hi.im hz,run_sliceAt_string w t _ _ _ _ ht,hs]
def RepI.part{φ:Nat→Nat}{k len cap:Nat}{a:Option Addr}(h:RepI φ w (.sl es) (.slice a len cap))(hk: ∀e∈es,e.length=k){l n:Nat}(hn:n≤es.length)(hl:l≤n):
 RepI φ w (.sl ((es.take n).drop l)) (sliced a l n cap k):=by
 cases h with
 |emp hnn hm=>
  have:n=0:=by simpa using hn
  subst this;have:l=0:=C;subst this;refine .emp (fun ha=> ?_) C;split at ha
  · omega
  · cases a with
    |none=>have:=hnn U;omega
    |some _=>simp at ha
 | @sl _ b o _ k' f hc hm hk' hφ hcell hrep=>
   have hkk: ∀(i:Nat) (e:List IV),es[i]?=some e→k'=k:=fun i e he=>by rw[←hk' i e he,hk e (gE he)]
   have hget: ∀(i:Nat) (e:List IV),((es.take n).drop l)[i]?=some e→es[l+i]?=some e:=fun i e he=>by
    rw[List.getElem?_drop,List.getElem?_take] at he;split at he
    · exact he
    · cases he
   have hlen:((es.take n).drop l).length=n - l:=by simp;omega
   by_cases hcl:cap=l
   · have h1:(es.take n).drop l= []:=nZ (by rw[hlen];omega);rw[h1];have h2:n - l=0:=C;simp only[sliced,hcl,if_true,h2];exact RepI.sl (es:= []) (k:=k) (fun _ _=>undef) sP C (fun i e h=>by simp at h) (fun i e j x h=>by simp at h) (fun i e j x h=>by simp at h) (fun i e j x h=>by simp at h)
   · have:sliced (some ⟨b,o,none⟩) l n cap k= .slice (some ⟨b,o+l*k,none⟩) ((es.take n).drop l).length (cap - l):=by
      simp only[sliced,if_neg hcl,Option.map_some,aK,hlen]
     rw[this];refine .sl (k:=k) (fun i j=>f (l+i) j) (by rw[hlen];omega) C (fun i e he=>hk e (gE (hget i e he))) (fun i e j x he hx=> ?_) (fun i e j x he hx=> ?_) (fun i e j x he hx=>hrep _ _ _ _ (hget i e he) hx)
     · have:=hφ _ _ _ _ (hget i e he) hx;rw[hkk _ _ (hget i e he)] at this;rw[show o+l*k+i*k+j=o+(l+i)*k+j by rw[Nat.add_mul];omega];exact this
     · have:=hcell _ _ _ _ (hget i e he) hx;rw[hkk _ _ (hget i e he)] at this;rw[show o+l*k+i*k+j=o+(l+i)*k+j by rw[Nat.add_mul];omega];exact this
def uG{k:Nat}(hs:bI P t e k=true)(hx:(st.ev x).sl?=some es)(hk: ∀e∈es,e.length=k){E:Env}{a:Act}{w:World}(hi:Inv c E st a w):
 ∃ad len cap,a.eval x= .slice ad len cap∧len=es.length∧es.length≤cap∧P.underlying t=some (.slice (P.elem t))∧(sizeOf (P.elem t)).run P w= .ok k w∧
  ∀l n,n≤es.length→l≤n→RepI E.φ w (.sl ((es.take n).drop l)) (sliced ad l n cap k):=by
 have hr:=(hi.ev x).sl hx;obtain⟨hu,inf,hinf,hsz⟩:=aH hs;have he:P.elem t=e:=by simp[Program.elem,hu]
 have h2:P.underlying t=some (.slice (P.elem t)):=by rw[he];exact hu
 have h3:(sizeOf (P.elem t)).run P w= .ok k w:=by rw[he];simp[sizeOf,typeInfo,hinf,hsz]
 rcases hr.sl_inv with⟨hq,rfl⟩|⟨ad,cap,hq,_,_,rfl⟩|⟨b,o',cap,k',f,hq,hc,hm,hkk,hcell⟩
 · rw[hq] at hr;exact⟨none,0,0,hq,rfl,Nat.le_refl _,h2,h3,fun l n hn hl=>hr.part hk hn hl⟩
 · rw[hq] at hr;exact⟨some ad,0,cap,hq,rfl,Nat.zero_le _,h2,h3,fun l n hn hl=>hr.part hk hn hl⟩
 · rw[hq] at hr;exact⟨_,_,_,hq,rfl,hc,h2,h3,fun l n hn hl=>hr.part hk hn hl⟩
def Yields.sliceVl{k:Nat}(ho:o.op= .slice t x (some y) none none)(hx:(st.ev x).sl?=some es)(hy:st.ev y= .iv (.im (.int kd n)))(hs:bI P t e k=true)
 (hk: ∀e∈es,e.length=k) (h0:0≤n) (h1:n≤es.length):Yields P c st o (.iv (.sl (es.drop n.toNat))):=fun E a w hi=>by
 obtain⟨ad,len,cap,hq,hlen,hc,hu,hz,hp⟩:=uG hs hx hk hi;have hp':=hp n.toNat es.length nR C;rw[List.take_length] at hp';refine⟨_,?_,.iv hp'⟩;subst hlen;have:=run_slice_l (P:=P) w t ad es.length cap hu kd n h0 h1;simp[execOp,ho,hq,hi.im hy,run_sliceAt_slice w t _ _ _ _ hu,this,hz,Result.andThen]
def Yields.sliceVh{k:Nat}(ho:o.op= .slice t x none (some y) none)(hx:(st.ev x).sl?=some es)(hy:st.ev y= .iv (.im (.int kd n)))(hs:bI P t e k=true)
 (hk: ∀e∈es,e.length=k) (h0:0≤n) (h1:n≤es.length):Yields P c st o (.iv (.sl (es.take n.toNat))):=fun E a w hi=>by
 obtain⟨ad,len,cap,hq,hlen,hc,hu,hz,hp⟩:=uG hs hx hk hi;have hp':=hp 0 n.toNat C C;rw[List.drop_zero] at hp';refine⟨_,?_,.iv hp'⟩;subst hlen;have:=run_slice_h (P:=P) w t ad es.length cap hu kd n h0 C;simp[execOp,ho,hq,hi.im hy,run_sliceAt_slice w t _ _ _ _ hu,this,hz,Result.andThen]
abbrev cB(b:UInt8):List IV:= [.im (.int .u8 b.toNat)]
def DD(l:List UInt8): ∀(r:List UInt8),((l.map fun b=>((b.toNat:Int))).foldl (fun(r:ByteArray) n=>r.push (UInt8.ofNat n.toNat)) ⟨r.toArray⟩)=⟨(r++l).toArray⟩:=by
 induction l with
 |nil=>intro r;simp
 |cons b l ih=>
  intro r;simp only[List.map_cons,List.foldl_cons];have:(ByteArray.mk r.toArray).push (UInt8.ofNat ((b.toNat:Int)).toNat)=⟨(r++ [b]).toArray⟩:=by
   have:UInt8.ofNat ((b.toNat:Int)).toNat=b:=by simp
   rw[this];apply ByteArray.ext;simp[ByteArray.push]
  rw[this,ih];simp
def Yields.bytesS{bs:List UInt8}(ho:o.op= .convert s t x)(hx:(st.ev x).sl?=some (bs.map cB))(hs:bI P s e 1=true)(he:P.underlying e=some (.int .u8))(ht:P.underlying t=some .string):
 Yields P c st o (aS bs):=
 .im U fun E a w hi=>by
   obtain⟨hu,inf,hinf,hsz⟩:=aH hs;rcases((hi.ev x).sl hx).sl_inv with⟨hq,h0⟩|⟨ad,cap,hq,_,_,h0⟩|⟨b,o',cap,k',f,hq,_,_,hk,hcell⟩
   · have:bs= []:=by simpa using h0
     subst this;simp[execOp,ho,hq,run_convert_bytes_string w s t e none 0 0 hu he ht,Conv.bytesToString];rfl
   · have:bs= []:=by simpa using h0
     subst this;have hb:=run_bytesToString (P:=P) w ad 0 cap [] (run_loadCells_list w ad [] (fun j v hv=>by simp at hv));simp[execOp,ho,hq,run_convert_bytes_string w s t e (some ad) 0 cap hu he ht,hb];rfl
   · have hc: ∀(i:Nat) (b':UInt8),bs[i]?=some b'→w.cell? ⟨b,o'+i,none⟩=some (.int .u8 b'.toNat):=by
      intro i b' hb;have h1:(bs.map cB)[i]?=some (cB b'):=by simp[hb]
      have h2:=hcell i _ 0 _ h1 U;have h3:=(hk i _ h1)
      simp at h3;have h4:=h2.2.2.im_eq;rw[h4] at h2;simpa[←h3] using h2.2.1
     have hload:(loadCells ⟨b,o',none⟩ ((bs.map fun x=>(x.toNat:Int)).map (Value.int .u8)).length).run P w= .ok (((bs.map fun x=>(x.toNat:Int)).map (Value.int .u8))).toArray w:=
      run_loadCells_list w _ _ (fun j v hv=>by
       simp only[gP,Option.map_map] at hv;cases hb:bs[j]? with
       |none=>rw[hb] at hv;simp at hv
       |some b'=>rw[hb] at hv;simp at hv;subst hv;rw[aK];exact hc j b' hb)
     have hlen:((bs.map fun x=>(x.toNat:Int)).map (Value.int .u8)).length=bs.length:=by simp
     rw[hlen] at hload;have hlm:(bs.map cB).length=bs.length:=by simp
     have:=run_bytesToString w ⟨b,o',none⟩ bs.length cap _ hload;have hf:=DD bs [];simp only[List.nil_append] at hf;have hemp:(ByteArray.mk ([]:List UInt8).toArray)=ByteArray.empty:=rfl;rw[hemp] at hf;rw[hf] at this;rw[hlm] at hq;simp[execOp,ho,hq,run_convert_bytes_string w s t e _ _ _ hu he ht,this]
def L.adopt{s:Nat}(id:Nat){t:TypeId}{k:Nat}{X:Act→World→Prop}(hs:st.fr.lookup s=some .nils)(hf:st.fresh id=true)(hin:c.ins.contains id=false)(h:L c ⟨(s,.row id [])::st.fr,st.bx,(id,⟨t,k⟩)::st.tk⟩ X):L c st X:=by
 rintro a w ⟨E,hi⟩;have mono: ∀(v:AV) (u:Value),AV.ment id v=false→RepA E w v u→RepA ⟨E.φ,E.ρ,fun i=>if i=id then .slice none 0 0 else E.η i⟩ w v u:=fun v u hm hr=>
  hr.mono (E:=E) (E':=⟨E.φ,E.ρ,fun i=>if i=id then .slice none 0 0 else E.η i⟩) (fun _ _ _=>rfl) (fun _=>Nat.le_refl _) (fun i hi'=>⟨rfl,by
    have:i≠id:=fun e=>by subst e;rw[hm] at hi';cases hi'
    simp[this]⟩)
 refine h a w ⟨⟨E.φ,E.ρ,fun i=>if i=id then .slice none 0 0 else E.η i⟩,hi.defers,hi.size,fun s' v hv=> ?_,?_⟩
 · by_cases e:s'=s
   · subst e;simp[List.lookup] at hv;subst hv;have h0:=hi.slot s' _ hs;generalize a.tmps.getD s' undef=u at h0⊢;cases h0;exact .row sP .nil
   · rw[aa e] at hv;exact mono v _ (St.fresh_fr hf hv) (hi.slot s' v hv)
 · have hh:HInv c ⟨E.φ,E.ρ,fun i=>if i=id then .slice none 0 0 else E.η i⟩ st.bx st.tk w:=by
    have hne: ∀(j:Nat) (t':Tok),st.tk.lookup j=some t'→(if j=id then Value.slice none 0 0 else E.η j)=E.η j:=fun j t' hj=>by rw[if_neg (St.fresh_tk hf hj)]
    refine⟨fun i b hb hn=> ?_,fun i t' hi'=> ?_,hi.heap.bb,fun i j t1 t2 g h1 h2 e1 e2=> ?_,fun i j b t' h1 hn h2=> ?_,hi.heap.own,fun j t' g hj hg=> ?_,hi.heap.new,hi.heap.old,fun i hi'=> ?_,hi.heap.kept⟩
    · obtain⟨h0,arr,ha,hl,h1,hr,hq⟩:=hi.heap.box i b hb hn;refine⟨h0,arr,ha,hl,h1,fun k c u hc hu=>mono c u ?_ (hr k c u hc hu),fun k cap he=>hq k cap (by simpa only[if_neg (St.fresh_bx hf hb).1] using he)⟩;exact bB (St.fresh_bx hf hb).2 k c hc
    · have:=hi.heap.tok i t' hi';simp only[TokOk,hne i t' hi'] at this⊢;exact this
    · simp only[hne i t1 h1] at e1;simp only[hne j t2 h2] at e2;exact hi.heap.tt i j t1 t2 g h1 h2 e1 e2
    · simp only[hne j t' h2];exact hi.heap.bt i j b t' h1 hn h2
    · simp only[hne j t' hj] at hg;exact hi.heap.ownt j t' g hj hg
    · obtain⟨h1,h2,h3⟩:=hi.heap.ins i hi';refine⟨h1,?_,h3⟩;have:i≠id:=fun e=>by subst e;simp at hin;exact hin hi'
      simp only[if_neg this];exact h2
   refine hh.addTok (.inl sP) (fun j t' g hj hl hg=>by simp[Value.ownBlock]) (fun i b hb hn=>by simp[Value.ownBlock]) (fun g hg=>by simp[Value.ownBlock] at hg)
def HInv.reEta{E:Env}{η:Nat→Value}(h:HInv c E st.bx st.tk w)(hb: ∀(i:Nat) (b:Box),st.bx.lookup i=some b→ ∀(k:Nat) (v:AV) (u:Value),b.cs[k]?=some v→RepA E w v u→RepA ⟨E.φ,E.ρ,η⟩ w v u)
 (ht: ∀(j:Nat) (t:Tok),st.tk.lookup j=some t→η j=E.η j) (hin: ∀id∈c.ins,η id=E.η id) (hbe: ∀(i:Nat) (b:Box),st.bx.lookup i=some b→η i=E.η i):HInv c ⟨E.φ,E.ρ,η⟩ st.bx st.tk w:=by
 refine⟨fun i b h0 hn=> ?_,fun i t' hi'=> ?_,h.bb,fun i j t1 t2 g h1 h2 e1 e2=> ?_,fun i j b t' h1 hn h2=> ?_,h.own,fun j t' g hj hg=> ?_,h.new,h.old,fun i hi'=> ?_,h.kept⟩
 · obtain⟨h0',arr,ha,hl,h1,hr,hq⟩:=h.box i b h0 hn;exact⟨h0',arr,ha,hl,h1,fun k c u hc hu=>hb i b h0 k c u hc (hr k c u hc hu),fun k cap he=>hq k cap (by simpa only[hbe i b h0] using he)⟩
 · have:=h.tok i t' hi';simp only[TokOk,ht i t' hi'] at this⊢;exact this
 · simp only[ht i t1 h1] at e1;simp only[ht j t2 h2] at e2;exact h.tt i j t1 t2 g h1 h2 e1 e2
 · simp only[ht j t' h2];exact h.bt i j b t' h1 hn h2
 · simp only[ht j t' hj] at hg;exact h.ownt j t' g hj hg
 · obtain⟨h1,h2,h3⟩:=h.ins i hi';exact⟨h1,by rw[←h2];exact hin i hi',h3⟩
def iH(id:Nat): ∀(tk:List (Nat×Tok)) (s:Nat),(delTok id tk).lookup s=if s=id then none else tk.lookup s
 | [],s=>by simp[delTok]
 |(t,u)::tk,s=>by
  have ih:=iH id tk s;unfold delTok at ih⊢;by_cases e:t=id
  · subst e;simp only[List.filter_cons,bne_self_eq_false,Bool.false_eq_true,if_false];rw[ih];by_cases h:s=t
    · simp[h]
    · rw[aa h]
  · have hb:(t !=id)=true:=by simpa[bne] using e
    simp only[List.filter_cons,hb,if_true];by_cases h:s=t
    · subst h;rw[aj,aj,if_neg e]
    · rw[aa h,aa h,ih]
def L.retok{t:Tok}{X:Act→World→Prop}(s a b:Nat)(hs:st.fr.lookup s=some (.row a es))(ht:st.tk.lookup a=some t)(hf:st.fresh b=true)(hin:c.ins.contains b=false)
 (h:L c ⟨(s,.row b es)::st.fr,st.bx,(b,t)::delTok a st.tk⟩ X):L c st X:=by
 rintro act w ⟨E,hi⟩;have hab:a≠b:=St.fresh_tk hf ht;have mono: ∀(v:AV) (u:Value),AV.ment b v=false→RepA E w v u→RepA ⟨E.φ,E.ρ,fun i=>if i=b then E.η a else E.η i⟩ w v u:=fun v u hm hr=>
  hr.mono (E:=E) (E':=⟨E.φ,E.ρ,fun i=>if i=b then E.η a else E.η i⟩) (fun _ _ _=>rfl) (fun _=>Nat.le_refl _) (fun i hi'=>⟨rfl,by
    have:i≠b:=fun e=>by subst e;rw[hm] at hi';cases hi'
    simp[this]⟩)
 have hh:HInv c ⟨E.φ,E.ρ,fun i=>if i=b then E.η a else E.η i⟩ st.bx st.tk w:=hi.heap.reEta
  (fun i bb h0 k v u hv hr=>mono v u (bB (St.fresh_bx hf h0).2 k v hv) hr)
  (fun j t' hj=>by simp only[if_neg (St.fresh_tk hf hj)])
  (fun id hid=>by
    have:id≠b:=fun e=>by subst e;simp at hin;exact hin hid
    simp only[if_neg this])
  (fun i bb h0=>by simp only[if_neg (St.fresh_bx hf h0).1])
 have hh':HInv c ⟨E.φ,E.ρ,fun i=>if i=b then E.η a else E.η i⟩ st.bx (delTok a st.tk) w:=by
  have hw:Wk c st ⟨st.fr,st.bx,delTok a st.tk⟩:=⟨fun id hid=>(hi.heap.ins id hid).2.2,fun s v hv=>⟨v,hv,Sub.refl _⟩,fun id bb hb=>⟨bb,hb,rfl,Subs.refl _⟩,fun id t' ht'=>by
   simp only at ht';rw[iH] at ht';split at ht'
   · cases ht'
   · exact ht'⟩
  exact hh.wk (st:=st) (st':=⟨st.fr,st.bx,delTok a st.tk⟩) hw
 refine h act w ⟨⟨E.φ,E.ρ,fun i=>if i=b then E.η a else E.η i⟩,hi.defers,hi.size,fun s' v hv=> ?_,?_⟩
 · by_cases e:s'=s
   · subst e;simp[List.lookup] at hv;subst hv;have h0:=hi.slot s' _ hs;cases h0 with
     |row hu h0=>exact .row (by simp[hu]) h0
   · rw[aa e] at hv;exact mono v _ (St.fresh_fr hf hv) (hi.slot s' v hv)
 · refine hh'.addTok ?_ (fun j t' g hj hl hg=> ?_) (fun i bb hb hn=> ?_) (fun g hg=> ?_)
   · have:=hi.heap.tok a t ht;simp only[TokOk,if_true] at this⊢;exact this
   · rw[iH] at hl;split at hl
     · cases hl
     · rename_i hja;simp only[if_neg hj,if_true] at hg⊢;intro hg';exact hja (hi.heap.tt j a t' t g hl ht hg hg')
   · simp only[if_true];exact hi.heap.bt i a bb t hb hn ht
   · simp only[if_true] at hg;exact hi.heap.ownt a t g ht hg
def Yields.indexD{i:Operand}{m:List UInt8}(ho:o.op= .index t x i)(hx:st.ev x=aS m)(hi':st.ev i= .iv (.im (.int k n)))
 (ht:P.underlying t=some .string) (h0:0≤n) (h1:n<m.length):Yields P c st o (.iv (.im (.int .u8 (m.getD n.toNat 0).toNat))):= .indexS ho hx hi' ht h0 (NF h0 h1)
end
end
section
variable {P:Program}{c:Ctx}{st:St}{ops:Array Oper}{Q:Exit→Act→World→Prop}{rest:List Oper}{o:Oper}
def tB(P:Program)(f:FuncId)(e:Array Value→Sem Value):Prop:=
 ∃fn,P.funcs[f]?=some fn∧(fn.name== "runtime.NumGoroutine")=false∧fn.body.isNone=true∧Extern.findNext fn=none∧Extern.find fn=some e
section
variable {E:Env}{args NJ:List AV}{ats:Array TypeId}{bx bx':List (Nat×Box)}{d g:Nat}{f:FuncId}{m n:Int}{res:AV}{t t':TypeId}{tk':List (Nat×Tok)}{w:World}{x y:Operand}
def Yields.idxB{m:List UInt8}(ho:o.op= .call {callee:= .value (.func f),args:= #[x,y],argTypes:=ats})
 (hok:tB P f Extern.BytealgIndexByte.indexByte) (hx:st.ev x=aS m) (hy:st.ev y= .iv (.im (.int .u8 n))):Yields P c st o (aI (Lib.indexByte m n.toNat.toUInt8)):=
 .im U fun E a w hi=>by
   obtain⟨fn,hf,h1,h2,h3,h4⟩:=hok;have e1:=hi.im hx;have e2:=hi.im hy;have hrun:=run_callFunc_extern hf h1 h2 h3 h4 #[.string ⟨m.toArray⟩,.int .u8 n] w;rw[Lib.run_indexByteString] at hrun;have:(execOp a.eval o).run P w=(callFunc f #[a.eval x,a.eval y]).run P w:=by
    simp[execOp,ho,resolve,Deferred.ofValue,Act.eval,invoke]
   rw[this,e1,e2,hrun];simp[Result.andThen]
def and_one(n:Int):bits .and .i64 n 1=n % 2:=by
 have h1:(BitVec.ofInt 64 1).toNat=2 ^ 1 - 1:=by decide
 have key:(BitVec.ofInt 64 n &&& BitVec.ofInt 64 1).toNat=(n % ((2 ^ 64:Nat):Int)).toNat % 2 ^ 1:=by
  rw[BitVec.toNat_and,BitVec.toNat_ofInt,h1,Nat.and_two_pow_sub_one_eq_mod]
 show IntKind.i64.wrap ((BitVec.ofInt 64 n &&& BitVec.ofInt 64 1).toNat:Nat)=n % 2;rw[key,IntKind.wrap_i64];omega
def Yields.and1(ho:o.op= .binOp .and t x y t')(hx:st.ev x=aI m)(hy:st.ev y=aI 1):Yields P c st o (aI (m % 2)):=
 .arith ho hx hy (fun w=>by rw[←and_one m];rfl) (fun w=>rfl)
def Yields.min2(ho:o.op= .call {callee:= .builtin .min,args:= #[x,y],argTypes:= #[t,t']})(hx:st.ev x=aI m)(hy:st.ev y=aI n):Yields P c st o (aI (if n<m then n else m)):=
 .im U fun E a w hi=>by
   have e1:=hi.im hx;have e2:=hi.im hy;simp[execOp,ho,resolve,invoke,builtin,e1,e2,run_min_int2,Result.andThen]
abbrev au:=List (Nat×List IV)
def Glob(gs:au)(E:Env)(w:World):Prop:=
 ((∀b,w.heap.size≤b→E.φ b=0)∧ ∀(g:Nat) (xs:List IV),(g,xs)∈gs→xs≠ [] → ∃cs ty sp,w.heap[g]?=some (.cells cs ty sp)∧cs.size=xs.length)∧ ∀(g:Nat) (xs:List IV),(g,xs)∈gs→ ∀(i:Nat) (x:IV),xs[i]?=some x→i<E.φ g∧ ∃v,w.cell? ⟨g,i,none⟩=some v∧RepI E.φ w x v
def Glob.nil(h: ∀b,w.heap.size≤b→E.φ b=0):Glob [] E w:=⟨⟨h,fun g xs h=>by simp at h⟩,fun g xs h=>by simp at h⟩
def Glob.keep{gs:au}{a:Act}(h:Glob gs c.E0 c.w0)(hi:Inv c E st a w):Glob gs E w:=by
 obtain⟨⟨h0,hs⟩,h1⟩:=h;have lt: ∀b o,o<c.E0.φ b→b<c.w0.heap.size:=fun b o ho=>Nat.lt_of_not_le (fun hle=>by rw[h0 b hle] at ho;omega)
 have hk:Keeps c.E0.φ c.w0 w:=fun b o ho=>by
  have hb:=lt b o ho;exact World.cell?_of_block (w:=c.w0) (hi.heap.kept.block b hb (fun⟨id,hid,hg,h0⟩=>by omega))
 have hφ: ∀b,c.E0.φ b≤E.φ b:=fun b=>by
  by_cases hb:b<c.w0.heap.size
  · rw[hi.heap.old b hb];exact Nat.le_refl _
  · rw[h0 b C];exact Nat.zero_le _
 refine⟨⟨hi.heap.new,fun g xs hg hne=> ?_⟩,fun g xs hg i x hx=> ?_⟩
 · obtain⟨k1,_⟩:=h1 g xs hg 0 _ (gG (gU hne));obtain⟨cs,ty,sp,e1,e2⟩:=hs g xs hg hne;exact⟨cs,ty,sp,(hi.heap.kept.block g (lt g 0 k1) (fun⟨id,hid,hg,h0⟩=>by omega)).trans e1,e2⟩
 obtain⟨k1,v,k2,k3⟩:=h1 g xs hg i x hx;exact⟨Nat.lt_of_lt_of_le k1 (hφ g),v,by rw[hk g i k1];exact k2,k3.mono hk hφ⟩
def CallG(gs:au)(P:Program)(f:FuncId)(args:List AV)(bx bx':List (Nat×Box))(tk':List (Nat×Tok))(res:AV):Prop:=
 ∀(E:Env) (w:World) (us:List Value),RelL E w args us→HInv ⟨0,w,E,keys bx⟩ E bx [] w→Glob gs E w→
  Calls P f us.toArray w fun e w'=> ∃(u:Value) (E':Env),e= .returned u∧RepA E' w' res u∧HInv ⟨0,w,E,keys bx⟩ E' bx' tk' w'
def CallA.toG{gs:au}(h:CallA P f args bx bx' tk' res):CallG gs P f args bx bx' tk' res:=
 fun E w us hr hh _=>h E w us hr hh
def CallG.toA(h:CallG [] P f args bx bx' tk' res):CallA P f args bx bx' tk' res:=
 fun E w us hr hh=>h E w us hr hh (Glob.nil hh.new)
def CallG.intro{gs:au}{fn:Func}{code:Code}(nt:Nat)(hf:P.funcs[f]?=some fn)(hb:fn.body=some code)(hnt:fn.ntmps=nt)(hn:Nat.ble args.length nt=true)
 (h: ∀(w0:World) (E0:Env),Glob gs E0 w0→L ⟨nt,w0,E0,keys bx⟩ ⟨enter 0 args,bx,[]⟩ (code.wp P (bodyPost P fn (lp ⟨nt,w0,E0,keys bx⟩ bx' tk' res)))):CallG gs P f args bx bx' tk' res:=by
 subst hnt;have hn:=bT hn;intro E w us hrel hh hg;have hl:=hrel.1;refine calls_of_wp (R:=lp ⟨fn.ntmps,w,E,keys bx⟩ bx' tk' res) hf hb (h w E hg _ _ ⟨E,rfl,?_,fun s v hv=> ?_,?_⟩)|>.mono ?_
 · simp;omega
 · obtain⟨_,hv'⟩:=sI args 0 s v hv;rw[Nat.sub_zero] at hv';have hlt:s<us.length:=by rw[hl];exact(gS hv').1
   have:(us.toArray++Array.replicate (fn.ntmps - us.toArray.size) undef).getD s undef=us[s]:=by
    simp[Array.getElem?_append,hlt]
   rw[this];exact hrel.2 s v _ hv' (gG hlt)
 · exact⟨hh.box,hh.tok,hh.bb,hh.tt,hh.bt,hh.own,hh.ownt,hh.new,hh.old,hh.ins,hh.kept⟩
 · rintro e w' ⟨u,E',he,hu,hh'⟩;exact⟨u,E',he,hu,⟨hh'.box,hh'.tok,hh'.bb,hh'.tt,hh'.bt,hh'.own,hh'.ownt,hh'.new,hh'.old,hh'.ins,hh'.kept⟩⟩
def nf{gs:au}(N:List Nat){f:FuncId}{NJ:List AV}{bxi bxo:List (Nat×Box)}{tko:List (Nat×Tok)}{res:AV}{d:Nat}(hg:o.guard=none)(hd:o.dst=some d)(hlt:Nat.ble (d+1) c.nt=true)(hG:Glob gs c.E0 c.w0)
 (ho: ∀(E:Env) (a:Act) (w:World),Inv c E st a w→ ∃us:List Value,(execOp a.eval o).run P w= .ok (.enter f us.toArray) w∧RelL E w NJ us) (hc:CallG gs P f NJ bxi bxo tko res) (hbi:WkB st.bx bxi)
 (hN:N.all (fun id=>st.fresh id)=true) (hbo:dW N bxi bxo=true) (hto:(keys tko).all (fun id=>N.contains id)=true)
 (hmb:bxo.all (fun p=>AV.mentsIn (N++keys bxi) p.2.cs)=true) (hmr:AV.mentIn (N++keys bxi) res=true)
 (h:L c ⟨(d,res)::st.fr,bxo++st.bx,tko++st.tk⟩ (wpList P ops Q rest)):L c st (wpList P ops Q (o::rest)):=by
 rintro a w ⟨E,hi⟩;refine wpList_plain hg (fun K hK=> ?_);obtain⟨us,hrun,hrel⟩:=ho E a w hi;unfold Oper.wp;rw[hrun,Oper.upon_enter];have hcall:=hc E w us hrel (hi.heap.hand hbi) (hG.keep hi);refine hcall.mono fun e w' ⟨u,E',he,hu,hh⟩=> ?_
 subst he;obtain⟨hj,monoN,monoC⟩:=hi.heap.join hh (N:=N) (fun id hid=>aT hN id hid) (fun id hid=>by
  obtain⟨b,hb⟩:=it hid;obtain⟨b0,h0,_,hs⟩:=hbi.get id b hb;exact⟨b0,h0,hs.ne (yF hbo hb)⟩)
  (fun id hid=>yG hbo hid) (fun id hid=>by have:=aT hto id hid;simpa using this)
  (fun id b hb=>aT hmb _ (dZ hb))
 refine hK _ _ ?_;rw[hd];refine h _ _ ⟨_,Inv.put (st:=⟨st.fr,bxo++st.bx,tko++st.tk⟩) ⟨hi.defers,hi.size,fun s v hv=>monoC v _ (fun id hid=>St.fresh_fr (aT hN id hid) hv) (hi.slot s v hv),hj⟩ (bT hlt) (monoN res u hmr hu)⟩
def L.callG0{gs:au}{args:Array Operand}(hg:o.guard=none)(hd:o.dst=some d)(hlt:Nat.ble (d+1) c.nt=true)(hG:Glob gs c.E0 c.w0)
 (ho:o.op= .call {callee:= .value (.func f),args:=args,argTypes:=ats}) (hok:dQ P f=true) (hc:CallG gs P f NJ [] [] [] res) (ha:Subs (args.toList.map st.ev) NJ)
 (hmr:AV.mentIn [] res=true) (h:L c ⟨(d,res)::st.fr,st.bx,st.tk⟩ (wpList P ops Q rest)):L c st (wpList P ops Q (o::rest)):=
 nf [] hg hd hlt hG (fun E a w hi=>⟨args.toList.map a.eval,by
  have hargs:(args.toList.map a.eval).toArray=args.map a.eval:=by apply Array.ext';simp
  rw[hargs];simp[execOp,ho,resolve,Deferred.ofValue,Act.eval,invoke,eK hok],(hi.evs args).sub ha⟩) hc .nil U U U U hmr h
def LI(P:Program)(t e:TypeId)(n:Nat):Bool:=
 (match P.underlying t with|some (.array m e')=>m==n && e'==e|_=>false) && (match P.info? e with|some i=>i.size==1|none=>false)
def Yields.indexG{gs:au}{xs:List IV}{e:TypeId}{i:Operand}{kd:IntKind}{v:IV}(ho:o.op= .indexAddr t (.global g) i)(hs:LI P t e xs.length=true)(hG:Glob gs c.E0 c.w0)(hm:(g,xs)∈gs)
 (hi':st.ev i= .iv (.im (.int kd n))) (h0:0≤n) (hv:xs[n.toNat]?=some v):Yields P c st o (.el [v]):=fun E a w hi=>by
 have e1:=hi.im hi';obtain⟨g1,u,g2,g3⟩:=(hG.keep hi).2 g xs hm _ v hv;unfold LI at hs;simp only[aE] at hs;obtain⟨hs1,hs2⟩:=hs;have hu:P.underlying t=some (.array xs.length e):=by
  split at hs1
  · rename_i m e' hm;simp only[aE,beq_iff_eq] at hs1;rw[hm,hs1.1,hs1.2]
  · cases hs1
 have hlt:n<(xs.length:Int):=by
  have:=(gS hv).1;omega
 cases hinf:P.info? e with
 |none=>rw[hinf] at hs2;simp at hs2
 |some inf=>
  rw[hinf] at hs2;have hsz:inf.size=1:=by simpa using hs2
  refine⟨.pointer (some ⟨g,n.toNat,none⟩),?_,.el (fun _=>u) (fun j x hx=> ?_) (fun j x hx=> ?_)⟩
  · have eg:a.eval (.global g)= .pointer (some ⟨g,0,none⟩):=rfl;have ea:(⟨g,0,none⟩:Addr).add n.toNat=⟨g,n.toNat,none⟩:=by rw[aK,Nat.zero_add]
    simp[execOp,ho,eg,e1,Instr.indexAt,asIntOf,run_underlying hu,Instr.sureAddr,h0,hlt,sizeOf,typeInfo,hinf,hsz,ea]
  · cases j with
    |zero=>exact⟨g1,g2⟩
    |succ j=>simp at hx
  · cases j with
    |zero=>simp at hx;subst hx;exact g3
    |succ j=>simp at hx
def Yields.loadG{gs:au}{x:IV}(ho:o.op= .load t (.global g))(ht:nI P t false 1=true)(hG:Glob gs c.E0 c.w0)(hm:(g,[x])∈gs):Yields P c st o (.iv x):=fun E a w hi=>by
 obtain⟨g1,u,g2,g3⟩:=(hG.keep hi).2 g [x] hm 0 x U;refine⟨u,?_,.iv g3⟩;have eg:a.eval (.global g)= .pointer (some ⟨g,0,none⟩):=rfl;simp[execOp,ho,eg,Instr.loadAt,Instr.sureAddr,loadVar,(fJ ht w).1,g2]
def Yields.makeFunc{caps:Array Operand}(ho:o.op= .makeFunc (.func f) #[] caps):Yields P c st o (.fn f (caps.toList.map st.ev)):=fun E a w hi=>by
 refine⟨.func (.func f) #[] (caps.toList.map a.eval).toArray,?_,?_⟩
 · have hc:(caps.toList.map a.eval).toArray=caps.map a.eval:=by apply Array.ext';simp
   rw[hc];simp[execOp,ho,Instr.makeFunc]
 · obtain⟨h1,h2⟩:=hi.evs caps;exact .fn h1 h2
def L.callFnG{gs:au}{args:Array Operand}{caps:List AV}{bxi:List (Nat×Box)}(hg:o.guard=none)(hd:o.dst=some d)(hlt:Nat.ble (d+1) c.nt=true)(hG:Glob gs c.E0 c.w0)
 (ho:o.op= .call {callee:= .value x,args:=args,argTypes:=ats}) (hx:st.ev x= .fn f caps) (hok:dQ P f=true) (hc:CallG gs P f (NJ++caps) bxi bxi [] res) (ha:Subs (args.toList.map st.ev) NJ)
 (hbi:WkB st.bx bxi) (hmb:bxi.all (fun p=> !p.2.cs.isEmpty && AV.mentsIn (keys bxi) p.2.cs)=true) (hmr:AV.mentIn (keys bxi) res=true)
 (h:L c ⟨(d,res)::st.fr,bxi++st.bx,st.tk⟩ (wpList P ops Q rest)):L c st (wpList P ops Q (o::rest)):=
 nf [] hg hd hlt hG (fun E a w hi=>by
  have hv:=hi.ev x;rw[hx] at hv;generalize hu:a.eval x=u at hv;cases hv with
  | @fn _ _ us hl hr=>
    refine⟨args.toList.map a.eval++us,?_,((hi.evs args).sub ha).append ⟨hl,hr⟩⟩;have hargs:(args.toList.map a.eval++us).toArray=args.map a.eval++us.toArray:=by apply Array.ext';simp
    rw[hargs];simp[execOp,ho,resolve,hu,Deferred.ofValue,invoke,eK hok]) hc hbi U (by
    simp only[dW,aE,List.all_eq_true] at hmb⊢;exact⟨fun p hp=>(hmb p hp).1,fun id hid=>by simpa using hid⟩) U (by
    simp only[aE,List.all_eq_true] at hmb⊢;exact fun p hp=>(hmb p hp).2) hmr h
def IA(P:Program)(s:TypeId)(f fo:Nat):Bool:=
 match P.underlying s with
 |some (.struct fs)=>match fs[f]? with
  |some fd=>fd.offset==fo && (match P.underlying fd.type with|some (.int _)|some .string|some .bool|some (.slice _)=>true|_=>false)
  |none=>false
 |_=>false
def Yields.fieldV{s:TypeId}{f fo:Nat}{cs:List AV}{v:AV}(ho:o.op= .field s x f)(hf:IA P s f fo=true)(hx:st.ev x= .agg cs)(hv:cs[fo]?=some v):Yields P c st o v:=fun E a w hi=>by
 have h:=hi.ev x;rw[hx] at h;obtain⟨us,hu,hr,_⟩:=h.agg_inv;have hlt:fo<us.length:=by rw[hr.1];exact(gS hv).1
 refine⟨us[fo],?_,hr.2 fo v _ hv (gG hlt)⟩;unfold IA at hf;split at hf
 · rename_i fs hus;split at hf
   · rename_i fd hfd;simp only[aE,beq_iff_eq] at hf;obtain⟨h1,h2⟩:=hf;have hag:(isAgg fd.type).run P w= .ok false w:=by
      split at h2
      all_goals first|(rename_i hd;simp[isAgg,run_underlying hd];done)|cases h2
     have hget:us[fo]?=some us[fo]:=gG hlt;simp[execOp,ho,hu,Instr.field,run_underlying hus,hfd,asAgg,part,hag,h1,hget]
   · cases hf
 · cases hf
end
end
section
variable {P:Program}{c:Ctx}{st:St}{ops:Array Oper}{Q:Exit→Act→World→Prop}{rest:List Oper}{o:Oper}
section
variable {cap id k n off:Nat}{e t:TypeId}{i x y:Operand}{j:Int}{kd:IntKind}
def Yields.lenBsl(ho:o.op= .call {callee:= .builtin .len,args:= #[x],argTypes:= #[t]}){e:TypeId}{k:Nat}(hs:bI P t e k=true)(hx:st.ev x= .bsl id off n cap):Yields P c st o (aI n):=
 .im U fun E a w hi=>by
   obtain⟨hu,_⟩:=aH hs;have h:=hi.ev x;rw[hx] at h;obtain⟨o',hq,_⟩:=h.bsl_inv;simp[execOp,ho,resolve,invoke,builtin,hq,Builtin.len_,run_underlying hu,goInt]
def Yields.lenBsh{k':Nat}(ho:o.op= .call {callee:= .builtin .len,args:= #[x],argTypes:= #[t]}){e:TypeId}{k:Nat}(hs:bI P t e k=true)(hx:st.ev x= .bsh id off n k'):Yields P c st o (aI n):=
 .im U fun E a w hi=>by
   obtain⟨hu,_⟩:=aH hs;have h:=hi.ev x;rw[hx] at h;obtain⟨cap,o',hq,_⟩:=h.bsh_inv;simp[execOp,ho,resolve,invoke,builtin,hq,Builtin.len_,run_underlying hu,goInt]
def Yields.capBsl(ho:o.op= .call {callee:= .builtin .cap,args:= #[x],argTypes:= #[t]}){e:TypeId}{k:Nat}(hs:bI P t e k=true)(hx:st.ev x= .bsl id off n cap):Yields P c st o (aI cap):=
 .im U fun E a w hi=>by
   obtain⟨hu,_⟩:=aH hs;have h:=hi.ev x;rw[hx] at h;obtain⟨o',hq,_⟩:=h.bsl_inv;simp[execOp,ho,resolve,invoke,builtin,hq,Builtin.cap_,run_underlying hu,goInt]
def Yields.indexBsl(ho:o.op= .indexAddr t x i)(hs:bI P t e k=true)(hx:st.ev x= .bsl id off n cap)
 (hj:st.ev i= .iv (.im (.int kd j))) (h0:0≤j) (h1:j<n):Yields P c st o (.ptr id (off+j.toNat*k)):=
 fun E a w hi=>by
  obtain⟨hu,inf,hinf,hsz⟩:=aH hs;have h:=hi.ev x;rw[hx] at h;obtain⟨o',hq,hn,_,hoo⟩:=h.bsl_inv;have:=hoo C;subst this;refine⟨.pointer (some ⟨E.ρ id,o'+j.toNat*k,none⟩),?_,.ptr U⟩;simp[execOp,ho,hq,hi.im hj,Instr.indexAt,asIntOf,run_underlying hu,h0,h1,sizeOf,typeInfo,hinf,hsz,aK]
def Yields.indexBsh(ho:o.op= .indexAddr t x i)(hs:bI P t e k=true)(hx:st.ev x= .bsh id off n k)
 (hj:st.ev i= .iv (.im (.int kd j))) (h0:0≤j) (h1:j<n):Yields P c st o (.ptr id ((off+j.toNat)*k)):=
 fun E a w hi=>by
  obtain⟨hu,inf,hinf,hsz⟩:=aH hs;have h:=hi.ev x;rw[hx] at h;obtain⟨cap,o',hq,hn,_,_,hoo⟩:=h.bsh_inv;have:=hoo C;subst this;refine⟨.pointer (some ⟨E.ρ id,off*k+j.toNat*k,none⟩),?_,.ptr (by rw[Nat.add_mul])⟩;simp[execOp,ho,hq,hi.im hj,Instr.indexAt,asIntOf,run_underlying hu,h0,h1,sizeOf,typeInfo,hinf,hsz,aK]
def nh{E:Env}{w:World}{o' l h m s:Nat}(hl:l≤h)(hh:h≤m)(hm:m≤cap)(hx:cap≤maxLen)(ho:cap≠0→o'=off):
 RepA E w (.bsl id (off+l*s) (h - l) (m - l)) (sliced (some ⟨E.ρ id,o',none⟩) l h m s):=by
 unfold sliced;by_cases e:m=l
 · rw[if_pos e];exact .bsl C C (fun h=>by omega) U
 · rw[if_neg e];exact .bsl C C (fun _=>rfl) (by rw[ho C];simp[aK])
def my(hs:bI P t e k=true)(w:World):P.underlying t=some (.slice (P.elem t))∧(sizeOf (P.elem t)).run P w= .ok k w:=by
 obtain⟨hu,inf,hinf,hsz⟩:=aH hs;have he:P.elem t=e:=by simp[Program.elem,hu]
 exact⟨by rw[he];exact hu,by rw[he];simp[sizeOf,typeInfo,hinf,hsz]⟩
def Yields.slBl(ho:o.op= .slice t x (some y) none none)(hx:st.ev x= .bsl id off n cap)(hy:st.ev y= .iv (.im (.int kd j)))(hs:bI P t e k=true)
 (h0:0≤j) (h1:j≤n):Yields P c st o (.bsl id (off+j.toNat*k) (n - j.toNat) (cap - j.toNat)):=fun E a w hi=>by
 obtain⟨hu,hz⟩:=my hs w;have h:=hi.ev x;rw[hx] at h;obtain⟨o',hq,hn,hm,hoo⟩:=h.bsl_inv;refine⟨_,?_,nh (s:=k) C hn nR hm hoo⟩;have:=run_slice_l (P:=P) w t (some ⟨E.ρ id,o',none⟩) n cap hu kd j h0 h1;simp[execOp,ho,hq,hi.im hy,run_sliceAt_slice w t _ _ _ _ hu,this,hz,Result.andThen]
def Yields.slBh(ho:o.op= .slice t x none (some y) none)(hx:st.ev x= .bsl id off n cap)(hy:st.ev y= .iv (.im (.int kd j)))(hs:bI P t e k=true)
 (h0:0≤j) (h1:j≤cap):Yields P c st o (.bsl id off j.toNat cap):=fun E a w hi=>by
 obtain⟨hu,hz⟩:=my hs w;have h:=hi.ev x;rw[hx] at h;obtain⟨o',hq,hn,hm,hoo⟩:=h.bsl_inv;have h2:=nh (E:=E) (w:=w) (id:=id) (s:=k) (Nat.zero_le j.toNat) (by omega:j.toNat≤cap) nR hm hoo;simp only[Nat.zero_mul,Nat.add_zero,Nat.sub_zero] at h2;refine⟨_,?_,h2⟩;have:=run_slice_h (P:=P) w t (some ⟨E.ρ id,o',none⟩) n cap hu kd j h0 h1;simp[execOp,ho,hq,hi.im hy,run_sliceAt_slice w t _ _ _ _ hu,this,hz,Result.andThen]
def Yields.slBlh{z:Operand}{kd':IntKind}{i:Int}(ho:o.op= .slice t x (some y) (some z) none)(hx:st.ev x= .bsl id off n cap)(hy:st.ev y= .iv (.im (.int kd i)))(hz':st.ev z= .iv (.im (.int kd' j)))
 (hs:bI P t e k=true) (h0:0≤i) (h1:i≤j) (h2:j≤cap):Yields P c st o (.bsl id (off+i.toNat*k) (j.toNat - i.toNat) (cap - i.toNat)):=fun E a w hi=>by
 obtain⟨hu,hz⟩:=my hs w;have h:=hi.ev x;rw[hx] at h;obtain⟨o',hq,hn,hm,hoo⟩:=h.bsl_inv;refine⟨_,?_,nh (E:=E) (w:=w) (id:=id) (s:=k) (by omega:i.toNat≤j.toNat) (by omega:j.toNat≤cap) nR hm hoo⟩;have:=run_slice_lh (P:=P) w t (some ⟨E.ρ id,o',none⟩) n cap hu kd kd' i j h0 h1 h2;simp[execOp,ho,hq,hi.im hy,hi.im hz',run_sliceAt_slice w t _ _ _ _ hu,this,hz,Result.andThen]
end
end
def HInv.reBox{c:Ctx}{E:Env}{bx:List (Nat×Box)}{tk:List (Nat×Tok)}{w:World}(h:HInv c E bx tk w){id:Nat}{b b':Box}(hb:bx.lookup id=some b)(hbn:b.cs≠ [])(hb':b'.cs≠ [] →BoxOk E w id b'):
 HInv c E ((id,b')::bx) tk w:=by
 have f: ∀(i:Nat) (b1:Box),List.lookup i ((id,b')::bx)=some b1→b1.cs≠ [] → ∃b2,bx.lookup i=some b2∧b2.cs≠ []:=fun i b1 h hn=>by
  by_cases e:i=id
  · subst e;exact⟨b,hb,hbn⟩
  · rw[aa e] at h;exact⟨b1,h,hn⟩
 refine⟨fun i b1 hi hn=> ?_,h.tok,fun i j b1 b2 hi hj hn hn' he=> ?_,h.tt,fun i j b1 t hi hn hj=> ?_,fun i b1 hi hn=> ?_,h.ownt,h.new,h.old,fun i hin=> ?_,h.kept⟩
 · by_cases e:i=id
   · subst e;rw[aj] at hi;cases hi;exact hb' hn
   · rw[aa e] at hi;exact h.box i b1 hi hn
 · obtain⟨b3,h3,n3⟩:=f i b1 hi hn;obtain⟨b4,h4,n4⟩:=f j b2 hj hn';exact h.bb i j b3 b4 h3 h4 n3 n4 he
 · obtain⟨b3,h3,n3⟩:=f i b1 hi hn;exact h.bt i j b3 t h3 n3 hj
 · obtain⟨b3,h3,n3⟩:=f i b1 hi hn;exact h.own i b3 h3 n3
 · obtain⟨e1,e2,e3⟩:=h.ins i hin;refine⟨e1,e2,?_⟩;by_cases e:i=id
   · subst e;rw[aj];rfl
   · rw[aa e];exact e3
def HInv.turn{c:Ctx}{E:Env}{st:St}{w:World}(h:HInv c E st.bx st.tk w){id:Nat}(hf:st.fresh id=true)(g:Nat)(v:Value):
 HInv c ⟨E.φ,fun i=>if i=id then g else E.ρ i,fun i=>if i=id then v else E.η i⟩ st.bx st.tk w∧
  (∀(x:AV) (u:Value),AV.ment id x=false→RepA E w x u→RepA ⟨E.φ,fun i=>if i=id then g else E.ρ i,fun i=>if i=id then v else E.η i⟩ w x u):=by
 have hρ: ∀i,i≠id→(if i=id then g else E.ρ i)=E.ρ i:=fun i hi=>by simp[hi]
 have hη: ∀i,i≠id→(if i=id then v else E.η i)=E.η i:=fun i hi=>by simp[hi]
 have mono: ∀(x:AV) (u:Value),AV.ment id x=false→RepA E w x u→RepA ⟨E.φ,fun i=>if i=id then g else E.ρ i,fun i=>if i=id then v else E.η i⟩ w x u:=fun x u hm hr=>
  RepA.mono (E:=E) (w:=w) (h:=hr) (E':=⟨E.φ,fun i=>if i=id then g else E.ρ i,fun i=>if i=id then v else E.η i⟩) (fun _ _ _=>rfl) (fun _=>Nat.le_refl _) (fun i hi=>by
   have:i≠id:=fun e=>by subst e;rw[hm] at hi;cases hi
   exact⟨hρ i this,hη i this⟩)
 refine⟨⟨fun i b hb hn=> ?_,fun i t ht=> ?_,fun i j b b' hi hj hn hn' he=> ?_,fun i j t t' g' hi hj h1 h2=> ?_,fun i j b t hi hn hj=> ?_,fun i b hi hn=> ?_,fun j t g' hj hg=> ?_,h.new,h.old,fun i hin=> ?_,h.kept⟩,mono⟩
 · obtain⟨hne,hm⟩:=St.fresh_bx hf hb;obtain⟨h0,arr,ha,hl,h1,hr,hq⟩:=h.box i b hb hn;refine⟨by simp only[hρ i hne];exact h0,arr,by simp only[hρ i hne];exact ha,hl,h1,fun k x u hx hu=>mono x u (bB hm k x hx) (hr k x u hx hu),fun k cap he=>hq k cap (by simpa only[hη i hne] using he)⟩
 · have:=h.tok i t ht;simp only[Go.Abs.TokOk,hη i (St.fresh_tk hf ht)] at this⊢;exact this
 · simp only[hρ i (St.fresh_bx hf hi).1,hρ j (St.fresh_bx hf hj).1] at he;exact h.bb i j b b' hi hj hn hn' he
 · simp only[hη i (St.fresh_tk hf hi)] at h1;simp only[hη j (St.fresh_tk hf hj)] at h2;exact h.tt i j t t' g' hi hj h1 h2
 · simp only[hρ i (St.fresh_bx hf hi).1,hη j (St.fresh_tk hf hj)];exact h.bt i j b t hi hn hj
 · simp only[hρ i (St.fresh_bx hf hi).1];exact h.own i b hi hn
 · simp only[hη j (St.fresh_tk hf hj)] at hg;exact h.ownt j t g' hj hg
 · obtain⟨e1,e2,e3⟩:=h.ins i hin;obtain⟨b,hb⟩:=Option.isSome_iff_exists.1 e3;have hne:=(St.fresh_bx hf hb).1;exact⟨(hρ i hne).trans e1,(hη i hne).trans e2,e3⟩
section
variable {c:Ctx}{st:St}{X:Act→World→Prop}
def L.openRow(s:Nat){id n k m:Nat}{ty:TypeId}{xs:List IV}(hs:st.fr.lookup s=some (.bsh id 0 n k))(hb:st.bx.lookup id=some ⟨ty,.r xs m⟩)(hbn:xs≠ [] ∨0<m)(hl:n*k≤xs.length+m)
 (h: ∀cap,n≤cap→cap≤maxLen→L c ⟨(s,.bsl id 0 n cap)::st.fr,(id,⟨ty,.r xs (cap*k - xs.length)⟩)::st.bx,st.tk⟩ X):L c st X:=by
 rintro a w ⟨E,hi⟩;have hbn':(⟨ty,.r xs m⟩:Box).cs≠ []:=fun e=>by
  simp only[Box.cs_r,List.append_eq_nil_iff,List.map_eq_nil_iff,List.replicate_eq_nil_iff] at e;rcases hbn with h|h
  · exact h e.1
  · omega
 obtain⟨cap,o,hq,hn,hm,he,hoo⟩:=(hi.slot s _ hs).bsh_inv;obtain⟨h0,arr,ha,hla,h1,hr,hη⟩:=hi.heap.box id _ hb hbn';simp only[Box.cs_r,gV,lM,List.length_replicate] at hla;refine h cap C hm a w ⟨E,hi.defers,hi.size,fun s' v hv=> ?_,hi.heap.reBox hb hbn' (fun _=>⟨h0,arr,ha,?_,h1,fun i x u hx hu=> ?_,hη⟩)⟩
 · by_cases e:s'=s
   · subst e;rw[aj] at hv;cases hv;exact .bsl (o:=o) C hm (fun h=>by rw[hoo C];simp) (by rw[hq];simp)
   · rw[aa e] at hv;exact hi.slot s' v hv
 · have:=hη k cap he;simp only[Box.cs_r,gV,lM,List.length_replicate];omega
 · simp only[Box.cs_r] at hx;rw[List.getElem?_append] at hx;split at hx
   · rename_i hlt;exact hr i x u (by simp only[Box.cs_r];rw[gL hlt];exact hx) hu
   · simp only[List.getElem?_replicate] at hx;split at hx
     · cases hx;exact .any
     · cases hx
def cT(id:Nat){b:Box}(hb:st.bx.lookup id=some b)(hbn:b.cs≠ [])(h:L c ⟨st.fr,(id,⟨b.ty,.l []⟩)::st.bx,st.tk⟩ X):L c st X:=by
 rintro a w ⟨E,hi⟩;exact h a w ⟨E,hi.defers,hi.size,hi.slot,hi.heap.reBox hb hbn (fun h=>(h U).elim)⟩
def L.rename(s N:Nat){id n cap m:Nat}(k:Nat){ty:TypeId}{xs:List IV}(hs:st.fr.lookup s=some (.bsl id 0 n cap))(hb:st.bx.lookup id=some ⟨ty,.r xs m⟩)(hf:st.fresh N=true)(hbn:xs≠ [] ∨0<m)(hcap:cap*k≤xs.length+m)
 (h:L c ⟨(s,.bsh N 0 n k)::st.fr,(N,⟨ty,.r (xs.take (n*k)) 0⟩)::(id,⟨ty,.l []⟩)::st.bx,st.tk⟩ X):L c st X:=by
 rintro a w ⟨E,hi⟩;have hbn':(⟨ty,.r xs m⟩:Box).cs≠ []:=fun e=>by
  simp only[Box.cs_r,List.append_eq_nil_iff,List.map_eq_nil_iff,List.replicate_eq_nil_iff] at e;rcases hbn with h|h
  · exact h e.1
  · omega
 have hne:id≠N:=(St.fresh_bx hf hb).1;obtain⟨o,hq,hn,hmx,hoo⟩:=(hi.slot s _ hs).bsl_inv;obtain⟨h0,arr,ha,hl,h1,hr,hη⟩:=hi.heap.box id _ hb hbn';simp only[Box.cs_r,gV,lM,List.length_replicate] at hl;obtain⟨hh,mono⟩:=hi.heap.turn hf (E.ρ id) (rB k cap);have hid:(if id=N then E.ρ id else E.ρ id)=E.ρ id:=by simp
 have hk:=hh.reBox (b':=⟨ty,.l []⟩) hb hbn' (fun h=>(h U).elim);refine h a w ⟨⟨E.φ,fun i=>if i=N then E.ρ id else E.ρ i,fun i=>if i=N then rB k cap else E.η i⟩,hi.defers,hi.size,fun s' v hv=> ?_,hk.addBox ?_ ?_ ?_ ?_ ?_⟩
 · by_cases e:s'=s
   · subst e;rw[aj] at hv;cases hv;exact .bsh (cap:=cap) (o:=o) C hmx sP (fun h=>by rw[hoo C];simp) (by rw[hq];simp)
   · rw[aa e] at hv;exact mono v _ (St.fresh_fr hf hv) (hi.slot s' v hv)
 · rw[aa (Ne.symm hne)];cases hq':st.bx.lookup N with
   |none=>rfl
   |some b1=>exact((St.fresh_bx hf hq').1 U).elim
 · refine⟨by simp only[if_true];exact h0,arr,by simp only[if_true];exact ha,?_,h1,fun i x u hx hu=> ?_,fun k' cap' he=> ?_⟩
   · simp only[Box.cs_r,gV,lM,List.length_replicate,lT];omega
   · simp only[Box.cs_r,List.replicate_zero,List.append_nil,List.map_take] at hx;rw[List.getElem?_take] at hx;split at hx
     · refine mono x u ?_ (hr i x u ?_ hu)
       · rw[gP,Option.map_eq_some_iff] at hx;obtain⟨y,_,rfl⟩:=hx;rfl
       · simp only[Box.cs_r];have:=(gS hx).1;rw[gL this];exact hx
     · cases hx
   · simp only[if_true] at he;obtain⟨rfl,rfl⟩:=na he;omega
 · intro j b1 hj hjn;by_cases e:j=id
   · subst e;rw[aj] at hj;cases hj;exact(hjn U).elim
   · rw[aa e] at hj;simp only[if_true,if_neg (St.fresh_bx hf hj).1];exact fun he=>e (hi.heap.bb j id b1 _ hj hb hjn hbn' he)
 · intro j t hj;simp only[if_true,if_neg (St.fresh_tk hf hj)];exact hi.heap.bt id j _ t hb hbn' hj
 · simp only[if_true];exact hi.heap.own id _ hb hbn'
end
section
variable {P:Program}{c:Ctx}{st:St}{ops:Array Oper}{Q:Exit→Act→World→Prop}{rest:List Oper}{o:Oper}
section
variable {bytes id id' k:Nat}{cs:List AV}{d:TypeDesc}{e t t':TypeId}{i:TypeInfo}{news:List (List IV)}{x y:Operand}{z:Value}{α:Type}
def Yields.eqlNil{es:List (List IV)}(ho:o.op= .binOp .eql t x y t')(hx:(st.ev x).sl?=some es)(hy:st.ev y= .nils)(hs:bI P t e k=true)(hne:es≠ []):Yields P c st o (aB false):=
 .im U fun E a w hi=>by
   obtain⟨hu,_⟩:=aH hs;have h2:=hi.ev y;rw[hy] at h2;generalize hqy:a.eval y=uy at h2;cases h2;rcases((hi.ev x).sl hx).sl_inv with⟨_,rfl⟩|⟨_,_,_,_,_,rfl⟩|⟨b,o',cap,k',f,hq,_⟩
   · exact(hne U).elim
   · exact(hne U).elim
   · simp[execOp,ho,hq,hqy,eqGuard,binOp,run_equal_slice_nil w t e _ _ _ hu]
def Gv{d:Nat}(hg:o.guard=none)(hd:o.dst=some d)(hlt:Nat.ble (d+1) c.nt=true)(ho:o.op= .binOp .eql t x y t')(hx:(st.ev x).sl?=some [])(hy:st.ev y= .nils)(hs:bI P t e k=true)
 (h: ∀b,L c ⟨(d,aB b)::st.fr,st.bx,st.tk⟩ (wpList P ops Q rest)):L c st (wpList P ops Q (o::rest)):=by
 rintro a w ⟨E,hi⟩;obtain⟨hu,_⟩:=aH hs;have h2:=hi.ev y;rw[hy] at h2;generalize hqy:a.eval y=uy at h2;cases h2;have hr: ∃b,(execOp a.eval o).run P w= .ok (.value (.bool b)) w:=by
  rcases((hi.ev x).sl hx).sl_inv with⟨hq,_⟩|⟨ad,cap,hq,_,_,_⟩|⟨b,o',cap,k',f,hq,_⟩
  · exact⟨true,by simp[execOp,ho,hq,hqy,eqGuard,binOp,run_equal_slice_nil w t e _ _ _ hu]⟩
  · exact⟨false,by simp[execOp,ho,hq,hqy,eqGuard,binOp,run_equal_slice_nil w t e _ _ _ hu]⟩
  · exact⟨false,by simp[execOp,ho,hq,hqy,eqGuard,binOp,run_equal_slice_nil w t e _ _ _ hu]⟩
 obtain⟨b,hr⟩:=hr;refine wpList_plain hg (fun K hK=>en hr (hK _ _ ?_));rw[hd];exact h b _ _ ⟨E,hi.put (bT hlt) (.iv (.im U))⟩
def Makes.buildBox{n:Nat}{parts:Array (Nat×Operand)}{zs:List Value}(ho:o.op= .buildSlice t n parts)(hs:bI P t e k=true)
 (hz:dy P e=some zs) (h1:zs.all (·.oneCell')=true) (hzl:zs.length=k) (hn:n*k≤16777216) (hnk:0<k)
 (hf:lS (fun i=>some (i*k,k)) ((List.range (n*k)).map fun i=>cz (zs.getD (i % k) undef)) (parts.toList.map fun x=>(x.1,st.ev x.2))=some cs)
 (hcl:cs.length=n*k) (hm:AV.ments id cs=false) (hfr:st.fresh id=true):Makes P c st o (.bsl id 0 n n) ((id,⟨e,cs⟩)::st.bx) st.tk:=fun E a w hi=>by
 obtain⟨hu,inf,hinf,hsz⟩:=aH hs;have hz0: ∃z,inf.zero=some z∧z.cells=zs.toArray:=by
  unfold dy at hz;simp only[hinf,Option.bind_some,Option.map_eq_some_iff] at hz;obtain⟨z,hz1,hz2⟩:=hz;exact⟨z,hz1,by rw[←hz2]⟩
 obtain⟨z,hz1,hz2⟩:=hz0;have hget: ∀i,i<n*k→zs.toArray[i % zs.toArray.size]! =zs.getD (i % k) undef:=fun i hi=>by
  have:i % k<zs.length:=by rw[hzl];exact Nat.mod_lt _ hnk
  simp[hzl];rw[gG this];rfl
 have hinit:((Array.range (n*k)).map (zs.toArray[· % zs.toArray.size]!))=((List.range (n*k)).map fun i=>zs.getD (i % k) undef).toArray:=by
  apply Array.ext';simp only[Array.toList_map,Array.toList_range];exact List.map_congr_left (fun i hi=>hget i (List.mem_range.1 hi))
 have hone: ∀i,i<n*k→(zs.getD (i % k) undef).oneCell'=true:=fun i hi=>by
  have hlt:i % k<zs.length:=by rw[hzl];exact Nat.mod_lt _ hnk
  have:zs.getD (i % k) undef=zs[i % k]:=by simp[hlt]
  rw[this];exact aT h1 _ (List.getElem_mem hlt)
 have hrel:RelL E w ((List.range (n*k)).map fun i=>cz (zs.getD (i % k) undef)) ((List.range (n*k)).map fun i=>zs.getD (i % k) undef):=by
  refine⟨by simp,fun i c u hc hu=> ?_⟩;simp only[gP] at hc hu;cases hr:(List.range (n*k))[i]? with
  |none=>rw[hr] at hc;simp at hc
  |some j=>
   rw[hr] at hc hu;simp only[Option.map_some,Option.some.injEq] at hc hu;subst hc;subst hu;exact jq E w _ (hone j (List.mem_range.1 (gE hr)))
 obtain⟨arr,ha,hr,h1'⟩:=ro (E:=E) (w:=w) _ (parts.map fun(i,x)=>(i,a.eval x)).toList _ _ ((List.range (n*k)).map fun i=>zs.getD (i % k) undef).toArray (by simpa using hrel)
  (fun u hu=>by
    simp only[List.mem_map,List.mem_range] at hu;obtain⟨i,hi',rfl⟩:=hu;exact hone i hi')
  sP (fun n p q=>sd hi parts n p q) hf
 refine⟨.slice (some ⟨w.heap.size,0,none⟩) n n,_,_,?_,hi.newBox hfr (ty:=e) (us:=arr.toList) hr h1' hm,.bsl (o:=0) nR (by have:n≤n*k:=Nat.le_mul_of_pos_right n hnk;simp only[maxLen];omega) (fun _=>rfl) (by simp[Env.upd])⟩;have hbig: ¬(n*k>2 ^ 24):=C;have hfill:Instr.fill (fun i=>some (i*k,k)) ((Array.range (n*k)).map (zs.toArray[· % zs.toArray.size]!)) (parts.map fun(i,x)=>(i,a.eval x)).toList=some arr:=by rw[hinit];exact ha
 have hat:arr.toList.toArray=arr:=by simp
 rw[hat];by_cases h0:n*k=0
 · have:n=0:=by
    rcases Nat.mul_eq_zero.1 h0 with h|h
    · exact h
    · omega
   subst this;have e0:Array.range 0= #[]:=rfl;have hfill':Instr.fill (fun i=>some (i*k,k)) #[] (parts.map fun(i,x)=>(i,a.eval x)).toList=some arr:=by simpa[e0] using hfill
   simp only[Array.toList_map] at hfill';simp[execOp,ho,Instr.buildSlice,run_underlying hu,sizeOf,typeInfo,hinf,hsz,newRow,e0,hfill']
 · simp only[execOp,ho,Instr.buildSlice,Sem.run_bind,run_underlying hu,sizeOf,typeInfo,zeroValue,run_program,hinf,hsz,hz1,hz2,Result.andThen_ok,Sem.run_pure,hbig,h0,if_false,hfill,newRow,run_newObj,Sem.run_ite];rfl
def Inv.newRoom{E:Env}{a:Act}{w:World}(hi:Inv c E st a w){id:Nat}(hf:st.fresh id=true){ty:TypeId}{cs:List AV}{us:List Value}(v:Value)
 (hl:cs.length≤us.length) (hr: ∀(i:Nat) (x:AV) (u:Value),cs[i]?=some x→us[i]?=some u→RepA E w x u) (h1: ∀u∈us,u.oneCell'=true) (hm:AV.ments id cs=false) (hv: ∀k cap,v=rB k cap→cap*k≤us.length):
 Inv c (E.upd id w.heap.size 0 v) ⟨st.fr,(id,⟨ty,cs⟩)::st.bx,st.tk⟩ a (w.alloc (.cells us.toArray ty (0,0))):=by
 obtain⟨hh,mono⟩:=hi.heap.alloc hf (.cells us.toArray ty (0,0)) 0 v;have hid:(E.upd id w.heap.size 0 v).ρ id=w.heap.size:=by simp[Env.upd]
 refine⟨hi.defers,hi.size,fun s v hv=>mono v _ (St.fresh_fr hf hv) (hi.slot s v hv),hh.addBox ?_ ?_ ?_ ?_ ?_⟩
 · cases hq:st.bx.lookup id with
   |none=>rfl
   |some b=>exact((St.fresh_bx hf hq).1 U).elim
 · refine⟨by rw[hid];simp[Env.upd],us,by rw[hid];exact zJ w _,hl,h1,fun i x u hx hu=>mono x u (bB hm i x hx) (hr i x u hx hu),fun k cap he=>hv k cap (by simpa[Env.upd] using he)⟩
 · intro j b' hj hn;rw[hid];have:(E.upd id w.heap.size 0 v).ρ j=E.ρ j:=by simp[Env.upd,(St.fresh_bx hf hj).1]
   rw[this];have:=sW (hi.heap.box j b' hj hn);omega
 · intro j t hj;rw[hid];have e:(E.upd id w.heap.size 0 v).η j=E.η j:=by simp[Env.upd,St.fresh_tk hf hj]
   rw[e];intro hg;have:=jx (hi.heap.tok j t hj) hg;omega
 · rw[hid];exact .inl hi.heap.kept.size
def lQ(hk0:0<k): ∀(news:List (List α)) (p:Nat) (x:α),(∀e∈news,e.length=k)→news.flatten[p]?=some x→ ∃e,news[p / k]?=some e∧e[p % k]?=some x
 | [],p,x,_,h=>by simp at h
 |e::r,p,x,hn,h=>by
  have he:e.length=k:=hn e List.mem_cons_self;rw[List.flatten_cons,List.getElem?_append] at h;split at h
  · rename_i hlt;rw[he] at hlt;exact⟨e,by rw[Nat.div_eq_of_lt hlt];rfl,by rw[Nat.mod_eq_of_lt hlt];exact h⟩
  · rename_i hge;rw[he] at hge h;obtain⟨e',h1,h2⟩:=lQ hk0 r (p - k) x (fun e' h'=>hn e' (List.mem_cons_of_mem _ h')) h;have hp:p=(p - k)+k:=C;refine⟨e',?_,?_⟩
    · rw[hp,Nat.add_div_right _ hk0];simpa using h1
    · rw[hp,Nat.add_mod_right];simpa using h2
def ao: ∀(news:List (List α)),(∀e∈news,e.length=k)→news.flatten.length=news.length*k
 | [],_=>by simp
 |e::r,hn=>by
  rw[List.flatten_cons,gV,hn e List.mem_cons_self,ao r (fun e' h'=>hn e' (List.mem_cons_of_mem _ h')),lC,Nat.add_mul,Nat.one_mul,Nat.add_comm]
def Makes.cloneB0
 (ho:o.op= .call {callee:= .builtin .append,args:= #[x,y],argTypes:= #[t,t']}) (ht:P.underlying t=some (.slice e)) (hi0:P.info? e=some i) (hik:i.size=k) (hib:i.bytes=bytes) (hiz:i.zero=some z) (hzk:z.cells.size=k) (hz1: ∀u∈z.cells.toList,u.oneCell'=true)
 (hd:P.underlying t'=some d) (hn:gB d) (hk0:0<k) (hx: ∀(E:Env) (a:Act) (w:World),Inv c E st a w→ ∃base,a.eval x= .slice base 0 0) (hnk: ∀e∈news,e.length=k) (hy:Adds P c st y k news) (hne:news≠ [])
 (hm:news.length≤maxLen) (hby:news.length*bytes≤140737488355328) (hf:st.fresh id'=true) (hcs:news.flatten.map .iv=cs) (hmo:AV.ments id' cs=false):
 Makes P c st o (.bsh id' 0 news.length k) ((id',⟨e,cs⟩)::st.bx) st.tk:=fun E a w hi=>by
 subst hik;subst hib;obtain⟨us,hsrc,hul,hu1,hur⟩:=hy E a w hi;obtain⟨base,hq⟩:=hx E a w hi;have hpos:0<news.length:=gU hne;have hsmall:news.length≤9223372036854775807:=by simp only[maxLen] at hm;omega
 have hexec:(execOp a.eval o).run P w=((Builtin.append_ #[t,t'] o.type #[a.eval x,a.eval y]).run P w).andThen fun v w'=> .ok (.value v) w':=by
  simp[execOp,ho,resolve,invoke,builtin]
 have hrun:=wI (ty:=o.type) ht hd hn hi0 hiz hsrc (base:=base) (n:=0) (cap:=0) (olds:= []) (by cases base<;>simp[Builtin.firstCells,loadCells,loadCellsFrom]) C C (growslice_fits C (by simpa using hby));simp only[Nat.zero_add,List.nil_append] at hrun;have hge:news.length≤grownCap w news.length 0 e:=grownCap_ge _ _ _ _;have hcm:=grownCap_le_maxLen w news.length 0 e hm;have hlen:(us++(Builtin.zeroCells z.cells (grownCap w news.length 0 e - news.length)).toList).length=grownCap w news.length 0 e*i.size:=by
  simp only[gV,hul,Array.length_toList,size_zeroCells,hzk];rw[←Nat.add_mul];congr 1;omega
 have hcl:cs.length=news.length*i.size:=by rw[←hcs,lM,ao news hnk]
 have hi':=hi.drew.newRoom hf (ty:=e) (cs:=cs) (us:=us++(Builtin.zeroCells z.cells (grownCap w news.length 0 e - news.length)).toList) (rB i.size (grownCap w news.length 0 e))
  (by rw[hlen,hcl];exact mR _ hge)
  (fun p x u hx hu=>by
    have hlt:=(gS hx).1;rw[gL (by rw[hul,←hcl];exact hlt)] at hu;rw[←hcs,gP,Option.map_eq_some_iff] at hx;obtain⟨x',hx',rfl⟩:=hx;obtain⟨e',h1,h2⟩:=lQ hk0 news p x' hnk hx';have hp:p / i.size*i.size+p % i.size=p:=by rw[Nat.mul_comm];exact Nat.div_add_mod p i.size
    exact .iv (RepI.mono (φ:=E.φ) (w:=w) (w':=w.drew) (fun _ _ _=>rfl) (fun _=>Nat.le_refl _) (hur _ e' _ x' u h1 h2 (by rw[hp];exact hu))))
  (fun u hu=>by
    rcases mA hu with hu|hu
    · exact hu1 u hu
    · simp only[Builtin.zeroCells,Array.toList_map,Array.toList_range,List.mem_map,List.mem_range] at hu;obtain⟨p,_,rfl⟩:=hu;have hlt:p % z.cells.size<z.cells.size:=Nat.mod_lt _ (by rw[hzk];exact hk0);rw[getElem!_pos z.cells _ hlt];exact hz1 _ sP)
  hmo (fun k' cap' he=>by
   obtain⟨rfl,rfl⟩:=na he;exact Nat.le_of_eq hlen.symm)
 refine⟨_,_,_,?_,hi',.bsh (cap:=grownCap w news.length 0 e) (o:=0) C hcm (by simp[Env.upd]) (fun _=>by simp) U⟩;rw[hexec,hq,hrun];simp[Env.upd]
def Makes.cloneB{off:Nat}
 (ho:o.op= .call {callee:= .builtin .append,args:= #[x,y],argTypes:= #[t,t']}) (ht:P.underlying t=some (.slice e)) (hi0:P.info? e=some i) (hik:i.size=k) (hib:i.bytes=bytes) (hiz:i.zero=some z) (hzk:z.cells.size=k) (hz1: ∀u∈z.cells.toList,u.oneCell'=true)
 (hd:P.underlying t'=some d) (hn:gB d) (hk0:0<k) (hx:st.ev x= .bsl id off 0 0) (hnk: ∀e∈news,e.length=k) (hy:Adds P c st y k news) (hne:news≠ [])
 (hm:news.length≤maxLen) (hby:news.length*bytes≤140737488355328) (hf:st.fresh id'=true) (hcs:news.flatten.map .iv=cs) (hmo:AV.ments id' cs=false):
 Makes P c st o (.bsh id' 0 news.length k) ((id',⟨e,cs⟩)::st.bx) st.tk:=
 Makes.cloneB0 ho ht hi0 hik hib hiz hzk hz1 hd hn hk0 (fun E a w hi=>by
  have h:=hi.ev x;rw[hx] at h;obtain⟨o',hq,_⟩:=h.bsl_inv;exact⟨_,hq⟩) hnk hy hne hm hby hf hcs hmo
end
end
section
variable {P:Program}{c:Ctx}{st:St}{ops:Array Oper}{Q:Exit→Act→World→Prop}{rest:List Oper}{o:Oper}
def Reads(P:Program)(c:Ctx)(st:St)(y:Operand)(k m:Nat)(new:List AV):Prop:=
 ∀(E:Env) (a:Act) (w:World),Inv c E st a w→ ∃us:List Value,(Builtin.lenOf (a.eval y)).run P w= .ok m w∧(∀j,j≤m→(Builtin.firstCells k j (a.eval y)).run P w= .ok (us.take (j*k)).toArray w)∧RelL E w new us∧us.length=m*k∧ ∀u∈us,u.oneCell'=true
section
variable {b:Box}{cap id k m n off:Nat}{d:TypeDesc}{e t t':TypeId}{i:TypeInfo}{new:List AV}{w:World}{x y:Operand}{z:Value}
def Reads.bsl(hy:st.ev y= .bsl id off m cap)(hb:st.bx.lookup id=some b)(hn:(b.cs.drop off).take (m*k)=new)(hl:new.length=m*k):Reads P c st y k m new:=fun E a w hi=>by
 have h:=hi.ev y;rw[hy] at h;obtain⟨o',hq,hn',hm,hoo⟩:=h.bsl_inv;obtain⟨arr,rest,_,hr,h1,_,hc⟩:=hi.boxCell hb;refine⟨(arr.drop off).take (m*k),by rw[hq];rfl,fun j hj=> ?_,by rw[←hn];exact(hr.drop off).take _,by rw[((hr.drop off).take (m*k)).1,hn,hl],fun u hu=>h1 u (mD (mT hu))⟩;have hlen:((arr.drop off).take (m*k)).length=m*k:=by rw[((hr.drop off).take (m*k)).1,hn,hl]
 have hjk:j*k≤m*k:=mR k hj;have hl2:(((arr.drop off).take (m*k)).take (j*k)).length=j*k:=by rw[lT,hlen];omega
 rw[hq];refine run_firstCells_some w k j _ m cap _ hl2 (fun p v hv=> ?_);have hp:=(gS hv).1;rw[hl2] at hp;have hcap:cap≠0:=fun e=>by
  have:m=0:=C;subst this;simp at hjk;omega
 rw[hoo hcap];rw[List.getElem?_take,if_pos hp,List.getElem?_take,if_pos C,List.getElem?_drop] at hv;simp only[aK];rw[hc _ (gS hv).1];exact hv
def Makes.copyB{cnt:Nat}(ho:o.op= .call {callee:= .builtin .copy,args:= #[x,y],argTypes:= #[t,t']})(hs:bI P t e k=true)
 (hx:st.ev x= .bsl id off n cap) (hb:st.bx.lookup id=some b) (hy:Reads P c st y k m new) (hcnt:Nat.min m n=cnt) (hpos:0<cnt) (hk0:0<k) (hle:off+cnt*k≤b.cs.length):
 Makes P c st o (aI cnt) ((id,⟨b.ty,mb b.cs off (new.take (cnt*k))⟩)::st.bx) st.tk:=fun E a w hi=>by
 obtain⟨hu,inf,hinf,hsz⟩:=aH hs;have h:=hi.ev x;rw[hx] at h;obtain⟨o',hq,hn',hm,hoo⟩:=h.bsl_inv;have hcm:cnt≤m:=by rw[←hcnt];exact Nat.min_le_left _ _
 have hcn:cnt≤n:=by rw[←hcnt];exact Nat.min_le_right _ _
 have hoe:=hoo C;subst hoe;have hck:0<cnt*k:=Nat.mul_pos hpos hk0;have hbn:b.cs≠ []:=fun e=>by rw[e] at hle;simp at hle;omega
 obtain⟨us,hlen,hf,hr,hul,h1u⟩:=hy E a w hi;obtain⟨arr,rst,ha,hra,h1,h1r,hc⟩:=hi.boxCell hb;have hfc:=hf cnt hcm;have hrn:=hr.take (cnt*k);have hmk:cnt*k≤m*k:=mR k hcm;have hul':(us.take (cnt*k)).length=cnt*k:=by rw[lT,hul];omega
 have hnl:(new.take (cnt*k)).length=cnt*k:=by rw[←hrn.1,hul']
 have h1v: ∀u∈us.take (cnt*k),u.oneCell'=true:=fun u hu=>h1u u (mT hu)
 have hal:o'+cnt*k≤arr.length:=by rw[hra.1];exact hle
 have hrun:=run_storeCells_at P (E.ρ id) o' b.ty (us.take (cnt*k)) 0 (arr++rst).toArray w (ha hbn) (by rw[hul'];simp;omega) h1v;have hnew:RelL E w (mb b.cs o' (new.take (cnt*k))) (arr.take o'++(us.take (cnt*k)++arr.drop (o'+cnt*k))):=by
  unfold mb;rw[hnl];exact(hra.take o').append (hrn.append (hra.drop (o'+cnt*k)))
 have hrun':(storeCells ⟨E.ρ id,o',none⟩ (us.take (cnt*k))).run P w= .ok () (w.setRow (E.ρ id) ((arr.take o'++(us.take (cnt*k)++arr.drop (o'+cnt*k)))++rst).toArray):=by
  rw[hrun];simp only[Nat.add_zero,hul',List.append_assoc];rw[tA C,List.drop_append_of_le_length hal]
 refine⟨.int .i64 cnt,E,_,?_,hi.setBox hb hbn (ha hbn) h1r (us:=arr.take o'++(us.take (cnt*k)++arr.drop (o'+cnt*k))) ?_ hnew ?_,.iv (.im U)⟩
 · simp[execOp,ho,resolve,invoke,builtin,Builtin.copy_,run_underlying hu,hq,hlen,hcnt,sizeOf,typeInfo,hinf,hsz,hfc,hrun',goInt]
 · simp only[gV,lT,lD,hul];omega
 · intro u hu;rcases mA hu with hu|hu
   · exact h1 u (mT hu)
   · rcases mA hu with hu|hu
     · exact h1v u hu
     · exact h1 u (mD hu)
def yI{P:Program}{ty:TypeId}{x:Value}{news:List Value}(ht:P.underlying t=some (.slice e))(hd:P.underlying t'=some d)(hn:gB d)(hi:P.info? e=some i)
 (hs1:(Builtin.lenOf x).run P w= .ok m w) (hs2:(Builtin.firstCells i.size m x).run P w= .ok news.toArray w) {g n cap:Nat} {cur:Array Value} {ty0:TypeId} (hg:w.heap[g]?=some (.cells cur ty0 (0,0))) (h1: ∀u∈news,u.oneCell'=true) (hroom:n+m≤cap)
 (hfit:n*i.size+news.length≤cur.size):
 (Builtin.append_ #[t,t'] ty #[.slice (some ⟨g,0,none⟩) n cap,x]).run P w=
   .ok (.slice (some ⟨g,0,none⟩) (n+m) cap) (w.setRow g (cur.toList.take (n*i.size)++news++cur.toList.drop (n*i.size+news.length)).toArray):=by
 have hst:=run_storeCells_at P g (n*i.size) ty0 news 0 cur w hg (by simpa using hfit) h1;simp only[Nat.add_zero] at hst;rcases hn with⟨e',rfl⟩|rfl<;>simp[Builtin.append_,run_underlying ht,run_underlying hd,sizeOf,typeInfo,hi,hs1,hroom,hs2,aK,hst]
def Makes.roomB(ho:o.op= .call {callee:= .builtin .append,args:= #[x,y],argTypes:= #[t,t']})(ht:P.underlying t=some (.slice e))(hi0:P.info? e=some i)(hik:i.size=k)
 (hd:P.underlying t'=some d) (hn:gB d) (hx:st.ev x= .bsl id 0 n cap) (hb:st.bx.lookup id=some b) (hbn:b.cs≠ []) (hy:Reads P c st y k m new) (hc0:0<cap) (hroom:n+m≤cap) (hle:(n+m)*k≤b.cs.length):
 Makes P c st o (.bsl id 0 (n+m) cap) ((id,⟨b.ty,mb b.cs (n*k) new⟩)::st.bx) st.tk:=fun E a w hi=>by
 subst hik;have h:=hi.ev x;rw[hx] at h;obtain⟨o',hq,hn',hm,hoo⟩:=h.bsl_inv;have hoe:o'=0:=hoo C;rw[hoe] at hq;obtain⟨us,hlen,hf,hr,hul,h1u⟩:=hy E a w hi;obtain⟨arr,rst,ha,hra,h1,h1r,hc⟩:=hi.boxCell hb;have hfc:=hf m nR;rw[tL (by rw[hul];exact Nat.le_refl _)] at hfc;have hal:n*i.size+m*i.size≤arr.length:=by rw[hra.1,←Nat.add_mul];exact hle
 have hnl:new.length=m*i.size:=by rw[←hr.1,hul]
 have hrun:=yI (ty:=o.type) ht hd hn hi0 hlen hfc (ha hbn) h1u hroom (n:=n) (by rw[hul];simp;omega);have hnew:RelL E w (mb b.cs (n*i.size) new) (arr.take (n*i.size)++(us++arr.drop (n*i.size+m*i.size))):=by
  unfold mb;rw[hnl];exact(hra.take _).append (hr.append (hra.drop _))
 have hw:(((arr++rst).toArray.toList.take (n*i.size)++us++(arr++rst).toArray.toList.drop (n*i.size+us.length)).toArray)=((arr.take (n*i.size)++(us++arr.drop (n*i.size+m*i.size)))++rst).toArray:=by
  simp only[hul,List.append_assoc];rw[tA C,List.drop_append_of_le_length hal]
 rw[hw] at hrun;refine⟨_,E,_,?_,hi.setBox hb hbn (ha hbn) h1r (us:=arr.take (n*i.size)++(us++arr.drop (n*i.size+m*i.size))) ?_ hnew ?_,.bsl (o:=0) hroom hm (fun _=>rfl) U⟩
 · simp[execOp,ho,resolve,invoke,builtin,hq,hrun]
 · simp only[gV,lT,lD,hul];omega
 · intro u hu;rcases mA hu with hu|hu
   · exact h1 u (mT hu)
   · rcases mA hu with hu|hu
     · exact h1u u hu
     · exact h1 u (mD hu)
def L.clearB(hg:o.guard=none)(hd:o.dst=none)(ho:o.op= .call {callee:= .builtin .clear,args:= #[x],argTypes:= #[t]})(ht:P.underlying t=some (.slice e))
 (hi0:P.info? e=some i) (hiz:i.zero=some z) (hzk:z.cells.size=k) (hz1: ∀u∈z.cells.toList,u.oneCell'=true) (hk0:0<k) (hx:st.ev x= .bsl id off n cap) (hb:st.bx.lookup id=some b) (hn0:0<n) (hle:off+n*k≤b.cs.length)
 (h:L c ⟨st.fr,(id,⟨b.ty,mb b.cs off (List.replicate (n*k) .any)⟩)::st.bx,st.tk⟩ (wpList P ops Q rest)):L c st (wpList P ops Q (o::rest)):=by
 rintro a w ⟨E,hi⟩;have hv:=hi.ev x;rw[hx] at hv;obtain⟨o',hq,hn',hm,hoo⟩:=hv.bsl_inv;have hoe:o'=off:=hoo C;rw[hoe] at hq;have hnk:0<n*k:=Nat.mul_pos hn0 hk0;have hbn:b.cs≠ []:=fun e=>by rw[e] at hle;simp at hle;omega
 obtain⟨arr,rst,ha,hra,h1,h1r,hc⟩:=hi.boxCell hb;have hal:off+n*k≤arr.length:=by rw[hra.1];exact hle
 have hzl:(Builtin.zeroCells z.cells n).toList.length=n*k:=by rw[Array.length_toList,size_zeroCells,hzk]
 have hz2: ∀u∈(Builtin.zeroCells z.cells n).toList,u.oneCell'=true:=fun u hu=>by
  simp only[Builtin.zeroCells,Array.toList_map,Array.toList_range,List.mem_map,List.mem_range] at hu;obtain⟨p,_,rfl⟩:=hu;have hlt:p % z.cells.size<z.cells.size:=Nat.mod_lt _ (by rw[hzk];exact hk0);rw[getElem!_pos z.cells _ hlt];exact hz1 _ sP
 have hrun:=run_storeCells_at P (E.ρ id) off b.ty (Builtin.zeroCells z.cells n).toList 0 (arr++rst).toArray w (ha hbn) (by rw[hzl];simp;omega) hz2;have hrun':(storeCells ⟨E.ρ id,off,none⟩ (Builtin.zeroCells z.cells n).toList).run P w= .ok () (w.setRow (E.ρ id) ((arr.take off++((Builtin.zeroCells z.cells n).toList++arr.drop (off+n*k)))++rst).toArray):=by
  rw[hrun];simp only[Nat.add_zero,hzl,List.append_assoc];rw[tA C,List.drop_append_of_le_length hal]
 have hany:RelL E w (List.replicate (n*k) .any) (Builtin.zeroCells z.cells n).toList:=⟨by rw[hzl,List.length_replicate],fun p x u hx hu=>by
  simp only[List.getElem?_replicate] at hx;split at hx
  · cases hx;exact .any
  · cases hx⟩
 have hnew:RelL E w (mb b.cs off (List.replicate (n*k) .any)) (arr.take off++((Builtin.zeroCells z.cells n).toList++arr.drop (off+n*k))):=by
  unfold mb;rw[List.length_replicate];exact(hra.take off).append (hany.append (hra.drop _))
 have hex:(execOp a.eval o).run P w= .ok (.value (.tuple #[])) (w.setRow (E.ρ id) ((arr.take off++((Builtin.zeroCells z.cells n).toList++arr.drop (off+n*k)))++rst).toArray):=by
  obtain⟨n',rfl⟩: ∃n',n=n'+1:=⟨n - 1,by omega⟩
  simp[execOp,ho,resolve,invoke,builtin,Builtin.clear_,run_underlying ht,hq,zeroValue,typeInfo,hi0,hiz,hrun']
 refine wpList_plain hg (fun K hK=>en hex (hK _ _ ?_));rw[hd];refine h _ _ ⟨E,hi.setBox hb hbn (ha hbn) h1r (us:=arr.take off++((Builtin.zeroCells z.cells n).toList++arr.drop (off+n*k))) ?_ hnew ?_⟩
 · simp only[gV,lT,lD,hzl];omega
 · intro u hu;rcases mA hu with hu|hu
   · exact h1 u (mT hu)
   · rcases mA hu with hu|hu
     · exact hz2 u hu
     · exact h1 u (mD hu)
def vN{E:Env}{a:Act}(hi:Inv c E st a w){o':Nat}{t t' e:TypeId}{d:TypeDesc}{x y:Operand}{id id' k off bytes:Nat}{i:TypeInfo}{z:Value}{n cap:Nat}{b:Box}{news:List (List IV)}{old cs:List AV}
 (ho:o.op= .call {callee:= .builtin .append,args:= #[x,y],argTypes:= #[t,t']}) (ht:P.underlying t=some (.slice e)) (hi0:P.info? e=some i) (hik:i.size=k) (hib:i.bytes=bytes) (hiz:i.zero=some z) (hzk:z.cells.size=k) (hz1: ∀u∈z.cells.toList,u.oneCell'=true)
 (hd:P.underlying t'=some d) (hn:gB d) (hk0:0<k) (hq:a.eval x= .slice (some ⟨E.ρ id,o',none⟩) n cap) (hoo:cap≠0→o'=off) (hn1:n≤cap) (hb:st.bx.lookup id=some b) (hold:(b.cs.drop off).take (n*k)=old) (hol:old.length=n*k) (hcap:cap<n+news.length) (hnk: ∀e∈news,e.length=k) (hy:Adds P c st y k news) (hne:news≠ [])
 (hm:n+news.length≤maxLen) (hby:(n+news.length)*bytes≤140737488355328) (hf:st.fresh id'=true) (hcs:news.flatten.map .iv=cs) (hmo':AV.ments id' old=false) (hmo:AV.ments id' cs=false):
 ∃(u:Value) (E':Env) (w':World),(execOp a.eval o).run P w= .ok (.value u) w'∧Inv c E' ⟨st.fr,(id',⟨e,old++cs⟩)::st.bx,st.tk⟩ a w'∧RepA E' w' (.bsh id' 0 (n+news.length) k) u:=by
 subst hik;subst hib;obtain⟨us,hsrc,hul,hu1,hur⟩:=hy E a w hi;have hpos:0<news.length:=gU hne;have hexec:(execOp a.eval o).run P w=((Builtin.append_ #[t,t'] o.type #[a.eval x,a.eval y]).run P w).andThen fun v w'=> .ok (.value v) w':=by
  simp[execOp,ho,resolve,invoke,builtin]
 obtain⟨arr,rst,_,hra,h1a,_,hc⟩:=hi.boxCell hb;have hro:RelL E w old ((arr.drop off).take (n*i.size)):=by rw[←hold];exact(hra.drop off).take _
 generalize hod:(arr.drop off).take (n*i.size)=olds at hro;have hol2:olds.length=n*i.size:=by rw[hro.1,hol]
 have hfc:(Builtin.firstCells i.size n (.slice (some ⟨E.ρ id,o',none⟩) n cap)).run P w.drew= .ok olds.toArray w.drew:=by
  refine run_firstCells_some w.drew i.size n _ n cap olds hol2 (fun p v hv=> ?_);have hp:=(gS hv).1;rw[hol2] at hp;have hn0:n≠0:=fun e=>by rw[e] at hp;simp at hp
  rw[hoo C];rw[←hod,List.getElem?_take,if_pos hp,List.getElem?_drop] at hv;simp only[aK];show w.cell? _=_;rw[hc _ (gS hv).1];exact hv
 have hrun:=wI (ty:=o.type) ht hd hn hi0 hiz hsrc hfc hcap (by simp only[maxLen] at hm;omega) (growslice_fits hcap hby);have hge:n+news.length≤grownCap w (n+news.length) cap e:=grownCap_ge _ _ _ _;have hcm:=grownCap_le_maxLen w (n+news.length) cap e hm;have hlen:(olds++(us++(Builtin.zeroCells z.cells (grownCap w (n+news.length) cap e - (n+news.length))).toList)).length=grownCap w (n+news.length) cap e*i.size:=by
  simp only[gV,hul,hol2,Array.length_toList,size_zeroCells,hzk];rw[←Nat.add_mul,←Nat.add_mul];congr 1;omega
 have hcl:cs.length=news.length*i.size:=by rw[←hcs,lM,ao news hnk]
 have hrn:RelL E w cs us:=⟨by rw[hul,hcl],fun p x u hx hu=>by
  rw[←hcs,gP,Option.map_eq_some_iff] at hx;obtain⟨x',hx',rfl⟩:=hx;obtain⟨e',h2,h3⟩:=lQ hk0 news p x' hnk hx';have hp:p / i.size*i.size+p % i.size=p:=by rw[Nat.mul_comm];exact Nat.div_add_mod p i.size
  exact .iv (hur _ e' _ x' u h2 h3 (by rw[hp];exact hu))⟩
 have hrel:=RelL.keep (E:=E) (w:=w) (w':=w.drew) (fun _ _ _=>rfl) (hro.append hrn);have hi':=hi.drew.newRoom hf (ty:=e) (cs:=old++cs) (us:=olds++(us++(Builtin.zeroCells z.cells (grownCap w (n+news.length) cap e - (n+news.length))).toList)) (rB i.size (grownCap w (n+news.length) cap e))
  (by rw[hlen,gV,hol,hcl,←Nat.add_mul];exact mR _ hge)
  (fun p x u hx hu=>by
    have hlt:=(gS hx).1;rw[←List.append_assoc,gL (by rw[hrel.1];exact hlt)] at hu;exact hrel.2 p x u hx hu)
  (fun u hu=>by
    rcases mA hu with hu|hu
    · rw[←hod] at hu;exact h1a u (mD (mT hu))
    rcases mA hu with hu|hu
    · exact hu1 u hu
    · simp only[Builtin.zeroCells,Array.toList_map,Array.toList_range,List.mem_map,List.mem_range] at hu;obtain⟨p,_,rfl⟩:=hu;have hlt:p % z.cells.size<z.cells.size:=Nat.mod_lt _ (by rw[hzk];exact hk0);rw[getElem!_pos z.cells _ hlt];exact hz1 _ sP)
  (pz hmo' hmo) (fun k' cap' he=>by
    obtain⟨rfl,rfl⟩:=na he;exact Nat.le_of_eq hlen.symm)
 refine⟨_,_,_,?_,hi',.bsh (cap:=grownCap w (n+news.length) cap e) (o:=0) C hcm (by simp[Env.upd]) (fun _=>by simp) U⟩;rw[hexec,hq,hrun];simp[Env.upd]
def Makes.growB{id' bytes:Nat}{news:List (List IV)}{old cs:List AV}
 (ho:o.op= .call {callee:= .builtin .append,args:= #[x,y],argTypes:= #[t,t']}) (ht:P.underlying t=some (.slice e)) (hi0:P.info? e=some i) (hik:i.size=k) (hib:i.bytes=bytes) (hiz:i.zero=some z) (hzk:z.cells.size=k) (hz1: ∀u∈z.cells.toList,u.oneCell'=true)
 (hd:P.underlying t'=some d) (hn:gB d) (hk0:0<k) (hx:st.ev x= .bsl id off n cap) (hb:st.bx.lookup id=some b) (hold:(b.cs.drop off).take (n*k)=old) (hol:old.length=n*k) (hcap:cap<n+news.length) (hnk: ∀e∈news,e.length=k) (hy:Adds P c st y k news) (hne:news≠ [])
 (hm:n+news.length≤maxLen) (hby:(n+news.length)*bytes≤140737488355328) (hf:st.fresh id'=true) (hcs:news.flatten.map .iv=cs) (hmo':AV.ments id' old=false) (hmo:AV.ments id' cs=false):
 Makes P c st o (.bsh id' 0 (n+news.length) k) ((id',⟨e,old++cs⟩)::st.bx) st.tk:=fun E a w hi=>by
 have h:=hi.ev x;rw[hx] at h;obtain⟨o',hq,hn1,hm1,hoo⟩:=h.bsl_inv;exact vN hi ho ht hi0 hik hib hiz hzk hz1 hd hn hk0 hq hoo hn1 hb hold hol hcap hnk hy hne hm hby hf hcs hmo' hmo
end
end
section
variable {P:Program}{c:Ctx}{st:St}{ops:Array Oper}{Q:Exit→Act→World→Prop}{rest:List Oper}{o:Oper}
def Makes.growZ{t t' e:TypeId}{kd kd':IntKind}{x y:Operand}{m:Nat}{id id' k off bytes:Nat}{i:TypeInfo}{z:Value}{n cap:Nat}{b:Box}{old:List AV}
 (ho:o.op= .call {callee:= .builtin .append,args:= #[x,y],argTypes:= #[t,t']}) (ht:P.underlying t=some (.slice e)) (hi0:P.info? e=some i) (hik:i.size=k) (hib:i.bytes=bytes) (hiz:i.zero=some z) (hzk:z.cells.size=k) (hz1: ∀u∈z.cells.toList,u.oneCell'=true)
 (hd:P.underlying t'=some (.int kd)) (hk0:0<k) (hx:st.ev x= .bsl id off n cap) (hb:st.bx.lookup id=some b) (hold:(b.cs.drop off).take (n*k)=old) (hol:old.length=n*k) (hcap:cap<n+m) (hy:st.ev y= .iv (.im (.int kd' (m:Int)))) (hpos:0<m)
 (hm:n+m≤maxLen) (hby:(n+m)*bytes≤140737488355328) (hf:st.fresh id'=true) (hmo':AV.ments id' old=false):
 Makes P c st o (.bsh id' 0 (n+m) k) ((id',⟨e,.l (old++List.replicate (m*k) .any)⟩)::st.bx) st.tk:=fun E a w hi=>by
 subst hik;subst hib;have hyq:=hi.im hy;have h:=hi.ev x;rw[hx] at h;obtain⟨o',hq,hn1,hm1,hoo⟩:=h.bsl_inv;have hexec:(execOp a.eval o).run P w=((Builtin.append_ #[t,t'] o.type #[a.eval x,a.eval y]).run P w).andThen fun v w'=> .ok (.value v) w':=by
  simp[execOp,ho,resolve,invoke,builtin]
 obtain⟨arr,rst,_,hra,h1a,_,hc⟩:=hi.boxCell hb;have hro:RelL E w old ((arr.drop off).take (n*i.size)):=by rw[←hold];exact(hra.drop off).take _
 generalize hod:(arr.drop off).take (n*i.size)=olds at hro;have hol2:olds.length=n*i.size:=by rw[hro.1,hol]
 have hfc:(Builtin.firstCells i.size n (.slice (some ⟨E.ρ id,o',none⟩) n cap)).run P w.drew= .ok olds.toArray w.drew:=by
  refine run_firstCells_some w.drew i.size n _ n cap olds hol2 (fun p v hv=> ?_);have hp:=(gS hv).1;rw[hol2] at hp;have hn0:n≠0:=fun e=>by rw[e] at hp;simp at hp
  rw[hoo C];rw[←hod,List.getElem?_take,if_pos hp,List.getElem?_drop] at hv;simp only[aK];show w.cell? _=_;rw[hc _ (gS hv).1];exact hv
 have hrun:=Lib.run_append_grow_zeros w t t' o.type e i z kd' kd ht hd hi0 hiz (some ⟨E.ρ id,o',none⟩) n cap olds hfc m hpos hk0 hcap (by simp only[maxLen] at hm;omega) (Nat.le_trans (Nat.le_trans (mR _ (Nat.le_add_left m n)) hby) C) (growslice_fits hcap hby);have hge:n+m≤grownCap w (n+m) cap e:=grownCap_ge _ _ _ _;have hcm:=grownCap_le_maxLen w (n+m) cap e hm;have hlen:(olds++((Builtin.zeroCells z.cells m).toList++(Builtin.zeroCells z.cells (grownCap w (n+m) cap e - (n+m))).toList)).length=grownCap w (n+m) cap e*i.size:=by
  simp only[gV,hol2,Array.length_toList,size_zeroCells,hzk];rw[←Nat.add_mul,←Nat.add_mul];congr 1;omega
 have hul:(Builtin.zeroCells z.cells m).toList.length=m*i.size:=by rw[Array.length_toList,size_zeroCells,hzk]
 have hz0: ∀(q:Nat) (u:Value),u∈(Builtin.zeroCells z.cells q).toList→u.oneCell'=true:=fun q u hu=>by
  simp only[Builtin.zeroCells,Array.toList_map,Array.toList_range,List.mem_map,List.mem_range] at hu;obtain⟨p,_,rfl⟩:=hu;have hlt:p % z.cells.size<z.cells.size:=Nat.mod_lt _ (by rw[hzk];exact hk0);rw[getElem!_pos z.cells _ hlt];exact hz1 _ sP
 have hrn:RelL E w (List.replicate (m*i.size) .any) (Builtin.zeroCells z.cells m).toList:=⟨by rw[hul,List.length_replicate],fun p x u hx hu=>by
  simp only[List.getElem?_replicate] at hx;split at hx
  · cases hx;exact .any
  · cases hx⟩
 have hma:AV.ments id' (List.replicate (m*i.size) .any)=false:=by
  generalize m*i.size=q;induction q with
  |zero=>rfl
  |succ q ih=>simpa[List.replicate_succ,AV.ments,AV.ment] using ih
 have hrel:=RelL.keep (E:=E) (w:=w) (w':=w.drew) (fun _ _ _=>rfl) (hro.append hrn);have hi':=hi.drew.newRoom hf (ty:=e) (cs:=old++List.replicate (m*i.size) .any) (us:=olds++((Builtin.zeroCells z.cells m).toList++(Builtin.zeroCells z.cells (grownCap w (n+m) cap e - (n+m))).toList)) (rB i.size (grownCap w (n+m) cap e))
  (by rw[hlen,gV,hol,List.length_replicate,←Nat.add_mul];exact mR _ hge)
  (fun p x u hx hu=>by
    have hlt:=(gS hx).1;rw[←List.append_assoc,gL (by rw[hrel.1];exact hlt)] at hu;exact hrel.2 p x u hx hu)
  (fun u hu=>by
    rcases mA hu with hu|hu
    · rw[←hod] at hu;exact h1a u (mD (mT hu))
    rcases mA hu with hu|hu
    · exact hz0 _ u hu
    · exact hz0 _ u hu)
  (pz hmo' hma) (fun k' cap' he=>by
    obtain⟨rfl,rfl⟩:=na he;exact Nat.le_of_eq hlen.symm)
 refine⟨_,_,_,?_,hi',.bsh (cap:=grownCap w (n+m) cap e) (o:=0) C hcm (by simp[Env.upd]) (fun _=>by simp) U⟩;rw[hexec,hq,hyq,hrun];simp[Env.upd];congr 2
 apply Array.ext';simp
end
section
variable {P:Program}{c:Ctx}{st:St}{ops:Array Oper}{Q:Exit→Act→World→Prop}{rest:List Oper}{o:Oper}
def Yields.overlapsB{f:FuncId}{x y:Operand}{ats:Array TypeId}{t tr e:TypeId}{k i j offi n cap offj m capj:Nat}{b b':Box}(ho:o.op= .call {callee:= .value (.func f),args:= #[x,y],argTypes:=ats})
 (hok:tB P f (Extern.SlicesOverlaps.overlaps #[t,t] #[tr])) (hs:bI P t e k=true) (hx:st.ev x= .bsl i offi n cap) (hy:st.ev y= .bsl j offj m capj) (hij:i≠j) (hb:st.bx.lookup i=some b) (hb':st.bx.lookup j=some b') (hbn:b.cs≠ []) (hbn':b'.cs≠ [])
 (hoff:cap≠0) (hin:offi<b.cs.length):Yields P c st o (aB false):=
 .im U fun E a w hi=>by
   obtain⟨fn,hf,h1,h2,h3,h4⟩:=hok;obtain⟨hu,inf,hinf,hsz⟩:=aH hs;have hv:=hi.ev x;rw[hx] at hv;obtain⟨ox,hqx,_,_,hox⟩:=hv.bsl_inv;have hv':=hi.ev y;rw[hy] at hv';obtain⟨oy,hqy,_⟩:=hv'.bsl_inv;obtain⟨_,arr,ha,hl,_⟩:=hi.heap.box i b hb hbn;obtain⟨_,arr',ha',hl',_⟩:=hi.heap.box j b' hb' hbn';have hne:E.ρ i≠E.ρ j:=fun e=>hij (hi.heap.bb i j b b' hb hb' hbn hbn' e)
   have hp':arr'.length≠0:=fun e=>hbn' (nZ C)
   have hrun:=run_callFunc_extern hf h1 h2 h3 h4 #[.slice (some ⟨E.ρ i,ox,none⟩) n cap,.slice (some ⟨E.ρ j,oy,none⟩) m capj] w;rw[Lib.run_overlaps_apart w t tr e hu k (fun w=>by simp[sizeOf,typeInfo,hinf,hsz]) ⟨E.ρ i,ox,none⟩ ⟨E.ρ j,oy,none⟩ n cap m capj hne b.ty b'.ty arr.length arr'.length
    (by simp[World.shape?,ha]) (by simp[World.shape?,ha']) hp' (by simp[World.frozen?,ha]) (by simp[World.frozen?,ha])] at hrun
   have:(execOp a.eval o).run P w=(callFunc f #[a.eval x,a.eval y]).run P w:=by
    simp[execOp,ho,resolve,Deferred.ofValue,Act.eval,invoke]
   rw[this,hqx,hqy,hrun];simp[Result.andThen]
end
inductive Pub (K n k:Nat) (x:IV):AV→AV→Prop
 |same {v:AV}:Pub K n k x v v
 |here:Pub K n k x (.bsh K 0 n k) (.iv x)
inductive Pubs (K n k:Nat) (x:IV):List AV→List AV→Prop
 |nil:Pubs K n k x [] []
 |cons {v v':AV} {l l':List AV} (h:Pub K n k x v v') (t:Pubs K n k x l l'):Pubs K n k x (v::l) (v'::l')
def Pubs.get{K n k:Nat}{x:IV}{l l':List AV}(h:Pubs K n k x l l'):l'.length=l.length∧ ∀(i:Nat) (v:AV),l'[i]?=some v→ ∃v0,l[i]?=some v0∧Pub K n k x v0 v:=by
 induction h with
 |nil=>exact⟨rfl,fun i v h=>by simp at h⟩
 |cons h _ ih=>
  refine⟨by simp[ih.1],fun i v hv=> ?_⟩;cases i with
  |zero=>simp at hv;subst hv;exact⟨_,rfl,h⟩
  |succ i=>exact ih.2 i v (by simpa using hv)
def vC{β:Type}(f:β→β): ∀(l:List (Nat×β)) (s:Nat),(l.map (fun p=>(p.1,f p.2))).lookup s=(l.lookup s).map f
 | [],s=>rfl
 |(t,v)::l,s=>by
  by_cases e:s=t
  · subst e;simp[List.lookup]
  · have e':(s==t)=false:=by simpa using e
    simpa[List.lookup,e'] using vC f l s
def qP(K:Nat){c:Ctx}{st:St}{n k:Nat}{b:Box}{xs:List IV}(hin:c.ins.all (fun i=>(i !=K) && (match st.bx.lookup i with|some b=> !b.cs.isEmpty|none=>false))=true)(hb:st.bx.lookup K=some b)(hx:tO b.cs=some xs)(hl:b.cs.length=n*k)(hk0:0<k)(hpos:0<n){E:Env}{a:Act}{w:World}(hi:Inv c E st a w):
 ∃E2:Env,Inv c E2 ⟨st.fr,(K,⟨b.ty,.l []⟩)::st.bx,st.tk⟩ a w∧(∀(v:AV) (u:Value),RepA E w v u→RepA E2 w v u)∧(∀u,RepA E w (.bsh K 0 n k) u→RepA E2 w (.iv (.sl (cY k n xs))) u)∧E2.ρ=E.ρ∧E2.η=E.η∧E2.φ (E.ρ K)=n*k:=by
 have hnk:0<n*k:=Nat.mul_pos hpos hk0;have hbn:b.cs≠ []:=fun e=>by rw[e] at hl;simp at hl;omega
 obtain⟨h0,arr,ha,hla,h1,hr,hη⟩:=hi.heap.box K b hb hbn;obtain⟨hxl,hxg⟩:=uA hx;have hlt:E.ρ K<w.heap.size:=(Array.getElem?_eq_some_iff.1 ha).1;have hown:c.w0.heap.size≤E.ρ K:=by
  rcases hi.heap.own K b hb hbn with h|⟨id,hid,hid2,_⟩
  · exact h
  · exfalso;have h1:=aT hin id hid;simp only[aE,bne_iff_ne,ne_eq] at h1;obtain⟨h1,h2⟩:=h1;cases hbi:st.bx.lookup id with
    |none=>rw[hbi] at h2;cases h2
    |some bi=>
     rw[hbi] at h2;exact h1 (hi.heap.bb id K bi b hbi hb (fun e=>by simp[e] at h2) hbn ((hi.heap.ins id hid).1.trans hid2))
 have hφ: ∀g,E.φ g≤(if g=E.ρ K then n*k else E.φ g):=fun g=>by
  split
  · rename_i e;rw[e,h0];exact Nat.zero_le _
  · exact Nat.le_refl _
 have hp: ∀u,RepA E w (.bsh K 0 n k) u→RepI (fun g=>if g=E.ρ K then n*k else E.φ g) w (.sl (cY k n xs)) u:=fun u hu=>by
  obtain⟨cap,o,rfl,hn,hm,_,hoo⟩:=hu.bsh_inv;rw[hoo C];have hidx: ∀(i:Nat) (e:List IV) (j:Nat) (x:IV),(cY k n xs)[i]?=some e→e[j]?=some x→i*k+j<n*k∧xs[i*k+j]?=some x:=fun i e j x h2 h3=>by
   rw[lj k n xs i e h2,List.getElem?_take] at h3;split at h3
   · rw[List.getElem?_drop] at h3;have:=(gS h3).1;exact⟨by omega,h3⟩
   · cases h3
  have hres:=RepI.sl (φ:=fun g=>if g=E.ρ K then n*k else E.φ g) (w:=w) (es:=cY k n xs) (b:=E.ρ K) (o:=0) (cap:=cap) (k:=k) (fun i j=>arr.getD (i*k+j) undef) (by rw[ah];omega) hm
   (fun i e he=>by
     have hlt':=(gS he).1;rw[ah] at hlt';rw[lj k n xs i e he,lT,lD,hxl,hl];have:(i+1)*k≤n*k:=mR k hlt';rw[Nat.add_mul,Nat.one_mul] at this;omega)
   (fun i e j x h2 h3=>by simp only[if_true];have:=(hidx i e j x h2 h3).1;omega)
   (fun i e j x h2 h3=>by
     have:=(hidx i e j x h2 h3).1;rw[cell_of_row w _ _ _ _ _ ha,Nat.zero_add];have hlt':i*k+j<arr.length:=C;simp[hlt'])
   (fun i e j x h2 h3=>by
     obtain⟨h4,h5⟩:=hidx i e j x h2 h3;have hlt':i*k+j<arr.length:=C;have hcs:i*k+j<b.cs.length:=C;have hu:arr[i*k+j]?=some (arr.getD (i*k+j) undef):=by simp[gG hlt']
     exact((hr _ _ _ (gG hcs) hu).toI (hxg _ _ x (gG hcs) h5)).mono (fun _ _ _=>rfl) hφ)
  rw[ah] at hres;simpa using hres
 have hmap: ∀(i:Nat) (b1:Box),List.lookup i ((K,(⟨b.ty,.l []⟩:Box))::st.bx)=some b1→b1.cs≠ [] →i≠K∧st.bx.lookup i=some b1:=fun i b1 h hn=>by
  by_cases e:i=K
  · subst e;rw[aj] at h;cases h;exact(hn U).elim
  · rw[aa e] at h;exact⟨e,h⟩
 have pub: ∀{v:AV} {u:Value},RepA E w v u→RepA ⟨fun g=>if g=E.ρ K then n*k else E.φ g,E.ρ,E.η⟩ w v u:=fun hv=>hv.mono (E':=⟨fun g=>if g=E.ρ K then n*k else E.φ g,E.ρ,E.η⟩) (fun _ _ _=>rfl) hφ (fun _ _=>⟨rfl,rfl⟩)
 refine⟨⟨fun g=>if g=E.ρ K then n*k else E.φ g,E.ρ,E.η⟩,⟨hi.defers,hi.size,fun s v hv=>pub (hi.slot s v hv),⟨fun i b1 hi1 hn=> ?_,fun i t ht=> ?_,fun i j b1 b2 h2 h3 hn hn' he=> ?_,hi.heap.tt,fun i j b1 t h2 hn hj=> ?_,fun i b1 h2 hn=> ?_,hi.heap.ownt,fun g hg=> ?_,fun g hg=> ?_,fun i hi1=> ?_,hi.heap.kept⟩⟩,fun v u hv=>pub hv,fun u hu=> .iv (hp u hu),rfl,rfl,by simp⟩
 · obtain⟨hne,h2⟩:=hmap i b1 hi1 hn;obtain⟨g0,arr',ha',hl',h1',hr',hη'⟩:=hi.heap.box i b1 h2 hn;refine⟨?_,arr',ha',hl',h1',fun p x u hx hu=>pub (hr' p x u hx hu),hη'⟩;have:E.ρ i≠E.ρ K:=fun e=>hne (hi.heap.bb i K b1 b h2 hb hn hbn e)
   simp only[if_neg this];exact g0
 · rcases hi.heap.tok i t ht with hn|⟨g,n',cap,cur,hv,hg,r1,r2,r3,r4⟩
   · exact .inl hn
   · have:g≠E.ρ K:=fun e=>hi.heap.bt K i b t hb hbn ht (by rw[hv,e];rfl)
     exact .inr ⟨g,n',cap,cur,hv,hg,r1,r2,r3,by simp only[if_neg this];exact r4⟩
 · exact hi.heap.bb i j b1 b2 (hmap i b1 h2 hn).2 (hmap j b2 h3 hn').2 hn hn' he
 · exact hi.heap.bt i j b1 t (hmap i b1 h2 hn).2 hn hj
 · exact hi.heap.own i b1 (hmap i b1 h2 hn).2 hn
 · simp only;rw[if_neg C];exact hi.heap.new g hg
 · simp only;rw[if_neg C];exact hi.heap.old g hg
 · have h1:=aT hin _ hi1;simp only[aE,bne_iff_ne,ne_eq] at h1;obtain⟨g1,g2,g3⟩:=hi.heap.ins _ hi1;exact⟨g1,g2,by rw[aa h1.1];exact g3⟩
def L.publishS(K s:Nat){c:Ctx}{st:St}{X:Act→World→Prop}{n k:Nat}{b:Box}{xs:List IV}{v v':AV}(hin:c.ins.all (fun i=>(i !=K) && (match st.bx.lookup i with|some b=> !b.cs.isEmpty|none=>false))=true)(hb:st.bx.lookup K=some b)(hx:tO b.cs=some xs)(hl:b.cs.length=n*k)(hk0:0<k)(hpos:0<n)
 (hs:st.fr.lookup s=some v) (hp:Pub K n k (.sl (cY k n xs)) v v') (h:L c ⟨(s,v')::st.fr,(K,⟨b.ty,.l []⟩)::st.bx,st.tk⟩ X):L c st X:=by
 rintro a w ⟨E,hi⟩;obtain⟨E2,hi2,hm,hpub,_,_⟩:=qP K hin hb hx hl hk0 hpos hi;refine h a w ⟨E2,hi2.defers,hi2.size,fun s' u hu=> ?_,hi2.heap⟩;by_cases e:s'=s
 · subst e;simp only[aj,Option.some.injEq] at hu;subst hu;have:=hi.slot s' v hs;cases hp with
   |same=>exact hm _ _ this
   |here=>exact hpub _ this
 · simp only[aa e] at hu;exact hi2.slot s' u hu
def L.publishB(K j:Nat){c:Ctx}{st:St}{X:Act→World→Prop}{n k:Nat}{b bj:Box}{xs:List IV}{cs:List AV}(hin:c.ins.all (fun i=>(i !=K) && (match st.bx.lookup i with|some b=> !b.cs.isEmpty|none=>false))=true)(hb:st.bx.lookup K=some b)(hx:tO b.cs=some xs)(hl:b.cs.length=n*k)(hk0:0<k)(hpos:0<n)
 (hj:st.bx.lookup j=some bj) (hjn:bj.cs≠ []) (hjk:(j==K)=false) (hp:Pubs K n k (.sl (cY k n xs)) bj.cs cs) (h:L c ⟨st.fr,(j,⟨bj.ty,.l cs⟩)::(K,⟨b.ty,.l []⟩)::st.bx,st.tk⟩ X):L c st X:=by
 rintro a w ⟨E,hi⟩;obtain⟨E2,hi2,hm,hpub,hρ,_⟩:=qP K hin hb hx hl hk0 hpos hi;have hne:j≠K:=by simpa using hjk
 have hj2:List.lookup j ((K,(⟨b.ty,.l []⟩:Box))::st.bx)=some bj:=by rw[aa hne];exact hj
 refine h a w ⟨E2,hi2.defers,hi2.size,hi2.slot,HInv.reBox hi2.heap hj2 hjn (fun hn=> ?_)⟩;obtain⟨_,arr0,ha0,hl0,_,hr0,_⟩:=hi.heap.box j bj hj hjn;obtain⟨g0,arr,ha,hla,h1,hr,hη⟩:=hi2.heap.box j bj hj2 hjn;have harr:arr=arr0:=by
  rw[hρ] at ha;rw[ha] at ha0;simp only[Option.some.injEq,Obj.cells.injEq] at ha0;exact congrArg Array.toList ha0.1
 subst harr;obtain⟨e1,e2⟩:=hp.get;refine⟨g0,arr,ha,by simpa[e1] using hla,h1,fun i x u hx hu=> ?_,hη⟩;simp only[Box.cs_l] at hx;obtain⟨v0,hv0,hp0⟩:=e2 i x hx;cases hp0 with
 |same=>exact hr i x u hv0 hu
 |here=>
  exact hpub u (hr0 i _ u hv0 hu)
mutual
def AV.ren(π:Nat→Nat):AV→AV
 | .row i es=> .row (π i) es
 | .ptr i o=> .ptr (π i) o
 | .bsl i o n c=> .bsl (π i) o n c
 | .bsh i o n k=> .bsh (π i) o n k
 | .agg cs=> .agg (AV.rens π cs)
 | .tup cs=> .tup (AV.rens π cs)
 | .fn f cs=> .fn f (AV.rens π cs)
 | .opt b v=> .opt b (AV.ren π v)
 | .any=> .any
 | .iv x=> .iv x
 | .nils=> .nils
 | .emp=> .emp
 | .el cs=> .el cs
def AV.rens(π:Nat→Nat):List AV→List AV
 | [] => []
 |c::cs=>AV.ren π c::AV.rens π cs
end
def fI{π:Nat→Nat}: ∀cs:List AV,AV.rens π cs=cs.map (AV.ren π)
 | [] =>by simp[AV.rens]
 |c::cs=>by simp[AV.rens,fI cs]
def Env.of(π:Nat→Nat)(E:Env):Env:=⟨E.φ,fun i=>E.ρ (π i),fun i=>E.η (π i)⟩
mutual
def RepA.unren{π:Nat→Nat}{E:Env}{w:World}: ∀(v:AV) {u:Value},RepA E w (v.ren π) u→RepA (E.of π) w v u
 | .any,u,_=> .any
 | .iv x,u,h=>by simp only[AV.ren] at h;cases h with|iv h=>exact .iv h
 | .nils,u,h=>by simp only[AV.ren] at h;cases h;exact .nils
 | .emp,u,h=>by simp only[AV.ren] at h;cases h with|emp hu=>exact .emp hu
 | .el cs,u,h=>by simp only[AV.ren] at h;cases h with|el f hc hr=>exact .el f hc hr
 | .row i es,u,h=>by simp only[AV.ren] at h;cases h with|row hu h=>exact .row hu h
 | .ptr i o,u,h=>by simp only[AV.ren] at h;cases h with|ptr hu=>exact .ptr hu
 | .bsl i o n c,u,h=>by simp only[AV.ren] at h;cases h with|bsl hn hm ho hu=>exact .bsl hn hm ho hu
 | .bsh i o n k,u,h=>by simp only[AV.ren] at h;cases h with|bsh hn hm he ho hu=>exact .bsh hn hm he ho hu
 | .agg cs,u,h=>by
   simp only[AV.ren] at h;cases h with
   |agg hl h1 h=>obtain⟨e1,e2⟩:=RepA.unrens cs hl h;exact .agg e1 h1 e2
 | .tup cs,u,h=>by
   simp only[AV.ren] at h;cases h with
   |tup hl h=>obtain⟨e1,e2⟩:=RepA.unrens cs hl h;exact .tup e1 e2
 | .fn f cs,u,h=>by
   simp only[AV.ren] at h;cases h with
   |fn hl h=>obtain⟨e1,e2⟩:=RepA.unrens cs hl h;exact .fn e1 e2
 | .opt b v,u,h=>by
   simp only[AV.ren] at h;cases h with
   |optT h=>exact .optT (RepA.unren v h)
   |optF=>exact .optF
def RepA.unrens{π:Nat→Nat}{E:Env}{w:World}: ∀(cs:List AV) {us:List Value},us.length=(AV.rens π cs).length→(∀(i:Nat) (c:AV) (u:Value),(AV.rens π cs)[i]?=some c→us[i]?=some u→RepA E w c u)→
 us.length=cs.length∧ ∀(i:Nat) (c:AV) (u:Value),cs[i]?=some c→us[i]?=some u→RepA (E.of π) w c u
 | [],us,hl,h=>⟨by simpa[AV.rens] using hl,fun i c u hc=>by simp at hc⟩
 |c::cs,[],hl,h=>by simp[AV.rens] at hl
 |c::cs,u::us,hl,h=>by
  obtain⟨e1,e2⟩:=RepA.unrens cs (us:=us) (by simpa[AV.rens] using hl) (fun i c u hc hu=>h (i+1) c u (by simpa[AV.rens] using hc) (by simpa using hu));refine⟨by simp[e1],fun i c' u' hc hu=> ?_⟩;cases i with
  |zero=>simp at hc hu;subst hc;subst hu;exact RepA.unren c (h 0 _ u (by simp[AV.rens]) U)
  |succ i=>exact e2 i c' u' (by simpa using hc) (by simpa using hu)
end
mutual
def RepA.doren{π:Nat→Nat}{E:Env}{w:World}: ∀(v:AV) {u:Value},RepA (E.of π) w v u→RepA E w (v.ren π) u
 | .any,u,_=> .any
 | .iv x,u,h=>by simp only[AV.ren];cases h with|iv h=>exact .iv h
 | .nils,u,h=>by simp only[AV.ren];cases h;exact .nils
 | .emp,u,h=>by simp only[AV.ren];cases h with|emp hu=>exact .emp hu
 | .el cs,u,h=>by simp only[AV.ren];cases h with|el f hc hr=>exact .el f hc hr
 | .row i es,u,h=>by simp only[AV.ren];cases h with|row hu h=>exact .row hu h
 | .ptr i o,u,h=>by simp only[AV.ren];cases h with|ptr hu=>exact .ptr hu
 | .bsl i o n c,u,h=>by simp only[AV.ren];cases h with|bsl hn hm ho hu=>exact .bsl hn hm ho hu
 | .bsh i o n k,u,h=>by simp only[AV.ren];cases h with|bsh hn hm he ho hu=>exact .bsh hn hm he ho hu
 | .agg cs,u,h=>by
   simp only[AV.ren];cases h with
   |agg hl h1 h=>obtain⟨e1,e2⟩:=RepA.dorens cs hl h;exact .agg e1 h1 e2
 | .tup cs,u,h=>by
   simp only[AV.ren];cases h with
   |tup hl h=>obtain⟨e1,e2⟩:=RepA.dorens cs hl h;exact .tup e1 e2
 | .fn f cs,u,h=>by
   simp only[AV.ren];cases h with
   |fn hl h=>obtain⟨e1,e2⟩:=RepA.dorens cs hl h;exact .fn e1 e2
 | .opt b v,u,h=>by
   simp only[AV.ren];cases h with
   |optT h=>exact .optT (RepA.doren v h)
   |optF=>exact .optF
def RepA.dorens{π:Nat→Nat}{E:Env}{w:World}: ∀(cs:List AV) {us:List Value},us.length=cs.length→(∀(i:Nat) (c:AV) (u:Value),cs[i]?=some c→us[i]?=some u→RepA (E.of π) w c u)→
 us.length=(AV.rens π cs).length∧ ∀(i:Nat) (c:AV) (u:Value),(AV.rens π cs)[i]?=some c→us[i]?=some u→RepA E w c u
 | [],us,hl,h=>⟨by simpa[AV.rens] using hl,fun i c u hc=>by simp[AV.rens] at hc⟩
 |c::cs,[],hl,h=>by simp at hl
 |c::cs,u::us,hl,h=>by
  obtain⟨e1,e2⟩:=RepA.dorens cs (us:=us) (by simpa using hl) (fun i c u hc hu=>h (i+1) c u (by simpa using hc) (by simpa using hu));refine⟨by simp[AV.rens,e1],fun i c' u' hc hu=> ?_⟩;cases i with
  |zero=>simp[AV.rens] at hc hu;subst hc;subst hu;exact RepA.doren c (h 0 _ u U U)
  |succ i=>exact e2 i c' u' (by simpa[AV.rens] using hc) (by simpa using hu)
end
def Box.ren(π:Nat→Nat)(b:Box):Box:=
 match b.c with
 | .l cs=>⟨b.ty,.l (AV.rens π cs)⟩
 | .r xs m=>⟨b.ty,.r xs m⟩
section
variable {E:Env}{P:Program}{args args2:List AV}{b:Box}{bx bx' bx2 bx2':List (Nat×Box)}{f:FuncId}{gs:au}{id:Nat}{res res2:AV}{tk' tk2':List (Nat×Tok)}{w:World}{β γ:Type}{π σ:Nat→Nat}
def Box.ren_ty(b:Box):(b.ren π).ty=b.ty:=by obtain⟨ty,c⟩:=b;cases c<;>rfl
def EM: ∀xs:List IV,AV.rens π (xs.map .iv)=xs.map .iv
 | [] =>by simp[AV.rens]
 |x::xs=>by simp[AV.rens,AV.ren,EM xs]
def AU: ∀m:Nat,AV.rens π (List.replicate m .any)=List.replicate m .any
 |0=>by simp[AV.rens]
 |m+1=>by simp[List.replicate_succ,AV.rens,AV.ren,AU m]
def HM(l m:List AV):AV.rens π (l++m)=AV.rens π l++AV.rens π m:=by simp[fI]
def Box.ren_cs(b:Box):(b.ren π).cs=AV.rens π b.cs:=by
 obtain⟨ty,c⟩:=b;cases c with
 |l cs=>rfl
 |r xs m=>simp only[Box.ren,Box.cs_r,HM,EM,AU]
def Box.ren_ne:(b.ren π).cs≠ [] ↔b.cs≠ []:=by
 rw[Box.ren_cs,fI];simp
def BoxOk.unren(h:BoxOk E w (π id) (b.ren π)):BoxOk (E.of π) w id b:=by
 obtain⟨h0,arr,ha,hl,h1,hr,hη⟩:=h;rw[Box.ren_ty] at ha;rw[Box.ren_cs] at hl hr;refine⟨h0,arr,ha,by simpa[fI] using hl,h1,fun i c u hc hu=> ?_,hη⟩;exact RepA.unren c (hr i _ u (by rw[fI,gP,hc];rfl) hu)
def BoxOk.doren(h:BoxOk (E.of π) w id b):BoxOk E w (π id) (b.ren π):=by
 obtain⟨h0,arr,ha,hl,h1,hr,hη⟩:=h;refine⟨h0,arr,by rw[Box.ren_ty];exact ha,by rw[Box.ren_cs];simpa[fI] using hl,h1,fun i c u hc hu=> ?_,hη⟩;rw[Box.ren_cs,fI,gP,Option.map_eq_some_iff] at hc;obtain⟨c0,hc0,rfl⟩:=hc;exact RepA.doren c0 (hr i c0 u hc0 hu)
def eL(π:Nat→Nat)(bx:List (Nat×Box)):List (Nat×Box):=bx.map (fun p=>(π p.1,p.2.ren π))
def wU(π:Nat→Nat)(tk:List (Nat×Tok)):List (Nat×Tok):=tk.map (fun p=>(π p.1,p.2))
def kX(hσ: ∀n,σ (π n)=n)(f:β→γ): ∀(l:List (Nat×β)) (i:Nat),(l.map (fun p=>(π p.1,f p.2))).lookup (π i)=(l.lookup i).map f
 | [],i=>rfl
 |(t,v)::l,i=>by
  by_cases e:i=t
  · subst e;simp[List.lookup]
  · have e1:(i==t)=false:=by simpa using e
    have e2:(π i==π t)=false:=by
     have:π i≠π t:=fun h=>e (by rw[←hσ i,h,hσ])
     simpa using this
    simpa[List.lookup,e1,e2] using kX hσ f l i
def lJ(hσ: ∀n,σ (π n)=n)(hπ: ∀n,π (σ n)=n)(f:β→γ)(l:List (Nat×β))(i:Nat):(l.map (fun p=>(π p.1,f p.2))).lookup i=(l.lookup (σ i)).map f:=by
 rw[←hπ i,kX hσ f l (σ i),hσ]
def CallG.ren(π σ:Nat→Nat)(hσ: ∀n,σ (π n)=n)(hπ: ∀n,π (σ n)=n)(h:CallG gs P f args bx bx' tk' res):
 CallG gs P f (AV.rens π args) (eL π bx) (eL π bx') (wU π tk') (res.ren π):=by
 intro E w us hrel hh hG;have hπσ: ∀i,π i=i∨True:=fun _=> .inr trivial
 have hlk: ∀(i:Nat) (b:Box),bx.lookup i=some b→(eL π bx).lookup (π i)=some (b.ren π):=fun i b hb=>by
  unfold eL;rw[kX hσ (Box.ren π),hb];rfl
 have hlu: ∀(i:Nat) (b:Box),(eL π bx').lookup i=some b→ ∃b0,bx'.lookup (σ i)=some b0∧b0.ren π=b:=fun i b hb=>by
  unfold eL at hb;rw[lJ hσ hπ (Box.ren π),Option.map_eq_some_iff] at hb;exact hb
 have hlt: ∀(i:Nat) (t:Tok),(wU π tk').lookup i=some t→tk'.lookup (σ i)=some t:=fun i t ht=>by
  unfold wU at ht;have:=lJ hσ hπ (fun t:Tok=>t) tk' i;rw[this] at ht;simpa using ht
 have hargs:RelL (E.of π) w args us:=by
  obtain⟨e1,e2⟩:=RepA.unrens args hrel.1 hrel.2;exact⟨e1,e2⟩
 have hM: ∀g,Ctx.M ⟨0,w,E.of π,keys bx⟩ g↔Ctx.M ⟨0,w,E,keys (eL π bx)⟩ g:=fun g=>by
  constructor
  · rintro ⟨id,hid,e1,e2⟩;refine⟨π id,?_,e1,e2⟩;simp only[keys,eL,List.map_map,List.mem_map] at hid⊢;obtain⟨p,hp,rfl⟩:=hid;exact⟨p,hp,rfl⟩
  · rintro ⟨id,hid,e1,e2⟩;simp only[keys,eL,List.map_map,List.mem_map] at hid;obtain⟨p,hp,rfl⟩:=hid;exact⟨p.1,List.mem_map.2 ⟨p,hp,rfl⟩,e1,e2⟩
 have hin:HInv ⟨0,w,E.of π,keys bx⟩ (E.of π) bx [] w:=by
  refine⟨fun i b hb hn=> ?_,fun i t ht=>by simp at ht,fun i j b b' hi hj hn hn' he=> ?_,fun i j t t' g hi=>by simp at hi,fun i j b t hi hn hj=>by simp at hj,fun i b hb hn=> ?_,fun j t g hj=>by simp at hj,hh.new,fun _ _=>rfl,fun i hi=>⟨rfl,rfl,?_⟩,KeptBut.refl _ _⟩
  · exact(hh.box (π i) _ (hlk i b hb) (Box.ren_ne.2 hn)).unren
  · have:=hh.bb (π i) (π j) _ _ (hlk i b hi) (hlk j b' hj) (Box.ren_ne.2 hn) (Box.ren_ne.2 hn') he;rw[←hσ i,this,hσ]
  · rcases hh.own (π i) _ (hlk i b hb) (Box.ren_ne.2 hn) with h|h
    · exact .inl h
    · exact .inr ((hM _).2 h)
  · obtain⟨b,hb⟩:=it hi;show(List.lookup i bx).isSome=true;rw[hb];rfl
 refine(h (E.of π) w us hargs hin hG).mono ?_;rintro e w' ⟨u,E1,he,hu,ho⟩;have hE:(Env.of π ⟨E1.φ,fun i=>E1.ρ (σ i),fun i=>E1.η (σ i)⟩)=E1:=by simp[Env.of,hσ]
 have hEof: ∀i,(⟨E1.φ,fun i=>E1.ρ (σ i),fun i=>E1.η (σ i)⟩:Env).ρ (π i)=E1.ρ i:=fun i=>by simp[hσ]
 refine⟨u,⟨E1.φ,fun i=>E1.ρ (σ i),fun i=>E1.η (σ i)⟩,he,RepA.doren res (by rw[hE];exact hu),?_⟩;refine⟨fun i b hb hn=> ?_,fun i t ht=> ?_,fun i j b b' hi hj hn hn' he=> ?_,fun i j t t' g hi hj h1 h2=> ?_,fun i j b t hi hn hj=> ?_,fun i b hb hn=> ?_,fun j t g hj hg=> ?_,ho.new,fun b hb=>ho.old b hb,fun i hi=> ?_,?_⟩
 · obtain⟨b0,h0,rfl⟩:=hlu i b hb;have:=BoxOk.doren (π:=π) (E:=⟨E1.φ,fun i=>E1.ρ (σ i),fun i=>E1.η (σ i)⟩) (by rw[hE];exact ho.box (σ i) b0 h0 (Box.ren_ne.1 hn));rw[hπ] at this;exact this
 · exact ho.tok (σ i) t (hlt i t ht)
 · obtain⟨b0,h0,rfl⟩:=hlu i b hi;obtain⟨b1,h1,rfl⟩:=hlu j b' hj;have:=ho.bb (σ i) (σ j) b0 b1 h0 h1 (Box.ren_ne.1 hn) (Box.ren_ne.1 hn') he;rw[←hπ i,this,hπ]
 · have:=ho.tt (σ i) (σ j) t t' g (hlt i t hi) (hlt j t' hj) h1 h2;rw[←hπ i,this,hπ]
 · obtain⟨b0,h0,rfl⟩:=hlu i b hi;exact ho.bt (σ i) (σ j) b0 t h0 (Box.ren_ne.1 hn) (hlt j t hj)
 · obtain⟨b0,h0,rfl⟩:=hlu i b hb;rcases ho.own (σ i) b0 h0 (Box.ren_ne.1 hn) with h|h
   · exact .inl h
   · exact .inr ((hM _).1 h)
 · exact ho.ownt (σ j) t g (hlt j t hj) hg
 · simp only[keys,eL,List.map_map,List.mem_map] at hi;obtain⟨p,hp,rfl⟩:=hi;obtain⟨e1,e2,e3⟩:=ho.ins p.1 (List.mem_map.2 ⟨p,hp,rfl⟩);refine⟨by simpa[hσ,Env.of] using e1,by simpa[hσ,Env.of] using e2,?_⟩;obtain⟨b,hb⟩:=Option.isSome_iff_exists.1 e3;show(List.lookup (π p.1) (eL π bx')).isSome=true;unfold eL;rw[kX hσ (Box.ren π),hb];rfl
 · exact⟨ho.kept.os,ho.kept.tape,ho.kept.output,ho.kept.size,fun k hk hm=>ho.kept.block k hk (fun hM'=>hm ((hM k).1 hM')),ho.kept.drawn⟩
def CallA.ren(π σ:Nat→Nat)(hσ: ∀n,σ (π n)=n)(hπ: ∀n,π (σ n)=n)(h:CallA P f args bx bx' tk' res):
 CallA P f (AV.rens π args) (eL π bx) (eL π bx') (wU π tk') (res.ren π):=(CallG.ren π σ hσ hπ h.toG).toA
def sw(a b n:Nat):Nat:=if n=a then b else if n=b then a else n
def Ly(a b n:Nat):sw a b (sw a b n)=n:=by
 unfold sw;split<;>split<;>(try split)<;>omega
def sws:List (Nat×Nat)→Nat→Nat
 | [],n=>n
 |(a,b)::r,n=>sw (sws r a) b (sws r n)
def Fz:List (Nat×Nat)→Nat→Nat
 | [],n=>n
 |(a,b)::r,n=>Fz r (sw (sws r a) b n)
def mw: ∀(l:List (Nat×Nat)) (n:Nat),Fz l (sws l n)=n
 | [],n=>rfl
 |(a,b)::r,n=>by simp only[sws,Fz,Ly,mw r n]
def qK: ∀(l:List (Nat×Nat)) (n:Nat),sws l (Fz l n)=n
 | [],n=>rfl
 |(a,b)::r,n=>by simp only[sws,Fz,qK r,Ly]
def iW(a b:Nat)(r:List (Nat×Nat)):sws ((a,b)::r) a=b:=by simp[sws,sw]
def nW{a b n m:Nat}{r:List (Nat×Nat)}(hn:n≠a)(h:sws r n=m)(hb:m≠b):sws ((a,b)::r) n=m:=by
 have:sws r n≠sws r a:=fun e=>hn (by rw[←mw r n,e,mw])
 rw[h] at this;simp only[sws,sw,h];rw[if_neg this,if_neg hb]
def CallA.sws(l:List (Nat×Nat))(h:CallA P f args bx bx' tk' res)
 (h1:AV.rens (Abs.sws l) args=args2) (h2:eL (Abs.sws l) bx=bx2) (h3:eL (Abs.sws l) bx'=bx2') (h4:wU (Abs.sws l) tk'=tk2') (h5:res.ren (Abs.sws l)=res2):CallA P f args2 bx2 bx2' tk2' res2:=by
 subst h1;subst h2;subst h3;subst h4;subst h5;exact h.ren _ _ (mw l) (qK l)
def CallG.sws(l:List (Nat×Nat))(h:CallG gs P f args bx bx' tk' res)
 (h1:AV.rens (Abs.sws l) args=args2) (h2:eL (Abs.sws l) bx=bx2) (h3:eL (Abs.sws l) bx'=bx2') (h4:wU (Abs.sws l) tk'=tk2') (h5:res.ren (Abs.sws l)=res2):CallG gs P f args2 bx2 bx2' tk2' res2:=by
 subst h1;subst h2;subst h3;subst h4;subst h5;exact h.ren _ _ (mw l) (qK l)
end
mutual
def AV.ren_id{π:Nat→Nat}: ∀v:AV,AV.mentIn [] v=true→v.ren π=v
 | .any,_=>rfl
 | .iv _,_=>rfl
 | .nils,_=>rfl
 | .emp,_=>rfl
 | .el _,_=>rfl
 | .row i _,h=>by simp[AV.mentIn] at h
 | .ptr i _,h=>by simp[AV.mentIn] at h
 | .bsl i _ _ _,h=>by simp[AV.mentIn] at h
 | .bsh i _ _ _,h=>by simp[AV.mentIn] at h
 | .agg cs,h=>by rw[AV.ren,AV.rens_id cs (by simpa[AV.mentIn] using h)]
 | .tup cs,h=>by rw[AV.ren,AV.rens_id cs (by simpa[AV.mentIn] using h)]
 | .fn _ cs,h=>by rw[AV.ren,AV.rens_id cs (by simpa[AV.mentIn] using h)]
 | .opt _ v,h=>by rw[AV.ren,AV.ren_id v (by simpa[AV.mentIn] using h)]
def AV.rens_id{π:Nat→Nat}: ∀vs:List AV,AV.mentsIn [] vs=true→AV.rens π vs=vs
 | [],_=>rfl
 |v::vs,h=>by
  simp only[AV.mentsIn,aE] at h;rw[AV.rens,AV.ren_id v h.1,AV.rens_id vs h.2]
end
def gY{α:Type}{k:Nat}: ∀(es:List (List α)) (i:Nat),(∀e∈es,e.length=k)→es.flatten.take (i*k)=(es.take i).flatten
 | [],i,_=>by simp
 |e::es,0,_=>by simp
 |e::es,i+1,h=>by
  have he:e.length=k:=h e List.mem_cons_self;rw[List.flatten_cons,List.take_append,tL (by rw[he,Nat.add_mul];omega),he,show(i+1)*k - k=i*k by rw[Nat.add_mul];omega,gY es i (fun e h'=>h e (List.mem_cons_of_mem _ h'))];simp
def pF{α:Type}{k:Nat}: ∀(es:List (List α)) (i:Nat),(∀e∈es,e.length=k)→es.flatten.drop (i*k)=(es.drop i).flatten
 | [],i,_=>by simp
 |e::es,0,_=>by simp
 |e::es,i+1,h=>by
  have he:e.length=k:=h e List.mem_cons_self;rw[List.flatten_cons,List.drop_append,dL (by rw[he,Nat.add_mul];omega),he,show(i+1)*k - k=i*k by rw[Nat.add_mul];omega,pF es i (fun e h'=>h e (List.mem_cons_of_mem _ h'))];simp
def uJ{k:Nat}{es news:List (List IV)}{i m:Nat}(hk: ∀e∈es,e.length=k)(hn: ∀e∈news,e.length=k)(hi:i≤es.length):
 mb (es.flatten.map AV.iv++List.replicate m AV.any) (i*k) (news.flatten.map AV.iv)=(es.take i++(news++es.drop (i+news.length))).flatten.map AV.iv++List.replicate (m - (i+news.length - es.length)*k) AV.any:=by
 have hl:=ao es hk;have hl2:=ao news hn;have h1:i*k≤es.length*k:=mR k hi;unfold mb;rw[tA (by rw[lM,hl];exact h1),←List.map_take,gY es i hk,lM,hl2,←Nat.add_mul,List.drop_append,←List.map_drop,pF es _ hk,List.drop_replicate,lM,hl,←Nat.sub_mul];simp[List.append_assoc]
def bw{k i:Nat}{es:List (List IV)}(h: ∀e∈es,e.length=k): ∀e∈es.take i,e.length=k:=fun e he=>h e (mT he)
def bO{k i:Nat}{es:List (List IV)}(h: ∀e∈es,e.length=k): ∀e∈es.drop i,e.length=k:=fun e he=>h e (mD he)
def oS{k:Nat}: ∀(es:List (List IV)),(∀e∈es,e.length=k)→cY k es.length es.flatten=es
 | [],_=>rfl
 |e::es,h=>by
  have he:e.length=k:=h e List.mem_cons_self;rw[lC,cY,List.flatten_cons,tA C,List.drop_append_of_le_length C,tL C,dL C,List.nil_append,oS es (fun e h'=>h e (List.mem_cons_of_mem _ h'))]
def flat_at{α:Type}{k:Nat}: ∀(es:List (List α)) (i f:Nat) (e:List α) (x:α),(∀e∈es,e.length=k)→es[i]?=some e→e[f]?=some x→es.flatten[i*k+f]?=some x
 | [],i,f,e,x,_,h,_=>by simp at h
 |a::es,0,f,e,x,h,h1,h2=>by
  simp at h1;subst h1;have:=(gS h2).1;rw[Nat.zero_mul,Nat.zero_add,List.flatten_cons,gL this];exact h2
 |a::es,i+1,f,e,x,h,h1,h2=>by
  have he:a.length=k:=h a List.mem_cons_self;rw[List.flatten_cons,List.getElem?_append_right (by rw[he,Nat.add_mul];omega),he,show(i+1)*k+f - k=i*k+f by rw[Nat.add_mul];omega];exact flat_at es i f e x (fun e h'=>h e (List.mem_cons_of_mem _ h')) (by simpa using h1) h2
def sD{α:Type}{k:Nat}(es:List (List α))(i:Nat)(e:List α)(h: ∀e∈es,e.length=k)(h1:es[i]?=some e):(es.flatten.drop (i*k)).take k=e:=by
 have he:e.length=k:=h e (gE h1);rw[pF es i h,List.drop_eq_getElem_cons (gS h1).1,(gS h1).2,List.flatten_cons,tA C,tL C]
def yX: ∀xs:List IV,tO (xs.map AV.iv)=some xs
 | [] =>rfl
 |x::xs=>by simp[tO,AV.toI,yX xs]
section
variable {P:Program}{c:Ctx}{st:St}{ops:Array Oper}{Q:Exit→Act→World→Prop}{rest:List Oper}{o:Oper}
section
variable {b b':Box}{bt bt' e t t' ty:TypeId}{bx:List (Nat×Box)}{bytes cap cap' cnt i' id id' k m mm mm' n n' off off':Nat}{d:TypeDesc}{es es' news:List (List IV)}{i:TypeInfo}{tk:List (Nat×Tok)}{x y:Operand}{z:Value}
def Inv.recell{E:Env}{a:Act}{w:World}{fr:List (Nat×AV)}(h:Inv c E ⟨fr,(id,b)::bx,tk⟩ a w)(ht:b.ty=b'.ty)(hc:Subs b.cs b'.cs):Inv c E ⟨fr,(id,b')::bx,tk⟩ a w:=by
 refine⟨h.defers,h.size,h.slot,HInv.wk (st:=⟨fr,(id,b)::bx,tk⟩) (st':=⟨fr,(id,b')::bx,tk⟩) h.heap ⟨fun i hin=> ?_,fun s v hv=>⟨v,hv,Sub.refl _⟩,fun i b1 hi=> ?_,fun i t h=>h⟩⟩
 · have h3:=(h.heap.ins i hin).2.2;simp only at h3⊢;by_cases e:i=id
   · subst e;rw[aj];rfl
   · rw[aa e] at h3⊢;exact h3
 · simp only at hi⊢;by_cases e:i=id
   · subst e;rw[aj] at hi⊢;cases hi;exact⟨b,rfl,ht,hc⟩
   · rw[aa e] at hi⊢;exact⟨b1,hi,rfl,Subs.refl _⟩
def Makes.recell{v:AV}(h:Makes P c st o v ((id,b)::bx) tk)(ht:b.ty=b'.ty)(hc:Subs b.cs b'.cs):Makes P c st o v ((id,b')::bx) tk:=fun E a w hi=>by
 obtain⟨u,E',w',h1,h2,h3⟩:=h E a w hi;exact⟨u,E',w',h1,h2.recell ht hc,h3⟩
def Does.recell(h:Does P c st o ((id,b)::bx) tk)(ht:b.ty=b'.ty)(hc:Subs b.cs b'.cs):Does P c st o ((id,b')::bx) tk:=fun E a w hi=>by
 obtain⟨E',w',h1,h2⟩:=h E a w hi;exact⟨E',w',h1,h2.recell ht hc⟩
def Subs.of_eq{l l':List AV}(h:l=l'):Subs l l':=h▸Subs.refl l
def Reads.row{i:Nat}(hy:st.ev y= .bsl id off m cap)(hb:st.bx.lookup id=some ⟨ty,.r es.flatten mm⟩)(hk: ∀e∈es,e.length=k)(hoff:off=i*k)(hle:(i+m)*k≤es.length*k+mm):
 Reads P c st y k m (((es.flatten.map AV.iv++List.replicate mm AV.any).drop off).take (m*k)):=by
 refine Reads.bsl hy hb U ?_;have hl:=ao es hk;simp only[Box.cs_r,lT,lD,gV,lM,List.length_replicate,hl,hoff];rw[Nat.add_mul] at hle;omega
def AT{i:Nat}(hk: ∀e∈es,e.length=k)(hoff:off=i*k)(hcm:cnt≤m)(hin:i+cnt≤es.length):
 (((es.flatten.map AV.iv++List.replicate mm AV.any).drop off).take (m*k)).take (cnt*k)=((es.drop i).take cnt).flatten.map AV.iv:=by
 have hl:=ao es hk;have h1:(i+cnt)*k≤es.length*k:=mR k hin;have h2:cnt*k≤m*k:=mR k hcm;rw[Nat.add_mul] at h1;rw[List.take_take,Nat.min_eq_left h2,hoff,List.drop_append_of_le_length (by rw[lM,hl];omega),tA (by rw[lD,lM,hl];omega),←List.map_drop,←List.map_take,pF es i hk,gY _ cnt (bO hk)]
def Makes.copyRR{i:Nat}(ho:o.op= .call {callee:= .builtin .copy,args:= #[x,y],argTypes:= #[t,t']})(hs:bI P t e k=true)
 (hx:st.ev x= .bsl id off n cap) (hb:st.bx.lookup id=some ⟨bt,.r es.flatten mm⟩) (hy:st.ev y= .bsl id' off' n' cap') (hb':st.bx.lookup id'=some ⟨bt',.r es'.flatten mm'⟩) (hk: ∀e∈es,e.length=k) (hk': ∀e∈es',e.length=k) (hk0:0<k)
 (hoff:off=i*k) (hoff':off'=i'*k) (hcnt:Nat.min n' n=cnt) (hpos:0<cnt) (hle':(i'+n')*k≤es'.length*k+mm') (hin:i'+cnt≤es'.length) (hi:i≤es.length) (hm:(i+cnt)*k≤es.length*k+mm):
 Makes P c st o (aI cnt) ((id,⟨bt,.r (es.take i++((es'.drop i').take cnt++es.drop (i+cnt))).flatten (mm - (i+cnt - es.length)*k)⟩)::st.bx) st.tk:=by
 have hcm:cnt≤n':=by rw[←hcnt];exact Nat.min_le_left _ _
 have hl:=ao es hk;have hnl:((es'.drop i').take cnt).length=cnt:=by rw[lT,lD];omega
 have h:=Makes.copyB (c:=c) ho hs hx hb (Reads.row hy hb' hk' hoff' hle') hcnt hpos hk0 (by
  rw[Nat.add_mul] at hm;simp only[Box.cs_r,gV,lM,List.length_replicate,hl,hoff];omega)
 refine h.recell U (Subs.of_eq ?_);rw[AT hk' hoff' hcm hin];simp only[Box.cs_l,Box.cs_r];have:=uJ (m:=mm) hk (bw (i:=cnt) (bO (i:=i') hk')) hi;rw[hnl] at this;rw[hoff];exact this
def Makes.roomRR(ho:o.op= .call {callee:= .builtin .append,args:= #[x,y],argTypes:= #[t,t']})(ht:P.underlying t=some (.slice e))(hi0:P.info? e=some i)(hik:i.size=k)
 (hd:P.underlying t'=some d) (hn:gB d) (hx:st.ev x= .bsl id 0 n cap) (hb:st.bx.lookup id=some ⟨bt,.r es.flatten mm⟩) (hbn:(⟨bt,.r es.flatten mm⟩:Box).cs≠ []) (hy:st.ev y= .bsl id' off' n' cap') (hb':st.bx.lookup id'=some ⟨bt',.r es'.flatten mm'⟩) (hk: ∀e∈es,e.length=k) (hk': ∀e∈es',e.length=k)
 (hoff':off'=i'*k) (hin:i'+n'≤es'.length) (hc0:0<cap) (hroom:n+n'≤cap) (hi:n≤es.length) (hm:(n+n')*k≤es.length*k+mm):
 Makes P c st o (.bsl id 0 (n+n') cap) ((id,⟨bt,.r (es.take n++((es'.drop i').take n'++es.drop (n+n'))).flatten (mm - (n+n' - es.length)*k)⟩)::st.bx) st.tk:=by
 have hl:=ao es hk;have hnl:((es'.drop i').take n').length=n':=by rw[lT,lD];omega
 have hle':(i'+n')*k≤es'.length*k+mm':=Nat.le_trans (mR k hin) (Nat.le_add_right _ _);have h:=Makes.roomB (c:=c) ho ht hi0 hik hd hn hx hb hbn (Reads.row hy hb' hk' hoff' hle') hc0 hroom (by
  simp only[Box.cs_r,gV,lM,List.length_replicate,hl];exact hm)
 refine h.recell U (Subs.of_eq ?_);have h2:=AT (mm:=mm') hk' hoff' (Nat.le_refl n') hin;rw[tL (by rw[lT];omega)] at h2;rw[h2];simp only[Box.cs_l,Box.cs_r];have:=uJ (m:=mm) hk (bw (i:=n') (bO (i:=i') hk')) hi;rw[hnl] at this;exact this
def Adds.row{i:Nat}(hy:st.ev y= .bsl id off n cap)(hb:st.bx.lookup id=some ⟨ty,.r es.flatten mm⟩)(hk: ∀e∈es,e.length=k)(hk0:0<k)(hoff:off=i*k)(hn0:0<n)(hin:i+n≤es.length):
 Adds P c st y k ((es.drop i).take n):=fun E a w hi=>by
 have h:=hi.ev y;rw[hy] at h;obtain⟨o',hq,hn,hm,hoo⟩:=h.bsl_inv;have hoe:=hoo C;obtain⟨arr,rst,_,hra,h1,_,hc⟩:=hi.boxCell hb;have hl:=ao es hk;have hnl:((es.drop i).take n).length=n:=by rw[lT,lD];omega
 have hal:arr.length=es.length*k+mm:=by rw[hra.1];simp only[Box.cs_r,gV,lM,List.length_replicate,hl]
 have h2:(i+n)*k≤es.length*k:=mR k hin;rw[Nat.add_mul] at h2;have hul:((arr.drop off).take (n*k)).length=n*k:=by rw[lT,lD,hal,hoff];omega
 refine⟨(arr.drop off).take (n*k),?_,by rw[hnl,hul],fun u hu=>h1 u (mD (mT hu)),fun p e j x v h3 h4 h5=> ?_⟩
 · rw[hq,hnl,hoe];exact Src.some hul (fun j v hv=>by
    have hj:=(gS hv).1;rw[hul] at hj;rw[List.getElem?_take,if_pos hj,List.getElem?_drop] at hv;rw[aK,hc _ (gS hv).1];exact hv)
 · have hpl:=(gS h3).1;rw[hnl] at hpl;rw[List.getElem?_take,if_pos hpl,List.getElem?_drop] at h3;have hx:=flat_at es (i+p) j e x hk h3 h4;have hek:e.length=k:=hk e (gE h3);have hjk:=(gS h4).1;have hpj:p*k+j<n*k:=by
    have:(p+1)*k≤n*k:=mR k hpl;rw[Nat.add_mul] at this;omega
   rw[List.getElem?_take,if_pos hpj,List.getElem?_drop] at h5;have hidx:off+(p*k+j)=(i+p)*k+j:=by rw[hoff,Nat.add_mul];omega
   rw[hidx] at h5;have hcs:(⟨ty,.r es.flatten mm⟩:Box).cs[(i+p)*k+j]?=some (.iv x):=by
    simp only[Box.cs_r];rw[gL (by rw[lM];exact(gS hx).1),gP,hx];rfl
   exact(hra.2 _ _ v hcs h5).iv_inv
def Makes.growR
 (ho:o.op= .call {callee:= .builtin .append,args:= #[x,y],argTypes:= #[t,t']}) (ht:P.underlying t=some (.slice e)) (hi0:P.info? e=some i) (hik:i.size=k) (hib:i.bytes=bytes) (hiz:i.zero=some z) (hzk:z.cells.size=k) (hz1: ∀u∈z.cells.toList,u.oneCell'=true)
 (hd:P.underlying t'=some d) (hn:gB d) (hk0:0<k) (hx:st.ev x= .bsl id 0 n cap) (hb:st.bx.lookup id=some ⟨bt,.r es.flatten mm⟩) (hk: ∀e∈es,e.length=k) (hi:n≤es.length) (hcap:cap<n+news.length) (hnk: ∀e∈news,e.length=k) (hy:Adds P c st y k news) (hne:news≠ [])
 (hm:n+news.length≤maxLen) (hby:(n+news.length)*bytes≤140737488355328) (hf:st.fresh id'=true):
 Makes P c st o (.bsh id' 0 (n+news.length) k) ((id',⟨e,.r (es.take n++news).flatten 0⟩)::st.bx) st.tk:=by
 have hl:=ao es hk;have h1:n*k≤es.length*k:=mR k hi;have hold:(((⟨bt,.r es.flatten mm⟩:Box).cs.drop 0).take (n*k))=(es.take n).flatten.map AV.iv:=by
  simp only[Box.cs_r,List.drop_zero];rw[tA (by rw[lM,hl];exact h1),←List.map_take,gY es n hk]
 have h:=Makes.growB (c:=c) ho ht hi0 hik hib hiz hzk hz1 hd hn hk0 hx hb hold (by rw[lM,ao _ (bw hk),lT];congr 1;omega) hcap hnk hy hne hm hby hf U (gg _ _) (gg _ _);exact h.recell U (Subs.of_eq sP)
def Makes.growRZ{kd kd':IntKind}
 (ho:o.op= .call {callee:= .builtin .append,args:= #[x,y],argTypes:= #[t,t']}) (ht:P.underlying t=some (.slice e)) (hi0:P.info? e=some i) (hik:i.size=k) (hib:i.bytes=bytes) (hiz:i.zero=some z) (hzk:z.cells.size=k) (hz1: ∀u∈z.cells.toList,u.oneCell'=true)
 (hd:P.underlying t'=some (.int kd)) (hk0:0<k) (hx:st.ev x= .bsl id 0 n cap) (hb:st.bx.lookup id=some ⟨bt,.r es.flatten mm⟩) (hk: ∀e∈es,e.length=k) (hi:n≤es.length) (hcap:cap<n+m) (hy:st.ev y= .iv (.im (.int kd' (m:Int)))) (hpos:0<m)
 (hm:n+m≤maxLen) (hby:(n+m)*bytes≤140737488355328) (hf:st.fresh id'=true):
 Makes P c st o (.bsh id' 0 (n+m) k) ((id',⟨e,.r (es.take n).flatten (m*k)⟩)::st.bx) st.tk:=by
 have hl:=ao es hk;have h1:n*k≤es.length*k:=mR k hi;have hold:(((⟨bt,.r es.flatten mm⟩:Box).cs.drop 0).take (n*k))=(es.take n).flatten.map AV.iv:=by
  simp only[Box.cs_r,List.drop_zero];rw[tA (by rw[lM,hl];exact h1),←List.map_take,gY es n hk]
 have h:=Makes.growZ (c:=c) ho ht hi0 hik hib hiz hzk hz1 hd hk0 hx hb hold (by rw[lM,ao _ (bw hk),lT];congr 1;omega) hcap hy hpos hm hby hf (gg _ _);exact h.recell U (Subs.of_eq sP)
def Makes.cloneR
 (ho:o.op= .call {callee:= .builtin .append,args:= #[x,y],argTypes:= #[t,t']}) (ht:P.underlying t=some (.slice e)) (hi0:P.info? e=some i) (hik:i.size=k) (hib:i.bytes=bytes) (hiz:i.zero=some z) (hzk:z.cells.size=k) (hz1: ∀u∈z.cells.toList,u.oneCell'=true)
 (hd:P.underlying t'=some d) (hn:gB d) (hk0:0<k) (hx:st.ev x= .bsl id off 0 0) (hnk: ∀e∈news,e.length=k) (hy:Adds P c st y k news) (hne:news≠ [])
 (hm:news.length≤maxLen) (hby:news.length*bytes≤140737488355328) (hf:st.fresh id'=true):
 Makes P c st o (.bsh id' 0 news.length k) ((id',⟨e,.r news.flatten 0⟩)::st.bx) st.tk:=
 (Makes.cloneB (c:=c) ho ht hi0 hik hib hiz hzk hz1 hd hn hk0 hx hnk hy hne hm hby hf U (gg _ _)).recell U (Subs.of_eq sP)
def Makes.nilR
 (ho:o.op= .call {callee:= .builtin .append,args:= #[x,y],argTypes:= #[t,t']}) (ht:P.underlying t=some (.slice e)) (hi0:P.info? e=some i) (hik:i.size=k) (hib:i.bytes=bytes) (hiz:i.zero=some z) (hzk:z.cells.size=k) (hz1: ∀u∈z.cells.toList,u.oneCell'=true)
 (hd:P.underlying t'=some d) (hn:gB d) (hk0:0<k) (hx:st.ev x= .nils) (hnk: ∀e∈news,e.length=k) (hy:Adds P c st y k news) (hne:news≠ [])
 (hm:news.length≤maxLen) (hby:news.length*bytes≤140737488355328) (hf:st.fresh id'=true):
 Makes P c st o (.bsh id' 0 news.length k) ((id',⟨e,.r news.flatten 0⟩)::st.bx) st.tk:=
 (Makes.cloneB0 (c:=c) ho ht hi0 hik hib hiz hzk hz1 hd hn hk0 (fun E a w hi=>by
   have h:=hi.ev x;rw[hx] at h;generalize a.eval x=u at h⊢;cases h;exact⟨none,rfl⟩) hnk hy hne hm hby hf U (gg _ _)).recell U (Subs.of_eq sP)
def Yields.app0{e':TypeId}{k':Nat}(ho:o.op= .call {callee:= .builtin .append,args:= #[x,y],argTypes:= #[t,t']})(hs:bI P t e k=true)(hs':bI P t' e' k'=true)(hx:(st.ev x).sl?=some [])(hy:(st.ev y).sl?=some []):Yields P c st o (.iv (.sl [])):=fun E a w hi=>by
 obtain⟨hu,inf,hinf,hsz⟩:=aH hs;obtain⟨hu',_⟩:=aH hs';have h1:RepI E.φ w (.sl []) (a.eval x):=(hi.ev x).sl hx;have h2:RepI E.φ w (.sl []) (a.eval y):=(hi.ev y).sl hy;have hy2:(Builtin.lenOf (a.eval y)).run P w= .ok 0 w∧(Builtin.firstCells inf.size 0 (a.eval y)).run P w= .ok #[] w:=by
  generalize a.eval y=uy at h2;rcases h2.sl_inv with⟨hq,_⟩|⟨ad,cap,hq,_,_,_⟩|⟨b,o',cap,k',f,hq,hc,_⟩
  · rw[hq];exact⟨rfl,by simp[Builtin.firstCells]⟩
  · rw[hq];exact⟨rfl,by simp[Builtin.firstCells,loadCells,loadCellsFrom]⟩
  · rw[hq];exact⟨rfl,by simp[Builtin.firstCells,loadCells,loadCellsFrom]⟩
 have hap:(Builtin.append_ #[t,t'] o.type #[a.eval x,a.eval y]).run P w= .ok (a.eval x) w:=by
  rcases h1.sl_inv with⟨hq,_⟩|⟨ad,cap,hq,_,_,_⟩|⟨b,o',cap,k',f,hq,hc,_⟩
  · rw[hq];simp[Builtin.append_,run_underlying hu,run_underlying hu',sizeOf,typeInfo,hinf,hy2.1,hy2.2]
  · rw[hq];cases ad<;>simp[Builtin.append_,run_underlying hu,run_underlying hu',sizeOf,typeInfo,hinf,hy2.1,hy2.2,storeCells]
  · rw[hq];simp[Builtin.append_,run_underlying hu,run_underlying hu',sizeOf,typeInfo,hinf,hy2.1,hy2.2,storeCells]
 exact⟨a.eval x,by simp[execOp,ho,resolve,invoke,builtin,hap],.iv h1⟩
end
end
def row_ne{bt:TypeId}{xs:List IV}{mm:Nat}(h:xs≠ [] ∨0<mm):(⟨bt,.r xs mm⟩:Box).cs≠ []:=fun e=>by
 simp only[Box.cs_r,List.append_eq_nil_iff,List.map_eq_nil_iff,List.replicate_eq_nil_iff] at e;rcases h with h|h
 · exact h e.1
 · omega
def Sub.bsl0(id off cap:Nat):Sub (.bsl id off 0 cap) (.iv (.sl [])):=fun E w u h=>by
 obtain⟨o,rfl,hn,hm,_⟩:=h.bsl_inv;exact .iv (.emp (fun h=>by cases h) hm)
section
variable {P:Program}{c:Ctx}{st:St}{ops:Array Oper}{Q:Exit→Act→World→Prop}{rest:List Oper}{o:Oper}
section
variable {a cap d i id j k m mm n n' off:Nat}{args:Array Operand}{NJ:List AV}{ats:Array TypeId}{bt e t ty ty':TypeId}{es:List (List IV)}{f:FuncId}{x y:Operand}{xs ys:List IV}
def Does.storeR{e:List IV}{v:AV}{agg:Bool}(ho:o.op= .store t x y)(ht:nI P t agg k=true)(hx:st.ev x= .ptr id off)(hb:st.bx.lookup id=some ⟨ty,.r es.flatten mm⟩)
 (hy:st.ev y=v) (hv:v.lays=true) (hc:v.cells=e.map .iv) (he:e.length=k) (hk: ∀e∈es,e.length=k) (hoff:off=i*k) (hi:i<es.length):Does P c st o ((id,⟨ty,.r (es.set i e).flatten mm⟩)::st.bx) st.tk:=by
 have hl:=ao es hk;have h1:(i+1)*k≤es.length*k:=mR k hi;rw[Nat.add_mul] at h1;have h:=Does.store (c:=c) ho ht hx hb hy hv (by rw[hc,lM,he]) (by simp only[Box.cs_r,gV,lM,List.length_replicate,hl,hoff];omega);refine h.recell U (Subs.of_eq ?_);have:=uJ (m:=mm) (news:= [e]) (i:=i) hk (by simpa using he) C;have hz:i+1 - es.length=0:=C;simp only[List.flatten_cons,List.flatten_nil,List.append_nil,lC,List.length_nil,Nat.zero_add,hz,Nat.zero_mul,Nat.sub_zero] at this;simp only[Box.cs_l,Box.cs_r,hc,hoff];rw[this,List.set_eq_take_append_cons_drop,if_pos hi];simp
def Yields.load1R{f:Nat}{e:List IV}{y:IV}(ho:o.op= .load t x)(ht:nI P t false 1=true)(hx:st.ev x= .ptr id off)(hb:st.bx.lookup id=some ⟨ty,.r es.flatten mm⟩)
 (hk: ∀e∈es,e.length=k) (hoff:off=i*k+f) (he:es[i]?=some e) (hf:e[f]?=some y):Yields P c st o (.iv y):=by
 refine Yields.load1P ho ht hx hb ?_;have hx:=flat_at es i f e y hk he hf;simp only[Box.cs_r,hoff];rw[gL (by rw[lM];exact(gS hx).1),gP,hx];rfl
def Yields.loadAR{e:List IV}{vs:List AV}(ho:o.op= .load t x)(ht:nI P t true k=true)(hx:st.ev x= .ptr id off)(hb:st.bx.lookup id=some ⟨ty,.r es.flatten mm⟩)
 (hk: ∀e∈es,e.length=k) (hoff:off=i*k) (he:es[i]?=some e) (hv:e.map AV.iv=vs):Yields P c st o (.agg vs):=by
 have hl:=ao es hk;have hi:i<es.length:=(gS he).1;have h1:(i+1)*k≤es.length*k:=mR k hi;rw[Nat.add_mul] at h1;have hp:(((⟨ty,.r es.flatten mm⟩:Box).cs.drop off).take k)=vs:=by
  simp only[Box.cs_r,hoff];rw[List.drop_append_of_le_length (by rw[lM,hl];omega),tA (by rw[lD,lM,hl];omega),←List.map_drop,←List.map_take,sD es i e hk he,hv]
 have:=Yields.loadAP (c:=c) ho ht hx hb (k:=k) (by rw[hp,←hv,lM];exact hk e (gE he));rw[hp] at this;exact this
def Yields.slB3{z u:Operand}{kd kd' kd'':IntKind}{i j m:Int}(ho:o.op= .slice t x (some y) (some z) (some u))(hx:st.ev x= .bsl id off n cap)(hy:st.ev y= .iv (.im (.int kd i)))(hz':st.ev z= .iv (.im (.int kd' j)))(hu':st.ev u= .iv (.im (.int kd'' m)))
 (hs:bI P t e k=true) (h0:0≤i) (h1:i≤j) (h2:j≤m) (h3:m≤cap):Yields P c st o (.bsl id (off+i.toNat*k) (j.toNat - i.toNat) (m.toNat - i.toNat)):=fun E a w hi=>by
 obtain⟨hu,hz⟩:=my hs w;have h:=hi.ev x;rw[hx] at h;obtain⟨o',hq,hn,hm,hoo⟩:=h.bsl_inv;refine⟨_,?_,nh (E:=E) (w:=w) (id:=id) (s:=k) (by omega:i.toNat≤j.toNat) (by omega:j.toNat≤m.toNat) (by omega:m.toNat≤cap) hm hoo⟩;have:=run_slice_lhm (P:=P) w t (some ⟨E.ρ id,o',none⟩) n cap hu kd kd' kd'' i j m h0 h1 h2 h3;simp[execOp,ho,hq,hi.im hy,hi.im hz',hi.im hu',run_sliceAt_slice w t _ _ _ _ hu,this,hz,Result.andThen]
def L.clearR{i:TypeInfo}{z:Value}(hg:o.guard=none)(hd:o.dst=none)(ho:o.op= .call {callee:= .builtin .clear,args:= #[x],argTypes:= #[t]})(ht:P.underlying t=some (.slice e))
 (hi0:P.info? e=some i) (hiz:i.zero=some z) (hzk:z.cells.size=k) (hz1: ∀u∈z.cells.toList,u.oneCell'=true) (hk0:0<k) (hx:st.ev x= .bsl id off n cap) (hb:st.bx.lookup id=some ⟨bt,.r es.flatten mm⟩) (hk: ∀e∈es,e.length=k) (hoff:off=j*k) (hj:j≤es.length) (hn0:0<n) (hle:(j+n)*k≤es.length*k+mm)
 (h:L c ⟨st.fr,(id,⟨bt,.r (es.take j).flatten (es.length*k+mm - j*k)⟩)::st.bx,st.tk⟩ (wpList P ops Q rest)):L c st (wpList P ops Q (o::rest)):=by
 have hl:=ao es hk;have h1:j*k≤es.length*k:=mR k hj;rw[Nat.add_mul] at hle;refine L.clearB hg hd ho ht hi0 hiz hzk hz1 hk0 hx hb hn0 (by simp only[Box.cs_r,gV,lM,List.length_replicate,hl,hoff];exact hle) ?_;rintro a w ⟨E,hi⟩;refine h a w ⟨E,hi.recell U ?_⟩;simp only[Box.cs_l,Box.cs_r,hoff];have htk:(List.map AV.iv es.flatten++List.replicate mm AV.any).take (j*k)=(es.take j).flatten.map AV.iv:=by
  rw[tA (by rw[lM,hl];exact h1),←List.map_take,gY es j hk]
 unfold mb;rw[htk];have hjl:(es.take j).flatten.length=j*k:=by rw[ao _ (bw hk),lT];congr 1;omega
 refine⟨by simp only[gV,lM,List.length_replicate,lD,hl,hjl];omega,fun i x y hx hy=> ?_⟩;rw[List.getElem?_append] at hx hy;split at hx
 · rename_i hlt;rw[if_pos hlt] at hy;rw[hx] at hy;cases hy;exact fR
 · rename_i hlt;rw[if_neg hlt] at hy;simp only[List.getElem?_replicate] at hy;split at hy
   · cases hy;exact Sub.any _
   · cases hy
def Makes.buildR{parts:Array (Nat×Operand)}{zs:List Value}{cs:List AV}(ho:o.op= .buildSlice t n parts)(hs:bI P t e k=true)
 (hz:dy P e=some zs) (h1:zs.all (·.oneCell')=true) (hzl:zs.length=k) (hn:n*k≤16777216) (hnk:0<k)
 (hf:lS (fun i=>some (i*k,k)) ((List.range (n*k)).map fun i=>cz (zs.getD (i % k) undef)) (parts.toList.map fun x=>(x.1,st.ev x.2))=some cs)
 (hcs:cs=es.flatten.map .iv) (hcl:es.flatten.length=n*k) (hfr:st.fresh id=true):Makes P c st o (.bsl id 0 n n) ((id,⟨e,.r es.flatten 0⟩)::st.bx) st.tk:=
 (Makes.buildBox (c:=c) ho hs hz h1 hzl hn hnk hf (by rw[hcs,lM,hcl]) (by rw[hcs];exact gg _ _) hfr).recell U (Subs.of_eq (by simp[hcs]))
def Yields.overlapsR{tr:TypeId}{offi offj capj mm':Nat}{bt':TypeId}(ho:o.op= .call {callee:= .value (.func f),args:= #[x,y],argTypes:=ats})
 (hok:tB P f (Extern.SlicesOverlaps.overlaps #[t,t] #[tr])) (hs:bI P t e k=true) (hx:st.ev x= .bsl i offi n cap) (hy:st.ev y= .bsl j offj m capj) (hij:i≠j) (hb:st.bx.lookup i=some ⟨bt,.r xs mm⟩) (hb':st.bx.lookup j=some ⟨bt',.r ys mm'⟩)
 (hoff:cap≠0) (hin:offi<xs.length) (hne:ys≠ []):Yields P c st o (aB false):=
 Yields.overlapsB (c:=c) ho hok hs hx hy hij hb hb' (fun e=>by simp only[Box.cs_r,List.append_eq_nil_iff,List.map_eq_nil_iff] at e;rw[e.1] at hin;simp at hin)
  (fun e=>by simp only[Box.cs_r,List.append_eq_nil_iff,List.map_eq_nil_iff] at e;exact hne e.1) hoff (by simp only[Box.cs_r,gV,lM];omega)
def L.pubS(K s:Nat){X:Act→World→Prop}{k n:Nat}{ty:TypeId}{es:List (List IV)}{v v':AV}(hin:c.ins.all (fun i=>(i !=K) && (match st.bx.lookup i with|some b=> !b.cs.isEmpty|none=>false))=true)(hb:st.bx.lookup K=some ⟨ty,.r es.flatten 0⟩)(hk: ∀e∈es,e.length=k)(hk0:0<k)(hne:es≠ [])(hn:es.length=n)
 (hs:st.fr.lookup s=some v) (hp:Pub K n k (.sl es) v v') (h:L c ⟨(s,v')::st.fr,(K,⟨ty,.l []⟩)::st.bx,st.tk⟩ X):L c st X:=by
 subst hn;refine L.publishS K s hin hb (xs:=es.flatten) (n:=es.length) (k:=k) ?_ ?_ hk0 (gU hne) hs ?_ h
 · simp only[Box.cs_r,List.replicate_zero,List.append_nil];exact yX _
 · simp only[Box.cs_r,List.replicate_zero,List.append_nil,lM];exact ao es hk
 · rw[oS es hk];exact hp
def L.pubB(K j:Nat){X:Act→World→Prop}{k n:Nat}{ty:TypeId}{es:List (List IV)}{bj:Box}{cs:List AV}(hin:c.ins.all (fun i=>(i !=K) && (match st.bx.lookup i with|some b=> !b.cs.isEmpty|none=>false))=true)(hb:st.bx.lookup K=some ⟨ty,.r es.flatten 0⟩)(hk: ∀e∈es,e.length=k)(hk0:0<k)(hne:es≠ [])(hn:es.length=n)
 (hj:st.bx.lookup j=some bj) (hjn:bj.cs≠ []) (hjk:(j==K)=false) (hp:Pubs K n k (.sl es) bj.cs cs) (h:L c ⟨st.fr,(j,⟨bj.ty,.l cs⟩)::(K,⟨ty,.l []⟩)::st.bx,st.tk⟩ X):L c st X:=by
 subst hn;refine L.publishB K j hin hb (xs:=es.flatten) (n:=es.length) (k:=k) ?_ ?_ hk0 (gU hne) hj hjn hjk ?_ h
 · simp only[Box.cs_r,List.replicate_zero,List.append_nil];exact yX _
 · simp only[Box.cs_r,List.replicate_zero,List.append_nil,lM];exact ao es hk
 · rw[oS es hk];exact hp
def cv(s N:Nat){id cap m k:Nat}{n:Nat}{ty:TypeId}{es:List (List IV)}{X:Act→World→Prop}(hs:st.fr.lookup s=some (.bsl id 0 n cap))(hb:st.bx.lookup id=some ⟨ty,.r es.flatten m⟩)(hf:st.fresh N=true)(hk: ∀e∈es,e.length=k)(hn:es.length=n)(h0:0<n*k)(hcap:cap*k≤n*k+m)
 (h:L c ⟨(s,.bsh N 0 n k)::st.fr,(N,⟨ty,.r es.flatten 0⟩)::(id,⟨ty,.l []⟩)::st.bx,st.tk⟩ X):L c st X:=by
 have hl:es.flatten.length=n*k:=by rw[ao es hk,hn]
 refine L.rename s N k hs hb hf (.inl (fun e=>by rw[e] at hl;simp at hl;omega)) (by rw[hl];exact hcap) ?_;rw[tL (by rw[hl];exact Nat.le_refl _)];exact h
def AV.mentsIn_iv(l:List Nat): ∀xs:List IV,AV.mentsIn l (xs.map .iv)=true
 | [] =>rfl
 |x::xs=>by simp[AV.mentsIn,AV.mentIn,mentsIn_iv l xs]
def AV.mentsIn_any(l:List Nat): ∀m:Nat,AV.mentsIn l (List.replicate m .any)=true
 |0=>rfl
 |m+1=>by simp[List.replicate_succ,AV.mentsIn,AV.mentIn,mentsIn_any l m]
def AV.mentsIn_app(l:List Nat): ∀(a b:List AV),AV.mentsIn l (a++b)=(AV.mentsIn l a && AV.mentsIn l b)
 | [],b=>by simp[AV.mentsIn]
 |x::a,b=>by simp[AV.mentsIn,mentsIn_app l a b,Bool.and_assoc]
def oF{b:Box}(hf:st.fresh d=true)(hb:st.bx.lookup id=some b):id≠d:=(St.fresh_bx hf hb).1
def L.call01(hg:o.guard=none)(hd:o.dst=some d)(hlt:Nat.ble (d+1) c.nt=true)(ho:o.op= .call {callee:= .value (.func f),args:=args,argTypes:=ats})(hok:dQ P f=true)
 (hc:CallA P f NJ [] [(1000,⟨ty,.r xs 0⟩)] [] (.bsh 1000 0 n k)) (ha:AV.pub.pubs (args.toList.map st.ev)=NJ) (hm:AV.mentsIn [] NJ=true) (hf:st.fresh d=true)
 (h:L c ⟨(d,.bsh d 0 n k)::st.fr,(d,⟨ty,.r xs 0⟩)::st.bx,st.tk⟩ (wpList P ops Q rest)):L c st (wpList P ops Q (o::rest)):=by
 have hs:Abs.sws [(1000,d)] 1000=d:=by simp[Abs.sws,sw]
 have h2:=hc.sws [(1000,d)] (AV.rens_id NJ hm) (bx2:= []) (bx2':= [(d,⟨ty,.r xs 0⟩)]) (tk2':= []) (res2:= .bsh d 0 n k) U (by simp[eL,hs,Box.ren]) U (by simp[AV.ren,hs]);exact js (bxi:= []) [d] hg hd hlt ho hok h2 (.of_pub ha) .nil (by simp[hf]) (by simp[dW,keys]) U (by simp[AV.mentsIn_iv]) (by simp[AV.mentIn]) h
def L.call02{k':Nat}{xs':List IV}(hg:o.guard=none)(hd:o.dst=some d)(hlt:Nat.ble (d+1) c.nt=true)(ho:o.op= .call {callee:= .value (.func f),args:=args,argTypes:=ats})(hok:dQ P f=true)
 (hc:CallA P f NJ [] [(1000,⟨ty,.r xs 0⟩),(1001,⟨ty',.r xs' 0⟩)] [] (.agg [.bsh 1000 0 n k,.bsh 1001 0 n' k'])) (ha:AV.pub.pubs (args.toList.map st.ev)=NJ) (hm:AV.mentsIn [] NJ=true) (hf:st.fresh d=true) (hf':st.fresh (d+2000)=true)
 (h:L c ⟨(d,.agg [.bsh d 0 n k,.bsh (d+2000) 0 n' k'])::st.fr,(d,⟨ty,.r xs 0⟩)::(d+2000,⟨ty',.r xs' 0⟩)::st.bx,st.tk⟩ (wpList P ops Q rest)):L c st (wpList P ops Q (o::rest)):=by
 have hs:Abs.sws [(1001,d+2000),(1000,d)] 1000=d:=nW dD (iW _ _ _) C;have hs':Abs.sws [(1001,d+2000),(1000,d)] 1001=d+2000:=iW _ _ _;have h2:=hc.sws [(1001,d+2000),(1000,d)] (AV.rens_id NJ hm) (bx2:= []) (bx2':= [(d,⟨ty,.r xs 0⟩),(d+2000,⟨ty',.r xs' 0⟩)]) (tk2':= []) (res2:= .agg [.bsh d 0 n k,.bsh (d+2000) 0 n' k']) U (by simp[eL,hs,hs',Box.ren]) U (by simp[AV.ren,AV.rens,hs,hs']);exact js (bxi:= []) [d,d+2000] hg hd hlt ho hok h2 (.of_pub ha) .nil (by simp[hf,hf']) (by simp[dW,keys]) U (by simp[AV.mentsIn_iv]) (by simp[AV.mentIn,AV.mentsIn]) h
def L.call11(hg:o.guard=none)(hd:o.dst=some d)(hlt:Nat.ble (d+1) c.nt=true)(ho:o.op= .call {callee:= .value (.func f),args:=args,argTypes:=ats})(hok:dQ P f=true)
 (hc:CallA P f (.bsh 1000 0 n k::NJ) [(1000,⟨ty,.r xs 0⟩)] [(1001,⟨ty,.r ys 0⟩),(1000,⟨ty,.l []⟩)] [] (.bsh 1001 0 n' k)) (ha:AV.pub.pubs (args.toList.map st.ev)= .bsh a 0 n k::NJ) (hb:st.bx.lookup a=some ⟨ty,.r xs 0⟩) (hx:xs≠ []) (hm:AV.mentsIn [] NJ=true) (hf:st.fresh d=true)
 (h:L c ⟨(d,.bsh d 0 n' k)::st.fr,(d,⟨ty,.r ys 0⟩)::(a,⟨ty,.l []⟩)::st.bx,st.tk⟩ (wpList P ops Q rest)):L c st (wpList P ops Q (o::rest)):=by
 have hne:=oF hf hb;have hs:Abs.sws [(1001,d),(1000,a)] 1000=a:=nW dD (iW _ _ _) hne;have hs':Abs.sws [(1001,d),(1000,a)] 1001=d:=iW _ _ _;have h2:=hc.sws [(1001,d),(1000,a)] (args2:= .bsh a 0 n k::NJ) (bx2:= [(a,⟨ty,.r xs 0⟩)]) (bx2':= [(d,⟨ty,.r ys 0⟩),(a,⟨ty,.l []⟩)]) (tk2':= []) (res2:= .bsh d 0 n' k) (by simp[AV.rens,AV.ren,hs,AV.rens_id NJ hm]) (by simp[eL,hs,Box.ren]) (by simp[eL,hs,hs',Box.ren,AV.rens]) U (by simp[AV.ren,hs']);have hn: ¬(xs= [] ∧True):=fun h=>hx h.1
 exact js (bxi:= [(a,⟨ty,.r xs 0⟩)]) [d] hg hd hlt ho hok h2 (.of_pub ha) (.cons hb U fS .nil) (by simp[hf]) (by simp[dW,keys,hx]) U (by simp[AV.mentsIn_iv,AV.mentsIn]) (by simp[AV.mentIn]) h
def L.call10{res:IV}(hg:o.guard=none)(hd:o.dst=some d)(hlt:Nat.ble (d+1) c.nt=true)(ho:o.op= .call {callee:= .value (.func f),args:=args,argTypes:=ats})(hok:dQ P f=true)
 (hc:CallA P f (.bsh 1000 0 n k::NJ) [(1000,⟨ty,.r xs 0⟩)] [(1000,⟨ty,.l []⟩)] [] (.iv res)) (ha:AV.pub.pubs (args.toList.map st.ev)= .bsh a 0 n k::NJ) (hb:st.bx.lookup a=some ⟨ty,.r xs 0⟩) (hx:xs≠ []) (hm:AV.mentsIn [] NJ=true)
 (h:L c ⟨(d,.iv res)::st.fr,(a,⟨ty,.l []⟩)::st.bx,st.tk⟩ (wpList P ops Q rest)):L c st (wpList P ops Q (o::rest)):=by
 have hs:Abs.sws [(1000,a)] 1000=a:=by simp[Abs.sws,sw]
 have h2:=hc.sws [(1000,a)] (args2:= .bsh a 0 n k::NJ) (bx2:= [(a,⟨ty,.r xs 0⟩)]) (bx2':= [(a,⟨ty,.l []⟩)]) (tk2':= []) (res2:= .iv res) (by simp[AV.rens,AV.ren,hs,AV.rens_id NJ hm]) (by simp[eL,hs,Box.ren]) (by simp[eL,hs,Box.ren,AV.rens]) U U;exact js (bxi:= [(a,⟨ty,.r xs 0⟩)]) [] hg hd hlt ho hok h2 (.of_pub ha) (.cons hb U fS .nil) U (by simp[dW,keys,hx]) U (by simp[AV.mentsIn]) (by simp[AV.mentIn]) h
def L.call21{i:AV}{v:Nat}{vs:List IV}(hg:o.guard=none)(hd:o.dst=some d)(hlt:Nat.ble (d+1) c.nt=true)(ho:o.op= .call {callee:= .value (.func f),args:=args,argTypes:=ats})(hok:dQ P f=true)
 (hc:CallA P f [.bsh 1000 0 n k,i,.bsl 1001 0 m m] [(1000,⟨ty,.r xs 0⟩),(1001,⟨ty',.r vs 0⟩)] [(1002,⟨ty,.r ys 0⟩),(1000,⟨ty,.l []⟩),(1001,⟨ty',.l []⟩)] [] (.bsh 1002 0 n' k)) (ha:AV.pub.pubs (args.toList.map st.ev)= [.bsh a 0 n k,i,.bsl v 0 m m])
 (hb:st.bx.lookup a=some ⟨ty,.r xs 0⟩) (hb':st.bx.lookup v=some ⟨ty',.r vs 0⟩) (hx:xs≠ []) (hv:vs≠ []) (hav:(a==v)=false) (hm:AV.mentIn [] i=true) (hf:st.fresh d=true)
 (h:L c ⟨(d,.bsh d 0 n' k)::st.fr,(d,⟨ty,.r ys 0⟩)::(a,⟨ty,.l []⟩)::(v,⟨ty',.l []⟩)::st.bx,st.tk⟩ (wpList P ops Q rest)):L c st (wpList P ops Q (o::rest)):=by
 have hne:=oF hf hb;have hne':=oF hf hb';have hav':a≠v:=by simpa using hav
 have hs:Abs.sws [(1002,d),(1001,v),(1000,a)] 1000=a:=nW dD (nW dD (iW _ _ _) hav') hne;have hs1:Abs.sws [(1002,d),(1001,v),(1000,a)] 1001=v:=nW dD (iW _ _ _) hne';have hs2:Abs.sws [(1002,d),(1001,v),(1000,a)] 1002=d:=iW _ _ _;have h2:=hc.sws [(1002,d),(1001,v),(1000,a)] (args2:= [.bsh a 0 n k,i,.bsl v 0 m m]) (bx2:= [(a,⟨ty,.r xs 0⟩),(v,⟨ty',.r vs 0⟩)]) (bx2':= [(d,⟨ty,.r ys 0⟩),(a,⟨ty,.l []⟩),(v,⟨ty',.l []⟩)]) (tk2':= []) (res2:= .bsh d 0 n' k)
  (by simp[AV.rens,AV.ren,hs,hs1,AV.ren_id i hm]) (by simp[eL,hs,hs1,Box.ren]) (by simp[eL,hs,hs1,hs2,Box.ren,AV.rens]) U (by simp[AV.ren,hs2])
 exact js (bxi:= [(a,⟨ty,.r xs 0⟩),(v,⟨ty',.r vs 0⟩)]) [d] hg hd hlt ho hok h2 (.of_pub ha) (.cons hb U fS (.cons hb' U fS .nil)) (by simp[hf]) (by simp[dW,keys,hx,hv]) U (by simp[AV.mentsIn_iv,AV.mentsIn]) (by simp[AV.mentIn]) h
end
end
mutual
def jy{l:List Nat}: ∀(v:AV),AV.mentIn [] v=true→AV.mentIn l v=true
 | .any,_=>rfl
 | .iv _,_=>rfl
 | .nils,_=>rfl
 | .emp,_=>rfl
 | .el _,_=>rfl
 | .row i _,h=>by simp[AV.mentIn] at h
 | .ptr i _,h=>by simp[AV.mentIn] at h
 | .bsl i _ _ _,h=>by simp[AV.mentIn] at h
 | .bsh i _ _ _,h=>by simp[AV.mentIn] at h
 | .agg cs,h=>by simp only[AV.mentIn] at h⊢;exact fM cs h
 | .tup cs,h=>by simp only[AV.mentIn] at h⊢;exact fM cs h
 | .fn _ cs,h=>by simp only[AV.mentIn] at h⊢;exact fM cs h
 | .opt _ v,h=>by simp only[AV.mentIn] at h⊢;exact jy v h
def fM{l:List Nat}: ∀(vs:List AV),AV.mentsIn [] vs=true→AV.mentsIn l vs=true
 | [],_=>rfl
 |v::vs,h=>by
  simp only[AV.mentsIn,aE] at h⊢;exact⟨jy v h.1,fM vs h.2⟩
end
section
variable {P:Program}{c:Ctx}{st:St}{ops:Array Oper}{Q:Exit→Act→World→Prop}{rest:List Oper}{o:Oper}
def Yields.capNil{t:TypeId}{x:Operand}(ho:o.op= .call {callee:= .builtin .cap,args:= #[x],argTypes:= #[t]}){e:TypeId}{k:Nat}(hs:bI P t e k=true)(hx:st.ev x= .nils):Yields P c st o (aI 0):=
 .im U fun E a w hi=>by
   obtain⟨hu,_⟩:=aH hs;have h:=hi.ev x;rw[hx] at h;have hq:a.eval x= .slice none 0 0:=by generalize a.eval x=u at h;cases h;rfl
   simp[execOp,ho,resolve,invoke,builtin,hq,Builtin.cap_,run_underlying hu,goInt]
def Yields.slNil{x y:Operand}{t e:TypeId}{k:Nat}{kd:IntKind}{j:Int}(ho:o.op= .slice t x none (some y) none)(hx:st.ev x= .nils)(hy:st.ev y= .iv (.im (.int kd j)))(hs:bI P t e k=true)(h0:j=0):Yields P c st o .nils:=fun E a w hi=>by
 obtain⟨hu,hz⟩:=my hs w;have h:=hi.ev x;rw[hx] at h;have hq:a.eval x= .slice none 0 0:=by generalize a.eval x=u at h;cases h;rfl
 refine⟨_,?_,.nils⟩;subst h0;have:=run_slice_h (P:=P) w t none 0 0 hu kd 0 C C;simp[execOp,ho,hq,hi.im hy,run_sliceAt_slice w t _ _ _ _ hu,this,hz,Result.andThen,sliced]
def Yields.slBshH{x y:Operand}{t e:TypeId}{k id n:Nat}{kd:IntKind}{j:Int}(ho:o.op= .slice t x none (some y) none)(hx:st.ev x= .bsh id 0 n k)(hy:st.ev y= .iv (.im (.int kd j)))(hs:bI P t e k=true)
 (h0:0≤j) (h1:j≤n):Yields P c st o (.bsh id 0 j.toNat k):=fun E a w hi=>by
 obtain⟨hu,hz⟩:=my hs w;have h:=hi.ev x;rw[hx] at h;obtain⟨cap,o',hq,hn,hm,he,hoo⟩:=h.bsh_inv;simp only[Nat.sub_zero,Nat.zero_mul,Nat.zero_add] at hq hn hoo;have:=run_slice_h (P:=P) w t (some ⟨E.ρ id,o',none⟩) n cap hu kd j h0 C;have hs2:sliced (some ⟨E.ρ id,o',none⟩) 0 j.toNat cap k= .slice (some ⟨E.ρ id,o',none⟩) j.toNat cap:=by
  unfold sliced;by_cases e:cap=0
  · rw[if_pos e];have:j.toNat=0:=C;simp[this,e]
  · rw[if_neg e];simp[aK]
 refine⟨.slice (some ⟨E.ρ id,o',none⟩) j.toNat cap,?_,.bsh (cap:=cap) (o:=o') C hm he (fun h=>by simpa using hoo C) sP⟩;simp[execOp,ho,hq,hi.im hy,run_sliceAt_slice w t _ _ _ _ hu,this,hz,Result.andThen,hs2]
def Makes.growNZ{t t' e:TypeId}{kd kd':IntKind}{x y:Operand}{m:Nat}{id' k bytes:Nat}{i:TypeInfo}{z:Value}
 (ho:o.op= .call {callee:= .builtin .append,args:= #[x,y],argTypes:= #[t,t']}) (ht:P.underlying t=some (.slice e)) (hi0:P.info? e=some i) (hik:i.size=k) (hib:i.bytes=bytes) (hiz:i.zero=some z) (hzk:z.cells.size=k) (hz1: ∀u∈z.cells.toList,u.oneCell'=true)
 (hd:P.underlying t'=some (.int kd)) (hk0:0<k) (hx:st.ev x= .nils) (hy:st.ev y= .iv (.im (.int kd' (m:Int)))) (hpos:0<m)
 (hm:m≤maxLen) (hby:m*bytes≤140737488355328) (hf:st.fresh id'=true):
 Makes P c st o (.bsh id' 0 m k) ((id',⟨e,.r [] (m*k)⟩)::st.bx) st.tk:=fun E a w hi=>by
 subst hik;subst hib;have hyq:=hi.im hy;have h:=hi.ev x;rw[hx] at h;have hq:a.eval x= .slice none 0 0:=by generalize a.eval x=u at h;cases h;rfl
 have hexec:(execOp a.eval o).run P w=((Builtin.append_ #[t,t'] o.type #[a.eval x,a.eval y]).run P w).andThen fun v w'=> .ok (.value v) w':=by
  simp[execOp,ho,resolve,invoke,builtin]
 have hrun:=Lib.run_append_grow_zeros w t t' o.type e i z kd' kd ht hd hi0 hiz none 0 0 [] (by simp[Builtin.firstCells]) m hpos hk0 C (by simp only[maxLen] at hm;omega) C (growslice_fits C (by simpa using hby));simp only[Nat.zero_add] at hrun;have hge:m≤grownCap w m 0 e:=grownCap_ge _ _ _ _;have hcm:=grownCap_le_maxLen w m 0 e hm;have hlen:((Builtin.zeroCells z.cells m).toList++(Builtin.zeroCells z.cells (grownCap w m 0 e - m)).toList).length=grownCap w m 0 e*i.size:=by
  simp only[gV,Array.length_toList,size_zeroCells,hzk];rw[←Nat.add_mul];congr 1;omega
 have hul:(Builtin.zeroCells z.cells m).toList.length=m*i.size:=by rw[Array.length_toList,size_zeroCells,hzk]
 have hz0: ∀(q:Nat) (u:Value),u∈(Builtin.zeroCells z.cells q).toList→u.oneCell'=true:=fun q u hu=>by
  simp only[Builtin.zeroCells,Array.toList_map,Array.toList_range,List.mem_map,List.mem_range] at hu;obtain⟨p,_,rfl⟩:=hu;have hlt:p % z.cells.size<z.cells.size:=Nat.mod_lt _ (by rw[hzk];exact hk0);rw[getElem!_pos z.cells _ hlt];exact hz1 _ sP
 have hi':=hi.drew.newRoom hf (ty:=e) (cs:=List.replicate (m*i.size) AV.any) (us:=(Builtin.zeroCells z.cells m).toList++(Builtin.zeroCells z.cells (grownCap w m 0 e - m)).toList) (rB i.size (grownCap w m 0 e))
  (by rw[hlen,List.length_replicate];exact mR _ hge)
  (fun p x u hx hu=>by
    simp only[List.getElem?_replicate] at hx;split at hx
    · cases hx;exact .any
    · cases hx)
  (fun u hu=>by
    rcases mA hu with hu|hu
    · exact hz0 _ u hu
    · exact hz0 _ u hu)
  (sn _ _) (fun k' cap' he=>by
    obtain⟨rfl,rfl⟩:=na he;exact Nat.le_of_eq hlen.symm)
 refine⟨_,_,_,?_,hi'.recell (b':=⟨e,.r [] (m*i.size)⟩) U (Subs.of_eq sP),.bsh (cap:=grownCap w m 0 e) (o:=0) C hcm (by simp[Env.upd]) (fun _=>by simp) U⟩;rw[hexec,hq,hyq,hrun];simp[Env.upd];congr 2
 apply Array.ext';simp
def L.appendH(N:Nat){t t' e:TypeId}{dd:TypeDesc}{x y:Operand}{id k bytes d:Nat}{i:TypeInfo}{z:Value}{n mm:Nat}{es news:List (List IV)}(hg:o.guard=none)(hdst:o.dst=some d)(hlt:Nat.ble (d+1) c.nt=true)
 (ho:o.op= .call {callee:= .builtin .append,args:= #[x,y],argTypes:= #[t,t']}) (ht:P.underlying t=some (.slice e)) (hi0:P.info? e=some i) (hik:i.size=k) (hib:i.bytes=bytes) (hiz:i.zero=some z) (hzk:z.cells.size=k) (hz1: ∀u∈z.cells.toList,u.oneCell'=true)
 (hd:P.underlying t'=some dd) (hn:gB dd) (hk0:0<k) (hx:st.ev x= .bsh id 0 n k) (hb:st.bx.lookup id=some ⟨e,.r es.flatten mm⟩) (hbn:es.flatten≠ [] ∨0<mm) (hk: ∀e∈es,e.length=k) (hnle:n≤es.length) (hnk: ∀e∈news,e.length=k) (hy:Adds P c st y k news) (hne:news≠ [])
 (hm:n+news.length≤maxLen) (hby:(n+news.length)*bytes≤140737488355328) (hf:st.fresh N=true)
 (h:L c ⟨(d,.bsh N 0 (n+news.length) k)::st.fr,(N,⟨e,.r (es.take n++news).flatten 0⟩)::(id,⟨e,.l []⟩)::st.bx,st.tk⟩ (wpList P ops Q rest)):L c st (wpList P ops Q (o::rest)):=by
 subst hik;subst hib;rintro a w ⟨E,hi⟩;have hbn':=Go.Abs.row_ne (bt:=e) hbn;have hne':id≠N:=(St.fresh_bx hf hb).1;have hv:=hi.ev x;rw[hx] at hv;obtain⟨cap,o',hq,hn1,hmx,he,hoo⟩:=hv.bsh_inv;simp only[Nat.sub_zero,Nat.zero_mul,Nat.zero_add] at hq hn1 hoo;have hfl:=ao es hk;have hnl:=ao news hnk;have hpos:0<news.length:=gU hne;have htl:((es.take n).flatten).length=n*i.size:=by rw[ao _ (bw hk),lT];congr 1;omega
 have hkr: ∀e∈es.take n++news,e.length=i.size:=fun e he=>by
  rcases mA he with h|h
  · exact hk e (mT h)
  · exact hnk e h
 have hrl:(es.take n++news).length=n+news.length:=by simp;omega
 have hrf:(es.take n++news).flatten.length=(n+news.length)*i.size:=by rw[ao _ hkr,hrl]
 by_cases hroom:n+news.length≤cap
 ·
  have hoe:o'=0:=hoo C;subst hoe;obtain⟨us,hsrc,hul,h1u,hur⟩:=hy E a w hi;obtain⟨h0,arr,ha,hla,h1,hra,hη⟩:=hi.heap.box id _ hb hbn';have hcap:=hη i.size cap he;have hmul:(n+news.length)*i.size≤cap*i.size:=mR _ hroom;rw[Nat.add_mul] at hmul;have hap:=yI (ty:=o.type) ht hd hn hi0 hsrc.1 hsrc.2.1 ha h1u hroom (n:=n) (by rw[hul];simp;omega);have hrun:(execOp a.eval o).run P w= .ok (.value (.slice (some ⟨E.ρ id,0,none⟩) (n+news.length) cap)) (w.setRow (E.ρ id) ((arr.take (n*i.size)++us++arr.drop (n*i.size+us.length)).toArray)):=by
   simp[execOp,ho,resolve,invoke,builtin,hq,hap]
  have hrel:RelL E w ((es.take n++news).flatten.map .iv++List.replicate (arr.length - (n+news.length)*i.size) .any) (arr.take (n*i.size)++us++arr.drop (n*i.size+us.length)):=by
   refine⟨by simp only[gV,lM,List.length_replicate,lT,lD,hrf,hul,Nat.add_mul];omega,fun p x u hxp hup=> ?_⟩;rw[List.getElem?_append] at hxp;split at hxp
   · rename_i hlt';rw[lM,hrf,Nat.add_mul] at hlt';rw[gP,Option.map_eq_some_iff] at hxp;obtain⟨y0,hy0,rfl⟩:=hxp;rw[List.flatten_append,List.getElem?_append,htl] at hy0;rw[List.append_assoc,List.getElem?_append,lT] at hup;by_cases hp:p<n*i.size
     · rw[if_pos hp] at hy0;rw[if_pos C,List.getElem?_take,if_pos hp] at hup;refine hra p _ u ?_ hup;rw[←gY es n hk,List.getElem?_take,if_pos hp] at hy0;simp only[Box.cs_r];rw[gL (by rw[lM];exact(gS hy0).1),gP,hy0];rfl
     · rw[if_neg hp] at hy0;rw[if_neg C] at hup;have:min (n*i.size) arr.length=n*i.size:=C;rw[this,gL (by rw[hul];omega)] at hup;obtain⟨e',h2,h3⟩:=lQ hk0 news _ y0 hnk hy0;have hpp:(p - n*i.size) / i.size*i.size+(p - n*i.size) % i.size=p - n*i.size:=by rw[Nat.mul_comm];exact Nat.div_add_mod _ _
       exact .iv (hur _ e' _ y0 u h2 h3 (by rw[hpp];exact hup))
   · simp only[List.getElem?_replicate] at hxp;split at hxp
     · cases hxp;exact .any
     · cases hxp
  have hus1: ∀u∈arr.take (n*i.size)++us++arr.drop (n*i.size+us.length),u.oneCell'=true:=fun u hu=>by
   rcases mA hu with hu|hu
   · rcases mA hu with hu|hu
     · exact h1 u (mT hu)
     · exact h1u u hu
   · exact h1 u (mD hu)
  have husl:(arr.take (n*i.size)++us++arr.drop (n*i.size+us.length)).length=arr.length:=by
   simp only[gV,lT,lD,hul];omega
  have hi2:=(hi.setBox hb hbn' (arr:=arr) (rest:= []) (by simpa using ha) sP husl hrel hus1).recell (b':=⟨e,.r (es.take n++news).flatten (arr.length - (n+news.length)*i.size)⟩) U (Subs.of_eq U);rw[List.append_nil] at hi2;refine wpList_plain hg (fun K hK=>en hrun (hK _ _ ?_));rw[hdst];have hXn:(es.take n++news).flatten≠ []:=fun e0=>by
   rw[e0] at hrf;have:0<(n+news.length)*i.size:=Nat.mul_pos C hk0;simp at hrf;omega
  have hL:L c ⟨(d,.bsl id 0 (n+news.length) cap)::st.fr,(id,⟨e,.r (es.take n++news).flatten (arr.length - (n+news.length)*i.size)⟩)::st.bx,st.tk⟩ (wpList P ops Q rest):=by
   refine L.rename d N i.size aj aj ?_ (.inl hXn) (by rw[hrf,Nat.add_mul];omega) ?_
   · simp only[St.fresh,List.all_cons,AV.ment,Box.ment] at hf⊢;simp only[aE] at hf⊢;have e1:(id==N)=false:=by simpa using hne'
     have e2:(id !=N)=true:=by simpa using hne'
     simp[e1,e2,hf.1.1,hf.1.2,hf.2]
   refine L.wk (st':=⟨(d,.bsh N 0 (n+news.length) i.size)::st.fr,(N,⟨e,.r (es.take n++news).flatten 0⟩)::(id,⟨e,.l []⟩)::st.bx,st.tk⟩) ⟨fun i hin=> ?_,fun s v hs=> ?_,fun i b hi=> ?_,fun i t h=>h⟩ h
   · have h3:=(hi2.heap.ins i hin).2.2;simp only at h3⊢;by_cases e1:i=N
     · subst e1;rw[aj];rfl
     · rw[aa e1];by_cases e2:i=id
       · subst e2;rw[aj];rfl
       · rw[aa e2] at h3⊢;exact h3
   · simp only at hs⊢;by_cases e1:s=d
     · subst e1;rw[aj] at hs⊢;exact⟨v,hs,Sub.refl _⟩
     · rw[aa e1] at hs;rw[aa e1,aa e1];exact⟨v,hs,Sub.refl _⟩
   · simp only at hi⊢;by_cases e1:i=N
     · subst e1;rw[aj] at hi⊢;cases hi;exact⟨_,rfl,rfl,Subs.of_eq (by rw[Box.cs_r,Box.cs_r,tL (by rw[hrf];exact Nat.le_refl _)])⟩
     · rw[aa e1] at hi⊢;by_cases e2:i=id
       · subst e2;rw[aj] at hi⊢;exact⟨b,hi,rfl,Subs.refl _⟩
       · rw[aa e2] at hi;rw[aa e2,aa e2];exact⟨b,hi,rfl,Subs.refl _⟩
  exact hL _ _ ⟨E,hi2.put (st:=⟨st.fr,_,st.tk⟩) (bT hlt) (.bsl (o:=0) hroom hmx (fun _=>rfl) U)⟩
 ·
  have hold:(((⟨e,.r es.flatten mm⟩:Box).cs.drop 0).take (n*i.size))=(es.take n).flatten.map AV.iv:=by
   simp only[Box.cs_r,List.drop_zero];have:n*i.size≤es.length*i.size:=mR _ hnle;rw[tA (by rw[lM,hfl];exact this),←List.map_take,gY es n hk]
  obtain⟨u,E',w',hrun,hi2,hu⟩:=vN (c:=c) hi ho ht hi0 U U hiz hzk hz1 hd hn hk0 hq hoo hn1 hb hold (by rw[lM,htl]) C hnk hy hne hm hby hf U (gg _ _) (gg _ _);have hi3:=hi2.recell (b':=⟨e,.r (es.take n++news).flatten 0⟩) U (Subs.of_eq sP);refine wpList_plain hg (fun K hK=>en hrun (hK _ _ ?_));rw[hdst];have hL:L c ⟨(d,.bsh N 0 (n+news.length) i.size)::st.fr,(N,⟨e,.r (es.take n++news).flatten 0⟩)::st.bx,st.tk⟩ (wpList P ops Q rest):=by
   refine cT id (b:=⟨e,.r es.flatten mm⟩) (by simp only;rw[aa hne'];exact hb) hbn' ?_;refine L.wk (st':=⟨(d,.bsh N 0 (n+news.length) i.size)::st.fr,(N,⟨e,.r (es.take n++news).flatten 0⟩)::(id,⟨e,.l []⟩)::st.bx,st.tk⟩) ⟨fun i hin=> ?_,fun s v hs=>⟨v,hs,Sub.refl _⟩,fun i b hi=> ?_,fun i t h=>h⟩ h
   · have h3:=(hi3.heap.ins i hin).2.2;simp only at h3⊢;by_cases e1:i=N
     · subst e1;rw[aj];rfl
     · rw[aa e1] at h3⊢;by_cases e2:i=id
       · subst e2;rw[aj];rfl
       · rw[aa e2];exact h3
   · simp only at hi⊢;by_cases e1:i=N
     · subst e1;rw[aj] at hi;rw[aa (Ne.symm hne'),aj];exact⟨b,hi,rfl,Subs.refl _⟩
     · rw[aa e1] at hi;by_cases e2:i=id
       · subst e2;rw[aj] at hi⊢;exact⟨b,hi,rfl,Subs.refl _⟩
       · rw[aa e2] at hi;rw[aa e2,aa e1];exact⟨b,hi,rfl,Subs.refl _⟩
  exact hL _ _ ⟨E',hi3.put (st:=⟨st.fr,_,st.tk⟩) (bT hlt) hu⟩
def LO(P:Program)(x:Code)(Q:Exit→Act→World→Prop):Nat→Act→World→Prop
 |0=>fun _ _=>False
 |n+1=>x.wp P (Exit.then (LO P x Q n) Q)
def MK{x:Code}{n:Nat}(h:L c st (x.wp P (Exit.then (LO P x Q n) Q))):L c st (LO P x Q (n+1)):=h
def L.unroll(n:Nat){x:Code}(h:L c st (LO P x Q n)):L c st ((Code.loop x).wp P Q):=by
 have key: ∀(n:Nat) (a:Act) (w:World),LO P x Q n a w→ ∀(b:Frame) (k:List Item) (cs:List Frame),
  ∃e a' w',Q e a' w'∧Arrives P (lone (b.at a (.code x:: .inLoop x::k)) cs w) b k cs e a' w':=by
  intro n;induction n with
  |zero=>intro a w h;exact h.elim
  |succ n ih=>
   intro a w hr b k cs;obtain⟨e,a₁,w₁,hq,harr⟩:=hr b (.inLoop x::k) cs;cases e with
   |normal=>
    obtain⟨e₂,a₂,w₂,hq₂,harr₂⟩:=ih a₁ w₁ hq b k cs;exact⟨e₂,a₂,w₂,hq₂,.of_steps (Steps.trans harr (.one step_inLoop)) harr₂⟩
   |exit id=>exact⟨_,a₁,w₁,hq,.pass (x:= .inLoop x) U (fun _ _=> .inl sP) harr⟩
   |goto l=>exact⟨_,a₁,w₁,hq,.pass (x:= .inLoop x) U (fun _ _=> .inl sP) harr⟩
   |ret=>exact⟨_,a₁,w₁,hq,.pass (x:= .inLoop x) U (fun _ _=> .inl sP) harr⟩
   |panic ch=>exact⟨_,a₁,w₁,hq,.pass (x:= .inLoop x) U (fun _ _=> .inl sP) harr⟩
   |outgrown=>exact⟨_,a₁,w₁,hq,.pass (x:= .inLoop x) U (fun _ _=> .inl sP) harr⟩
 intro a w hr b k cs;obtain⟨e,a',w',hq,harr⟩:=key n a w (h a w hr) b k cs;exact⟨e,a',w',hq,.of_steps (.one step_loop) harr⟩
def L.call01N{f:FuncId}{args:Array Operand}{ats:Array TypeId}{NJ:List AV}{d k n m:Nat}{ty:TypeId}{xs:List IV}(hg:o.guard=none)(hd:o.dst=some d)(hlt:Nat.ble (d+1) c.nt=true)(ho:o.op= .call {callee:= .value (.func f),args:=args,argTypes:=ats})(hok:dQ P f=true)
 (hc:CallA P f NJ [] [(1000,⟨ty,.r xs m⟩)] [] (.bsh 1000 0 n k)) (ha:args.toList.map st.ev=NJ) (hm:AV.mentsIn [] NJ=true) (hf:st.fresh d=true)
 (h:L c ⟨(d,.bsh d 0 n k)::st.fr,(d,⟨ty,.r xs m⟩)::st.bx,st.tk⟩ (wpList P ops Q rest)):L c st (wpList P ops Q (o::rest)):=by
 have hs:Abs.sws [(1000,d)] 1000=d:=iW _ _ _;have h2:=hc.sws [(1000,d)] (AV.rens_id NJ hm) (bx2:= []) (bx2':= [(d,⟨ty,.r xs m⟩)]) (tk2':= []) (res2:= .bsh d 0 n k) U (by simp[eL,hs,Box.ren]) U (by simp[AV.ren,hs]);exact js (bxi:= []) [d] hg hd hlt ho hok h2 (ha▸Subs.refl _) .nil (by simp[hf]) (by simp[dW,keys]) U (by simp[AV.mentsIn_iv,AV.mentsIn_app,AV.mentsIn_any]) (by simp[AV.mentIn]) h
def L.callJ(N:Nat){f:FuncId}{args:Array Operand}{ats:Array TypeId}{NJ:List AV}{d q a k n n':Nat}{t1 t2:TypeId}{xs ys:List IV}{res:AV}(hg:o.guard=none)(hd:o.dst=some d)(hlt:Nat.ble (d+1) c.nt=true)(ho:o.op= .call {callee:= .value (.func f),args:=args,argTypes:=ats})(hok:dQ P f=true)
 (hc:CallA P f (.ptr 1000 0::NJ) [(1000,⟨t1,.l [.bsh 1001 0 n k]⟩),(1001,⟨t2,.r xs 0⟩)] [(1000,⟨t1,.l [.bsh 1002 0 n' k]⟩),(1002,⟨t2,.r ys 0⟩),(1001,⟨t2,.l []⟩)] [] res)
 (ha:AV.pub.pubs (args.toList.map st.ev)= .ptr q 0::NJ) (hb:st.bx.lookup q=some ⟨t1,.l [.bsh a 0 n k]⟩) (hb2:st.bx.lookup a=some ⟨t2,.r xs 0⟩) (hx:xs≠ []) (hqa:(q==a)=false) (hm:AV.mentsIn [] NJ=true) (hr:AV.mentIn [] res=true) (hf:st.fresh N=true)
 (h:L c ⟨(d,res)::st.fr,(q,⟨t1,.l [.bsh N 0 n' k]⟩)::(N,⟨t2,.r ys 0⟩)::(a,⟨t2,.l []⟩)::st.bx,st.tk⟩ (wpList P ops Q rest)):L c st (wpList P ops Q (o::rest)):=by
 have hne:=oF hf hb;have hne2:=oF hf hb2;have hqa':q≠a:=by simpa using hqa
 have hs:Abs.sws [(1002,N),(1001,a),(1000,q)] 1000=q:=nW dD (nW dD (iW _ _ _) hqa') hne;have hs1:Abs.sws [(1002,N),(1001,a),(1000,q)] 1001=a:=nW dD (iW _ _ _) hne2;have hs2:Abs.sws [(1002,N),(1001,a),(1000,q)] 1002=N:=iW _ _ _;have h2:=hc.sws [(1002,N),(1001,a),(1000,q)] (args2:= .ptr q 0::NJ) (bx2:= [(q,⟨t1,.l [.bsh a 0 n k]⟩),(a,⟨t2,.r xs 0⟩)]) (bx2':= [(q,⟨t1,.l [.bsh N 0 n' k]⟩),(N,⟨t2,.r ys 0⟩),(a,⟨t2,.l []⟩)]) (tk2':= []) (res2:=res)
  (by simp[AV.rens,AV.ren,hs,AV.rens_id NJ hm]) (by simp[eL,hs,hs1,Box.ren,AV.rens,AV.ren]) (by simp[eL,hs,hs1,hs2,Box.ren,AV.rens,AV.ren]) U (AV.ren_id res hr)
 exact js (bxi:= [(q,⟨t1,.l [.bsh a 0 n k]⟩),(a,⟨t2,.r xs 0⟩)]) [N] hg hd hlt ho hok h2 (.of_pub ha) (.cons hb U fS (.cons hb2 U fS .nil)) (by simp[hf]) (by simp[dW,keys,hx]) U (by simp[AV.mentsIn_iv,AV.mentsIn,AV.mentIn,keys]) (jy res hr) h
end
end Go.Abs
namespace Go.Abs
variable [Dr]
open Go.RowKit (Below)
variable {P:Program}{c:Ctx}{st:St}
inductive Tk (a b:Nat):AV→AV→Prop
 |same {v:AV}:Tk a b v v
 |row {es:List (List IV)}:Tk a b (.row a es) (.row b es)
 |agg {l l':List AV} (hl:l'.length=l.length) (h: ∀(i:Nat) (x y:AV),l[i]?=some x→l'[i]?=some y→Tk a b x y):Tk a b (.agg l) (.agg l')
inductive Tks (a b:Nat):List AV→List AV→Prop
 |nil:Tks a b [] []
 |cons {v v':AV} {l l':List AV} (h:Tk a b v v') (t:Tks a b l l'):Tks a b (v::l) (v'::l')
section
variable {E:Env}{Q:Exit→Act→World→Prop}{X:Act→World→Prop}{a d q:Nat}{args:Array Operand}{NJ as1 cs l l':List AV}{ats:Array TypeId}{b b' bj:Box}{bx:List (Nat×Box)}{f:FuncId}{gs:au}{o:Oper}{ops:Array Oper}{res:AV}{rest:List Oper}{t:Tok}{tk:List (Nat×Tok)}
def Tks.get{b:Nat}(h:Tks a b l l'):l'.length=l.length∧ ∀(i:Nat) (v:AV),l'[i]?=some v→ ∃v0,l[i]?=some v0∧Tk a b v0 v:=by
 induction h with
 |nil=>exact⟨rfl,fun i v h=>by simp at h⟩
 |cons h _ ih=>
  refine⟨by simp[ih.1],fun i v hv=> ?_⟩;cases i with
  |zero=>simp at hv;subst hv;exact⟨_,rfl,h⟩
  |succ i=>exact ih.2 i v (by simpa using hv)
def Tk.rep{b:Nat}(he:E.η b=E.η a){w:World}{v v':AV}(h:Tk a b v v'): ∀{u:Value},RepA E w v u→RepA E w v' u:=by
 induction h with
 |same=>exact fun hu=>hu
 |row=>
  intro u hu;cases hu with
  |row hu h=>exact .row (by rw[he];exact hu) h
 |agg hl h ih=>
  intro u hu;cases hu with
  |agg hl2 h1 hr=>
   refine .agg (by rw[hl2,hl]) h1 (fun i x y hx hy=> ?_);have hi:=(gS hx).1;rw[hl] at hi;exact ih i _ x (gG hi) hx (hr i _ y (gG hi) hy)
def HInv.recs{w:World}(hh:HInv c E bx tk w){j:Nat}{bj:Box}{cs:List AV}(hj:bx.lookup j=some bj)(hjn:bj.cs≠ [])
 (hl:cs.length=bj.cs.length) (h: ∀(i:Nat) (v:AV),cs[i]?=some v→ ∃v0,bj.cs[i]?=some v0∧ ∀u,RepA E w v0 u→RepA E w v u):HInv c E ((j,⟨bj.ty,.l cs⟩)::bx) tk w:=by
 refine hh.reBox hj hjn (fun hn=> ?_);obtain⟨g0,arr,ha,hla,h1,hr,hη⟩:=hh.box j bj hj hjn;refine⟨g0,arr,ha,by simpa[hl] using hla,h1,fun i x u hx hu=> ?_,hη⟩;obtain⟨v0,hv0,hp0⟩:=h i x hx;exact hp0 u (hr i v0 u hv0 hu)
def Dc(a b:Nat)(ht:st.tk.lookup a=some t)(hf:st.fresh b=true)(hin:c.ins.contains b=false){E:Env}{act:Act}{w:World}(hi:Inv c E st act w):
 ∃E':Env,Inv c E' ⟨st.fr,st.bx,(b,t)::delTok a st.tk⟩ act w∧E'.η b=E'.η a:=by
 have hab:a≠b:=St.fresh_tk hf ht;have mono: ∀(v:AV) (u:Value),AV.ment b v=false→RepA E w v u→RepA ⟨E.φ,E.ρ,fun i=>if i=b then E.η a else E.η i⟩ w v u:=fun v u hm hr=>
  hr.mono (E:=E) (E':=⟨E.φ,E.ρ,fun i=>if i=b then E.η a else E.η i⟩) (fun _ _ _=>rfl) (fun _=>Nat.le_refl _) (fun i hi'=>⟨rfl,by
    have:i≠b:=fun e=>by subst e;rw[hm] at hi';cases hi'
    simp[this]⟩)
 have hh:HInv c ⟨E.φ,E.ρ,fun i=>if i=b then E.η a else E.η i⟩ st.bx st.tk w:=hi.heap.reEta
  (fun i bb h0 k v u hv hr=>mono v u (bB (St.fresh_bx hf h0).2 k v hv) hr)
  (fun j t' hj=>by simp only[if_neg (St.fresh_tk hf hj)])
  (fun id hid=>by
    have:id≠b:=fun e=>by subst e;simp at hin;exact hin hid
    simp only[if_neg this])
  (fun i bb h0=>by simp only[if_neg (St.fresh_bx hf h0).1])
 have hh':HInv c ⟨E.φ,E.ρ,fun i=>if i=b then E.η a else E.η i⟩ st.bx (delTok a st.tk) w:=by
  have hw:Wk c st ⟨st.fr,st.bx,delTok a st.tk⟩:=⟨fun id hid=>(hi.heap.ins id hid).2.2,fun s v hv=>⟨v,hv,Sub.refl _⟩,fun id bb hb=>⟨bb,hb,rfl,Subs.refl _⟩,fun id t' ht'=>by
   simp only at ht';rw[iH] at ht';split at ht'
   · cases ht'
   · exact ht'⟩
  exact hh.wk (st:=st) (st':=⟨st.fr,st.bx,delTok a st.tk⟩) hw
 refine⟨⟨E.φ,E.ρ,fun i=>if i=b then E.η a else E.η i⟩,⟨hi.defers,hi.size,fun s' v hv=>mono v _ (St.fresh_fr hf hv) (hi.slot s' v hv),?_⟩,by simp[hab]⟩;refine hh'.addTok ?_ (fun j t' g hj hl hg=> ?_) (fun i bb hb hn=> ?_) (fun g hg=> ?_)
 · have:=hi.heap.tok a t ht;simp only[Go.Abs.TokOk,if_true] at this⊢;exact this
 · rw[iH] at hl;split at hl
   · cases hl
   · rename_i hja;simp only[if_neg hj,if_true] at hg⊢;intro hg';exact hja (hi.heap.tt j a t' t g hl ht hg hg')
 · simp only[if_true];exact hi.heap.bt i a bb t hb hn ht
 · simp only[if_true] at hg;exact hi.heap.ownt a t g ht hg
def wN(j a b:Nat)(hj:st.bx.lookup j=some bj)(hjn:bj.cs≠ [])(ht:st.tk.lookup a=some t)(hf:st.fresh b=true)(hin:c.ins.contains b=false)(hp:Tks a b bj.cs cs)
 (h:L c ⟨st.fr,(j,⟨bj.ty,.l cs⟩)::st.bx,(b,t)::delTok a st.tk⟩ X):L c st X:=by
 rintro act w ⟨E,hi⟩;obtain⟨E',hi2,he⟩:=Dc a b ht hf hin hi;obtain⟨hl,hg⟩:=hp.get;exact h act w ⟨E',hi2.defers,hi2.size,hi2.slot,hi2.heap.recs hj hjn hl (fun i v hv=>by
  obtain⟨v0,h0,hq⟩:=hg i v hv;exact⟨v0,h0,fun u hu=>hq.rep he hu⟩)⟩
inductive Ad (id:Nat):AV→AV→Prop
 |same {v:AV}:Ad id v v
 |here:Ad id .nils (.row id [])
inductive Ads (id:Nat):List AV→List AV→Prop
 |nil:Ads id [] []
 |cons {v v':AV} {l l':List AV} (h:Ad id v v') (t:Ads id l l'):Ads id (v::l) (v'::l')
def Ads.get{id:Nat}(h:Ads id l l'):l'.length=l.length∧ ∀(i:Nat) (v:AV),l'[i]?=some v→ ∃v0,l[i]?=some v0∧Ad id v0 v:=by
 induction h with
 |nil=>exact⟨rfl,fun i v h=>by simp at h⟩
 |cons h _ ih=>
  refine⟨by simp[ih.1],fun i v hv=> ?_⟩;cases i with
  |zero=>simp at hv;subst hv;exact⟨_,rfl,h⟩
  |succ i=>exact ih.2 i v (by simpa using hv)
def El(id:Nat)(t:TypeId)(k:Nat)(hf:st.fresh id=true)(hin:c.ins.contains id=false){E:Env}{a:Act}{w:World}(hi:Inv c E st a w):
 ∃E':Env,Inv c E' ⟨st.fr,st.bx,(id,⟨t,k⟩)::st.tk⟩ a w∧E'.η id= .slice none 0 0:=by
 have mono: ∀(v:AV) (u:Value),AV.ment id v=false→RepA E w v u→RepA ⟨E.φ,E.ρ,fun i=>if i=id then .slice none 0 0 else E.η i⟩ w v u:=fun v u hm hr=>
  hr.mono (E:=E) (E':=⟨E.φ,E.ρ,fun i=>if i=id then .slice none 0 0 else E.η i⟩) (fun _ _ _=>rfl) (fun _=>Nat.le_refl _) (fun i hi'=>⟨rfl,by
    have:i≠id:=fun e=>by subst e;rw[hm] at hi';cases hi'
    simp[this]⟩)
 have hh:HInv c ⟨E.φ,E.ρ,fun i=>if i=id then .slice none 0 0 else E.η i⟩ st.bx st.tk w:=hi.heap.reEta
  (fun i bb h0 k v u hv hr=>mono v u (bB (St.fresh_bx hf h0).2 k v hv) hr)
  (fun j t' hj=>by simp only[if_neg (St.fresh_tk hf hj)])
  (fun i hid=>by
    have:i≠id:=fun e=>by subst e;simp at hin;exact hin hid
    simp only[if_neg this])
  (fun i bb h0=>by simp only[if_neg (St.fresh_bx hf h0).1])
 refine⟨⟨E.φ,E.ρ,fun i=>if i=id then .slice none 0 0 else E.η i⟩,⟨hi.defers,hi.size,fun s' v hv=>mono v _ (St.fresh_fr hf hv) (hi.slot s' v hv),?_⟩,by simp⟩;exact hh.addTok (.inl sP) (fun j t' g hj hl hg=>by simp[Value.ownBlock]) (fun i b hb hn=>by simp[Value.ownBlock]) (fun g hg=>by simp[Value.ownBlock] at hg)
def L.adoptB(j id:Nat)(t:TypeId)(k:Nat)(hj:st.bx.lookup j=some bj)(hjn:bj.cs≠ [])(hf:st.fresh id=true)(hin:c.ins.contains id=false)(hp:Ads id bj.cs cs)
 (h:L c ⟨st.fr,(j,⟨bj.ty,.l cs⟩)::st.bx,(id,⟨t,k⟩)::st.tk⟩ X):L c st X:=by
 rintro act w ⟨E,hi⟩;obtain⟨E',hi2,he⟩:=El id t k hf hin hi;obtain⟨hl,hg⟩:=hp.get;exact h act w ⟨E',hi2.defers,hi2.size,hi2.slot,hi2.heap.recs hj hjn hl (fun i v hv=>by
  obtain⟨v0,h0,hq⟩:=hg i v hv;refine⟨v0,h0,fun u hu=> ?_⟩;cases hq with
  |same=>exact hu
  |here=>cases hu;exact .row (by rw[he]) .nil)⟩
def Box.ren_id{π:Nat→Nat}(h:AV.mentsIn [] b.cs=true):b.ren π=b:=by
 obtain⟨ty,cc⟩:=b;cases cc with
 |l cs=>simp only[Box.cs_l] at h;simp only[Box.ren];rw[AV.rens_id cs h]
 |r xs m=>rfl
def Cz(N:List Nat){o:Oper}{ops:Array Oper}{rest:List Oper}{Q:Exit→Act→World→Prop}{f:FuncId}{args:Array Operand}{ats:Array TypeId}{NJ:List AV}{bxi bxo:List (Nat×Box)}{tko:List (Nat×Tok)}{res:AV}{d:Nat}(hg:o.guard=none)(hd:o.dst=some d)(hlt:Nat.ble (d+1) c.nt=true)(hG:Glob gs c.E0 c.w0)
 (ho:o.op= .call {callee:= .value (.func f),args:=args,argTypes:=ats}) (hok:dQ P f=true) (hc:CallG gs P f NJ bxi bxo tko res) (ha:Subs (args.toList.map st.ev) NJ) (hbi:WkB st.bx bxi)
 (hN:N.all (fun id=>st.fresh id)=true) (hbo:dW N bxi bxo=true) (hto:(keys tko).all (fun id=>N.contains id)=true)
 (hmb:bxo.all (fun p=>AV.mentsIn (N++keys bxi) p.2.cs)=true) (hmr:AV.mentIn (N++keys bxi) res=true)
 (h:L c ⟨(d,res)::st.fr,bxo++st.bx,tko++st.tk⟩ (wpList P ops Q rest)):L c st (wpList P ops Q (o::rest)):=
 nf N hg hd hlt hG (fun E a w hi=>⟨args.toList.map a.eval,by
  have hargs:(args.toList.map a.eval).toArray=args.map a.eval:=by apply Array.ext';simp
  rw[hargs];simp[execOp,ho,resolve,Deferred.ofValue,Act.eval,invoke,eK hok],(hi.evs args).sub ha⟩) hc hbi hN hbo hto hmb hmr h
def L.callG1(hg:o.guard=none)(hd:o.dst=some d)(hlt:Nat.ble (d+1) c.nt=true)(ho:o.op= .call {callee:= .value (.func f),args:=args,argTypes:=ats})(hok:dQ P f=true)
 (hG:Glob gs c.E0 c.w0) (hc:CallG gs P f as1 [(1000,b)] [(1000,b')] [] res) (ha:AV.pub.pubs (args.toList.map st.ev)=NJ) (h1:AV.rens (Abs.sws [(1000,q)]) as1=NJ) (hb:st.bx.lookup q=some b) (hbn:b.cs.isEmpty=false) (hm:AV.mentsIn [] b.cs=true) (hm':AV.mentsIn [] b'.cs=true) (hr:AV.mentIn [] res=true)
 (h:L c ⟨(d,res)::st.fr,(q,b')::st.bx,st.tk⟩ (wpList P ops Q rest)):L c st (wpList P ops Q (o::rest)):=by
 have hs:Abs.sws [(1000,q)] 1000=q:=iW _ _ _;have h2:=hc.sws [(1000,q)] h1 (bx2:= [(q,b)]) (bx2':= [(q,b')]) (tk2':= []) (res2:=res) (by simp[eL,hs,Box.ren_id hm]) (by simp[eL,hs,Box.ren_id hm']) U (AV.ren_id res hr);exact Cz (bxi:= [(q,b)]) [] hg hd hlt hG ho hok h2 (.of_pub ha) (.cons hb U fS .nil) U (by simp[dW,keys,hbn]) U (by simp[fM _ hm']) (jy _ hr) h
def CallG.at1(hc:CallG gs P f as1 [(1000,b)] [(1000,b')] [] res)(h1:AV.rens (Abs.sws [(1000,q)]) as1=NJ)(hm:AV.mentsIn [] b.cs=true)(hm':AV.mentsIn [] b'.cs=true)(hr:AV.mentIn [] res=true):
 CallG gs P f NJ [(q,b)] [(q,b')] [] res:=by
 have hs:Abs.sws [(1000,q)] 1000=q:=iW _ _ _;exact hc.sws [(1000,q)] h1 (by simp[eL,hs,Box.ren_id hm]) (by simp[eL,hs,Box.ren_id hm']) U (AV.ren_id res hr)
def L.callQ1(hg:o.guard=none)(hd:o.dst=some d)(hlt:Nat.ble (d+1) c.nt=true)(ho:o.op= .call {callee:= .value (.func f),args:=args,argTypes:=ats})(hok:dQ P f=true)
 (hG:Glob gs c.E0 c.w0) (hc:CallG gs P f NJ [(q,b)] [(q,b')] [] res) (ha:AV.pub.pubs (args.toList.map st.ev)=NJ) (hb:st.bx.lookup q=some b) (hbn:b.cs.isEmpty=false) (hm':AV.mentsIn [] b'.cs=true) (hr:AV.mentIn [] res=true)
 (h:L c ⟨(d,res)::st.fr,(q,b')::st.bx,st.tk⟩ (wpList P ops Q rest)):L c st (wpList P ops Q (o::rest)):=
 Cz (bxi:= [(q,b)]) [] hg hd hlt hG ho hok hc (.of_pub ha) (.cons hb U fS .nil) U (by simp[dW,keys,hbn]) U (by simp[fM _ hm']) (jy _ hr) h
def Wk.mkX{fr:List (Nat×AV)}(h0: ∀id∈c.ins,(bx.lookup id).isSome=true)(h1:WkF st.fr fr)(h2: ∀s v,bx.lookup s=some v→st.bx.lookup s=some v)(h3:WkT st.tk tk):Wk c st ⟨fr,bx,tk⟩:=
 ⟨h0,h1.get,fun s v hv=>⟨v,h2 s v hv,rfl,Subs.refl _⟩,h3.get⟩
def ay: ∀id∈keys bx,(bx.lookup id).isSome=true:=fun id hid=>by
 obtain⟨b,hb⟩:=it hid;rw[hb];rfl
def ee{bx':List (Nat×Box)}{s:Nat}{v:Box}(h:bx.lookup s=some v):(bx++bx').lookup s=some v:=by
 rw[List.lookup_append,h];rfl
end
end Go.Abs
