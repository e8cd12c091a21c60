/- Several texts in one, each with its own sentence ahead of it. Conditions: each one says its own. -/
import Derived.Laws.StructEq
import Derived.Laws.Slices
import Derived.Laws.Strings2
import Derived.Laws.BytesString
import Derived.Test.YthcjohcakdnmmaaGreatDoorZS5
set_option linter.all false
namespace Go.Abs
variable [Dr]
set_option linter.unusedSectionVars false
open Go.RowKit (Below)
set_option linter.unusedVariables false
set_option linter.unusedSimpArgs false
theorem getM{α β:Type}{f:α→β}{vs:List α}{i:Nat}{v:α}(hv:vs[i]?=some v):(vs.map f)[((i:Nat):Int).toNat]?=some (f v):=by simp[hv]
theorem getB{m:List UInt8}{n:Int}(h0:0≤n)(h1:n<m.length):m[n.toNat]?=some (m.getD n.toNat 0):=by
 have:n.toNat<m.length:=by omega
 simp[List.getD_eq_getElem?_getD,List.getElem?_eq_getElem this]
def eqV:Value→Value→Option Bool
 | .int k a,.int k' b=>if k=k' then some (a==b) else none
 | .bool a,.bool b=>some (a==b)
 | .string a,.string b=>some (a.data.toList==b.data.toList)
 |_,_=>none
def eqVs:List AV→List AV→Option Bool
 | [],[] =>some true
 | .iv (.im v)::vs,.iv (.im u)::us=>match eqV v u,eqVs vs us with
   |some a,some b=>some (a && b)
   |_,_=>none
 |_,_=>none
def cellKind(P:Program)(t:TypeId):Nat:=match P.underlying t with|some (.int _)=>1|some .bool=>2|some .string=>3|_=>0
def vKind:AV→Nat
 | .iv (.im (.int _ _))=>1
 | .iv (.im (.bool _))=>2
 | .iv (.im (.string _))=>3
 |_=>0
def eqFs(P:Program):Nat→List Field→List Nat→Bool
 |_,[],[] =>true
 |i,f::fs,k::ks=>(f.name != "_" && (f.offset==i && cellKind P f.type==k)) && eqFs P (i+1) fs ks
 |_,_,_=>false
def eqOk(P:Program)(t:TypeId)(ks:List Nat):Bool:=
 match P.underlying t with
 |some (.struct fs)=> !(P.stoodInHeld t) && (!(P.eqGuardType P.depth t) && eqFs P 0 fs.toList ks)
 |_=>false
theorem run_eqV{P:Program}{t:TypeId}{v u:Value}{b:Bool}(d:Nat)(w:World)(hk:cellKind P t=vKind (.iv (.im v)))(h:eqV v u=some b):(Op.equalIn (d+1) t v u).run P w= .ok b w∧(isAgg t).run P w= .ok false w:=by
 unfold cellKind at hk
 cases v<;>cases u<;>simp only[eqV] at h<;>try (cases h;done)
 · rename_i a b'
   cases h
   cases hu:P.underlying t with
   |none=>rw[hu] at hk;simp[vKind] at hk
   |some x=>rw[hu] at hk;cases x<;>simp[vKind] at hk<;>simp[Op.equalIn,run_underlying hu,isAgg]
 · rename_i k a k' b'
   split at h
   · rename_i hkk;subst hkk;cases h
     cases hu:P.underlying t with
     |none=>rw[hu] at hk;simp[vKind] at hk
     |some x=>rw[hu] at hk;cases x<;>simp[vKind] at hk<;>simp[Op.equalIn,run_underlying hu,isAgg]
   · cases h
 · rename_i a b'
   cases h
   have:(a==b')=(a.data.toList==b'.data.toList):=by
    obtain⟨⟨x⟩⟩:=a
    obtain⟨⟨y⟩⟩:=b'
    show((⟨x⟩:Array UInt8)==⟨y⟩)=(x==y)
    simp
   cases hu:P.underlying t with
   |none=>rw[hu] at hk;simp[vKind] at hk
   |some x=>rw[hu] at hk;cases x<;>simp[vKind] at hk<;>simp[Op.equalIn,run_underlying hu,this,isAgg]
theorem run_eqFs{P:Program}(d:Nat)(w:World): ∀(fs:List Field) (i:Nat) (xs ys:Array Value) (vs us:List AV) (b:Bool),eqFs P i fs (vs.map vKind)=true→eqVs vs us=some b→
 (∀(j:Nat) (v:Value),vs[j]?=some (.iv (.im v))→xs[i+j]?=some v)→(∀(j:Nat) (v:Value),us[j]?=some (.iv (.im v))→ys[i+j]?=some v)→
 (Op.eqFields (d+1) xs ys fs).run P w= .ok b w
 | [],i,xs,ys,vs,us,b,hf,h,_,_=>by
   cases vs with
   |nil=>cases us with
    |nil=>simp only[eqVs] at h;cases h;simp[Op.eqFields]
    |cons _ _=>simp[eqVs] at h
   |cons _ _=>simp[eqFs] at hf
 |f::fs,i,xs,ys,vs,us,b,hf,h,hx,hy=>by
  match vs,us,h with
  | [],_,h=>simp[eqFs] at hf
  | .iv (.im v)::vs,.iv (.im u)::us,h=>
    simp only[List.map_cons,eqFs,Bool.and_eq_true,bne_iff_ne,beq_iff_eq] at hf
    obtain⟨⟨hn,ho,hk⟩,hfs⟩:=hf
    simp only[eqVs] at h
    cases h1:eqV v u with
    |none=>rw[h1] at h;cases h
    |some b1=>
     cases h2:eqVs vs us with
     |none=>rw[h1,h2] at h;cases h
     |some b2=>
      rw[h1,h2] at h
      cases h
      have hxi:xs[f.offset]?=some v:=by rw[ho];exact hx 0 v rfl
      have hyi:ys[f.offset]?=some u:=by rw[ho];exact hy 0 u rfl
      obtain⟨he,hag⟩:=run_eqV (P:=P) d w hk h1
      have ih:=run_eqFs d w fs (i+1) xs ys vs us b2 hfs h2 (fun j v' hv'=>by have:=hx (j+1) v' (by simpa using hv');rwa [show i+1+j=i+(j+1) by omega]) (fun j v' hv'=>by have:=hy (j+1) v' (by simpa using hv');rwa [show i+1+j=i+(j+1) by omega])
      have hpx:(part f.type xs f.offset).run P w= .ok v w:=by simp[part,hag,hxi]
      have hpy:(part f.type ys f.offset).run P w= .ok u w:=by simp[part,hag,hyi]
      simp only[Op.eqFields,hn,ne_eq,not_false_eq_true,if_true,Sem.run_bind,hpx,hpy,Result.andThen_ok,he]
      cases b1
      · simp
      · simpa using ih
section
variable {P:Program}{c:Ctx}{st:St}{ops:Array Oper}{Q:Exit→Act→World→Prop}{rest:List Oper}{o:Oper}
theorem eqAgg_run{x y:Operand}{t:TypeId}{cs ds:List AV}{ks:List Nat}{b:Bool}(hx:st.ev x= .agg cs)(hy:st.ev y= .agg ds)(hok:eqOk P t ks=true)(hn:cs.map vKind=ks)(hb:eqVs cs ds=some b)
 {E:Env} {a:Act} {w:World} (hi:Inv c E st a w): ∃xs ys:Array Value,a.eval x= .agg xs∧a.eval y= .agg ys∧(Op.equalIn 10000 t (.agg xs) (.agg ys)).run P w= .ok b w∧ ∀op,(eqGuard op t x y (.agg xs) (.agg ys)).run P w= .ok () w:=by
 have h1:=hi.ev x;rw[hx] at h1
 have h2:=hi.ev y;rw[hy] at h2
 obtain⟨xs,hxs,hxr,_⟩:=h1.agg_inv
 obtain⟨ys,hys,hyr,_⟩:=h2.agg_inv
 unfold eqOk at hok
 split at hok
 · rename_i fs hu
   simp only[Bool.and_eq_true,Bool.not_eq_true',beq_iff_eq] at hok
   obtain⟨hs,hg,hfs⟩:=hok
   subst hn
   have hfo:P.fieldsOf t=fs:=by simp[Program.fieldsOf,hu]
   refine⟨_,_,hxs,hys,?_,fun op=>run_eqGuard_agg w op t x y _ _ hg⟩
   rw[run_equalIn_struct w 9999 t _ _ (by rw[hfo];exact hu) hs,hfo]
   have hcell: ∀(l:List AV) (us:List Value),RelL E w l us→ ∀(j:Nat) (v:Value),l[j]?=some (.iv (.im v))→us.toArray[0+j]?=some v:=by
    intro l us hr j v hj
    have hlt:j<us.length:=by rw[hr.1];exact(List.getElem?_eq_some_iff.1 hj).1
    have:=(hr.2 j _ _ hj (List.getElem?_eq_getElem hlt)).iv_im
    simp[List.getElem?_eq_getElem hlt,this]
   exact run_eqFs 9998 w fs.toList 0 _ _ cs ds b hfs hb (hcell cs xs hxr) (hcell ds ys hyr)
 · cases hok
theorem Yields.eqlAgg{x y:Operand}{t t':TypeId}{cs ds:List AV}{ks:List Nat}{b:Bool}(ho:o.op= .binOp .eql t x y t')(hx:st.ev x= .agg cs)(hy:st.ev y= .agg ds)(hok:eqOk P t ks=true)(hn:cs.map vKind=ks)(hb:eqVs cs ds=some b):Yields P c st o (aB b):=
 .im rfl fun E a w hi=>by
   obtain⟨xs,ys,h1,h2,h3,h4⟩:=eqAgg_run hx hy hok hn hb hi
   simp[execOp,ho,h1,h2,h4,run_eql_struct,h3,Result.andThen]
theorem Yields.neqAgg{x y:Operand}{t t':TypeId}{cs ds:List AV}{ks:List Nat}{b:Bool}(ho:o.op= .binOp .neq t x y t')(hx:st.ev x= .agg cs)(hy:st.ev y= .agg ds)(hok:eqOk P t ks=true)(hn:cs.map vKind=ks)(hb:eqVs cs ds=some b):Yields P c st o (aB (!b)):=
 .im rfl fun E a w hi=>by
   obtain⟨xs,ys,h1,h2,h3,h4⟩:=eqAgg_run hx hy hok hn hb hi
   simp[execOp,ho,h1,h2,h4,run_neq_struct,h3,Result.andThen]
theorem Yields.shrI{x y:Operand}{t t':TypeId}{k k':IntKind}{m n:Int}(ho:o.op= .binOp .shr t x y t')(hx:st.ev x= .iv (.im (.int k m)))(hy:st.ev y= .iv (.im (.int k' n)))(h0:0≤n):
 Yields P c st o (.iv (.im (.int k (m.fdiv (2 ^ min n.toNat k.bits))))):=
 .im rfl fun E a w hi=>by
   have: ¬n<0:=by omega
   simp[execOp,ho,hi.im hx,hi.im hy,eqGuard,binOp,Op.shift,this]
theorem Yields.shlI{x y:Operand}{t t':TypeId}{k k':IntKind}{m n:Int}(ho:o.op= .binOp .shl t x y t')(hx:st.ev x= .iv (.im (.int k m)))(hy:st.ev y= .iv (.im (.int k' n)))(h0:0≤n):
 Yields P c st o (.iv (.im (.int k (k.wrap (m*2 ^ min n.toNat k.bits))))):=
 .im rfl fun E a w hi=>by
   have: ¬n<0:=by omega
   simp[execOp,ho,hi.im hx,hi.im hy,eqGuard,binOp,Op.shift,this]
theorem Yields.convU8{x:Operand}{s t:TypeId}{b:UInt8}(ho:o.op= .convert s t x)(hx:st.ev x= .iv (.im (.int .u8 (b.toNat:Int))))(ht:P.underlying t=some (.int .i64))(hs:(P.underlying s).isSome=true):Yields P c st o (aI (b.toNat:Int)):=by
 have h:=Yields.conv (c:=c) ho hx ht hs
 have hb:=b.toNat_lt
 have hw:IntKind.i64.wrap (b.toNat:Int)=(b.toNat:Int):=IntWalk.i64_in _ (by omega)
 rwa [hw] at h
theorem or_add{a n:Int}{i:Nat}(ha:0≤a)(h1:a*2 ^ i+2 ^ i≤9223372036854775807)(hn:0≤n)(h2:n<2 ^ i):
 IntKind.i64.wrap ((BitVec.ofInt IntKind.i64.bits (a*2 ^ i)|||BitVec.ofInt IntKind.i64.bits n).toNat:Int)=a*2 ^ i+n:=by
 obtain⟨A,rfl⟩:=Int.eq_ofNat_of_zero_le ha
 obtain⟨N,rfl⟩:=Int.eq_ofNat_of_zero_le hn
 have e0:((A:Int)*2 ^ i)=((A*2 ^ i:Nat):Int):=by simp
 have h2':N<2 ^ i:=by
  have:((N:Nat):Int)<((2 ^ i:Nat):Int):=by simpa using h2
  exact Int.ofNat_lt.1 this
 have h1':A*2 ^ i+2 ^ i≤9223372036854775807:=by
  have:(((A*2 ^ i+2 ^ i:Nat)):Int)≤9223372036854775807:=by simpa using h1
  omega
 have hor:(A*2 ^ i)|||N=A*2 ^ i+N:=by
  have:=Nat.shiftLeft_add_eq_or_of_lt h2' A
  rw[Nat.shiftLeft_eq] at this;exact this.symm
 have hb:(BitVec.ofInt IntKind.i64.bits ((A:Int)*2 ^ i)|||BitVec.ofInt IntKind.i64.bits (N:Int)).toNat=A*2 ^ i+N:=by
  rw[e0,BitVec.toNat_or]
  have b64:IntKind.i64.bits=64:=rfl
  rw[b64,BitVec.ofInt_natCast,BitVec.ofInt_natCast,BitVec.toNat_ofNat,BitVec.toNat_ofNat,Nat.mod_eq_of_lt (by omega),Nat.mod_eq_of_lt (by omega),hor]
 rw[hb,IntWalk.i64_in _ (by omega)]
 simp
theorem Yields.orA{x y:Operand}{t t':TypeId}{m n a p:Int}(i:Nat)(ho:o.op= .binOp .or t x y t')(hx:st.ev x=aI m)(hy:st.ev y=aI n)(hp:(2:Int)^ i=p)(hm:m=a*p)(ha:0≤a)(h1:a*p+p≤9223372036854775807)(hn:0≤n)(h2:n<p):Yields P c st o (aI (m+n)):=
 .im rfl fun E act w hi=>by
   subst hm;subst hp
   have h:=or_add ha h1 hn h2
   simp[execOp,ho,hi.im hx,hi.im hy,eqGuard,binOp,Op.intBits] at h⊢
   exact h
theorem Yields.shlA{x y:Operand}{t t':TypeId}{k':IntKind}{m n p:Int}(ho:o.op= .binOp .shl t x y t')(hx:st.ev x=aI m)(hy:st.ev y= .iv (.im (.int k' n)))(h0:0≤n)(hp:(2:Int)^ min n.toNat 64=p)(hlo: -9223372036854775808≤m*p)(hhi:m*p≤9223372036854775807):
 Yields P c st o (aI (m*p)):=
 .im rfl fun E a w hi=>by
   subst hp
   have: ¬n<0:=by omega
   have hw:IntKind.i64.wrap (m*2 ^ min n.toNat 64)=m*2 ^ min n.toNat 64:=IntWalk.i64_in _ ⟨hlo,hhi⟩
   have hb:IntKind.i64.bits=64:=rfl
   simp[execOp,ho,hi.im hx,hi.im hy,eqGuard,binOp,Op.shift,this,hb,hw]
theorem Yields.orI{x y:Operand}{t t':TypeId}{k:IntKind}{m n:Int}(ho:o.op= .binOp .or t x y t')(hx:st.ev x= .iv (.im (.int k m)))(hy:st.ev y= .iv (.im (.int k n))):
 Yields P c st o (.iv (.im (.int k (k.wrap ((BitVec.ofInt k.bits m|||BitVec.ofInt k.bits n).toNat:Int))))):=
 .im rfl fun E a w hi=>by simp[execOp,ho,hi.im hx,hi.im hy,eqGuard,binOp,Op.intBits]
theorem Yields.quoI{x y:Operand}{t t':TypeId}{m n:Int}(ho:o.op= .binOp .quo t x y t')(hx:st.ev x=aI m)(hy:st.ev y=aI n)(hn:0<n)(hlo: -9223372036854775808≤m)(hhi:m≤9223372036854775807):
 Yields P c st o (aI (m.tdiv n)):=
 .im rfl fun E a w hi=>by
   have h0: ¬n=0:=by omega
   have hr: -9223372036854775808≤m.tdiv n∧m.tdiv n≤9223372036854775807:=by
    rcases Int.le_total 0 m with h|h
    · have h1:=Int.tdiv_nonneg h (by omega:0≤n)
      have h2:m.tdiv n≤m:=Int.tdiv_le_self n h
      omega
    · have h1:(-m).tdiv n≤ -m:=Int.tdiv_le_self n (by omega)
      have h2:=Int.tdiv_nonneg (by omega:0≤ -m) (by omega:0≤n)
      rw[Int.neg_tdiv] at h1 h2
      omega
   have:IntKind.i64.wrap (m.tdiv n)=m.tdiv n:=IntWalk.i64_in _ hr
   simp[execOp,ho,hi.im hx,hi.im hy,eqGuard,binOp,Op.intDiv,h0,this]
theorem Yields.remI{x y:Operand}{t t':TypeId}{k:IntKind}{m n:Int}(ho:o.op= .binOp .rem t x y t')(hx:st.ev x= .iv (.im (.int k m)))(hy:st.ev y= .iv (.im (.int k n)))(hn:0<n):
 Yields P c st o (.iv (.im (.int k (m.tmod n)))):=
 .im rfl fun E a w hi=>by
   have h0: ¬n=0:=by omega
   simp[execOp,ho,hi.im hx,hi.im hy,eqGuard,binOp,Op.intDiv,h0]
theorem Yields.sliceSl{x y:Operand}{t:TypeId}{m:List UInt8}{k:IntKind}{n:Int}(ho:o.op= .slice t x (some y) none none)(hx:st.ev x=aS m)(hy:st.ev y= .iv (.im (.int k n)))(ht:P.underlying t=some .string)
 (h0:0≤n) (h1:n≤m.length):Yields P c st o (aS (m.drop n.toNat)):=
 .im rfl fun E a w hi=>by
   have hs:=run_slice_string_l (P:=P) w t ⟨m.toArray⟩ ht k n h0 (by simpa[ByteArray.size] using h1)
   have he:(ByteArray.mk m.toArray).extract n.toNat (ByteArray.mk m.toArray).size=ByteArray.mk (m.drop n.toNat).toArray:=by
    rw[ByteArray.extract_mk]
    congr 2
    exact List.take_of_length_le (by simp[ByteArray.size])
   rw[he] at hs
   simp[execOp,ho,hi.im hx,hi.im hy,run_sliceAt_string w t _ _ _ _ ht,hs]
theorem Yields.sliceSh{x y:Operand}{t:TypeId}{m:List UInt8}{k:IntKind}{n:Int}(ho:o.op= .slice t x none (some y) none)(hx:st.ev x=aS m)(hy:st.ev y= .iv (.im (.int k n)))(ht:P.underlying t=some .string)
 (h0:0≤n) (h1:n≤m.length):Yields P c st o (aS (m.take n.toNat)):=
 .im rfl fun E a w hi=>by
   have hs:=run_slice_string_h (P:=P) w t ⟨m.toArray⟩ ht k n h0 (by simpa[ByteArray.size] using h1)
   rw[ByteArray.extract_mk] at hs
   simp only[List.drop_zero,Nat.sub_zero] at hs
   simp[execOp,ho,hi.im hx,hi.im hy,run_sliceAt_string w t _ _ _ _ ht,hs]
theorem Yields.sliceSlh{x y z:Operand}{t:TypeId}{m:List UInt8}{k k':IntKind}{n j:Int}(ho:o.op= .slice t x (some y) (some z) none)(hx:st.ev x=aS m)(hy:st.ev y= .iv (.im (.int k n)))(hz:st.ev z= .iv (.im (.int k' j)))(ht:P.underlying t=some .string)
 (h0:0≤n) (h1:n≤j) (h2:j≤m.length):Yields P c st o (aS ((m.drop n.toNat).take (j.toNat - n.toNat))):=
 .im rfl fun E a w hi=>by
   have hs:=run_slice_string (P:=P) w t ⟨m.toArray⟩ k k' n j ht h0 h1 (by simpa[ByteArray.size] using h2)
   rw[ByteArray.extract_mk] at hs
   simp[execOp,ho,hi.im hx,hi.im hy,hi.im hz,run_sliceAt_string w t _ _ _ _ ht,hs]
theorem RepI.part{φ:Nat→Nat}{w:World}{es:List (List IV)}{k len cap:Nat}{a:Option Addr}(h:RepI φ w (.sl es) (.slice a len cap))(hk: ∀e∈es,e.length=k){l n:Nat}(hn:n≤es.length)(hl:l≤n):
 RepI φ w (.sl ((es.take n).drop l)) (sliced a l n cap k):=by
 cases h with
 |emp hnn hm=>
  have:n=0:=by simpa using hn
  subst this
  have:l=0:=by omega
  subst this
  refine .emp (fun ha=> ?_) (by omega)
  split at ha
  · omega
  · cases a with
    |none=>have:=hnn rfl;omega
    |some _=>simp at ha
 | @sl _ b o _ k' f hc hm hk' hφ hcell hrep=>
   have hkk: ∀(i:Nat) (e:List IV),es[i]?=some e→k'=k:=fun i e he=>by rw[←hk' i e he,hk e (List.mem_of_getElem? he)]
   have hget: ∀(i:Nat) (e:List IV),((es.take n).drop l)[i]?=some e→es[l+i]?=some e:=fun i e he=>by
    rw[List.getElem?_drop,List.getElem?_take] at he
    split at he
    · exact he
    · cases he
   have hlen:((es.take n).drop l).length=n - l:=by simp;omega
   by_cases hcl:cap=l
   · have h1:(es.take n).drop l= []:=List.eq_nil_of_length_eq_zero (by rw[hlen];omega)
     rw[h1]
     have h2:n - l=0:=by omega
     simp only[sliced,hcl,if_true,h2]
     exact RepI.sl (es:= []) (k:=k) (fun _ _=>undef) (by simp) (by omega) (fun i e h=>by simp at h) (fun i e j x h=>by simp at h) (fun i e j x h=>by simp at h) (fun i e j x h=>by simp at h)
   · have:sliced (some ⟨b,o,none⟩) l n cap k= .slice (some ⟨b,o+l*k,none⟩) ((es.take n).drop l).length (cap - l):=by
      simp only[sliced,if_neg hcl,Option.map_some,Addr.add_none,hlen]
     rw[this]
     refine .sl (k:=k) (fun i j=>f (l+i) j) (by rw[hlen];omega) (by omega) (fun i e he=>hk e (List.mem_of_getElem? (hget i e he))) (fun i e j x he hx=> ?_) (fun i e j x he hx=> ?_) (fun i e j x he hx=>hrep _ _ _ _ (hget i e he) hx)
     · have:=hφ _ _ _ _ (hget i e he) hx
       rw[hkk _ _ (hget i e he)] at this
       rw[show o+l*k+i*k+j=o+(l+i)*k+j by rw[Nat.add_mul];omega];exact this
     · have:=hcell _ _ _ _ (hget i e he) hx
       rw[hkk _ _ (hget i e he)] at this
       rw[show o+l*k+i*k+j=o+(l+i)*k+j by rw[Nat.add_mul];omega];exact this
theorem sliceV_run{t e:TypeId}{k:Nat}{x:Operand}{es:List (List IV)}(hs:sliceOk P t e k=true)(hx:(st.ev x).sl?=some es)(hk: ∀e∈es,e.length=k){E:Env}{a:Act}{w:World}(hi:Inv c E st a w):
 ∃ad len cap,a.eval x= .slice ad len cap∧len=es.length∧es.length≤cap∧P.underlying t=some (.slice (P.elem t))∧(sizeOf (P.elem t)).run P w= .ok k w∧
  ∀l n,n≤es.length→l≤n→RepI E.φ w (.sl ((es.take n).drop l)) (sliced ad l n cap k):=by
 have hr:=(hi.ev x).sl hx
 obtain⟨hu,inf,hinf,hsz⟩:=sliceOk_run hs
 have he:P.elem t=e:=by simp[Program.elem,hu]
 have h2:P.underlying t=some (.slice (P.elem t)):=by rw[he];exact hu
 have h3:(sizeOf (P.elem t)).run P w= .ok k w:=by rw[he];simp[sizeOf,typeInfo,hinf,hsz]
 rcases hr.sl_inv with⟨hq,rfl⟩|⟨ad,cap,hq,_,_,rfl⟩|⟨b,o',cap,k',f,hq,hc,hm,hkk,hcell⟩
 · rw[hq] at hr
   exact⟨none,0,0,hq,rfl,Nat.le_refl _,h2,h3,fun l n hn hl=>hr.part hk hn hl⟩
 · rw[hq] at hr
   exact⟨some ad,0,cap,hq,rfl,Nat.zero_le _,h2,h3,fun l n hn hl=>hr.part hk hn hl⟩
 · rw[hq] at hr
   exact⟨_,_,_,hq,rfl,hc,h2,h3,fun l n hn hl=>hr.part hk hn hl⟩
theorem Yields.sliceVl{x y:Operand}{t e:TypeId}{k:Nat}{es:List (List IV)}{kd:IntKind}{n:Int}(ho:o.op= .slice t x (some y) none none)(hx:(st.ev x).sl?=some es)(hy:st.ev y= .iv (.im (.int kd n)))(hs:sliceOk P t e k=true)
 (hk: ∀e∈es,e.length=k) (h0:0≤n) (h1:n≤es.length):Yields P c st o (.iv (.sl (es.drop n.toNat))):=fun E a w hi=>by
 obtain⟨ad,len,cap,hq,hlen,hc,hu,hz,hp⟩:=sliceV_run hs hx hk hi
 have hp':=hp n.toNat es.length (Nat.le_refl _) (by omega)
 rw[List.take_length] at hp'
 refine⟨_,?_,.iv hp'⟩
 subst hlen
 have:=run_slice_l (P:=P) w t ad es.length cap hu kd n h0 h1
 simp[execOp,ho,hq,hi.im hy,run_sliceAt_slice w t _ _ _ _ hu,this,hz,Result.andThen]
theorem Yields.sliceVh{x y:Operand}{t e:TypeId}{k:Nat}{es:List (List IV)}{kd:IntKind}{n:Int}(ho:o.op= .slice t x none (some y) none)(hx:(st.ev x).sl?=some es)(hy:st.ev y= .iv (.im (.int kd n)))(hs:sliceOk P t e k=true)
 (hk: ∀e∈es,e.length=k) (h0:0≤n) (h1:n≤es.length):Yields P c st o (.iv (.sl (es.take n.toNat))):=fun E a w hi=>by
 obtain⟨ad,len,cap,hq,hlen,hc,hu,hz,hp⟩:=sliceV_run hs hx hk hi
 have hp':=hp 0 n.toNat (by omega) (by omega)
 rw[List.drop_zero] at hp'
 refine⟨_,?_,.iv hp'⟩
 subst hlen
 have:=run_slice_h (P:=P) w t ad es.length cap hu kd n h0 (by omega)
 simp[execOp,ho,hq,hi.im hy,run_sliceAt_slice w t _ _ _ _ hu,this,hz,Result.andThen]
theorem Yields.sliceVlh{x y z:Operand}{t e:TypeId}{k:Nat}{es:List (List IV)}{kd kd':IntKind}{n j:Int}(ho:o.op= .slice t x (some y) (some z) none)(hx:(st.ev x).sl?=some es)(hy:st.ev y= .iv (.im (.int kd n)))(hz:st.ev z= .iv (.im (.int kd' j)))(hs:sliceOk P t e k=true)
 (hk: ∀e∈es,e.length=k) (h0:0≤n) (h1:n≤j) (h2:j≤es.length):Yields P c st o (.iv (.sl ((es.take j.toNat).drop n.toNat))):=fun E a w hi=>by
 obtain⟨ad,len,cap,hq,hlen,hc,hu,hsz,hp⟩:=sliceV_run hs hx hk hi
 have hp':=hp n.toNat j.toNat (by omega) (by omega)
 refine⟨_,?_,.iv hp'⟩
 subst hlen
 have:=run_slice_lh (P:=P) w t ad es.length cap hu kd kd' n j h0 h1 (by omega)
 simp[execOp,ho,hq,hi.im hy,hi.im hz,run_sliceAt_slice w t _ _ _ _ hu,this,hsz,Result.andThen]
abbrev cB(b:UInt8):List IV:= [.im (.int .u8 b.toNat)]
theorem foldl_push(l:List UInt8): ∀(r:List UInt8),((l.map fun b=>((b.toNat:Int))).foldl (fun(r:ByteArray) n=>r.push (UInt8.ofNat n.toNat)) ⟨r.toArray⟩)=⟨(r++l).toArray⟩:=by
 induction l with
 |nil=>intro r;simp
 |cons b l ih=>
  intro r
  simp only[List.map_cons,List.foldl_cons]
  have:(ByteArray.mk r.toArray).push (UInt8.ofNat ((b.toNat:Int)).toNat)=⟨(r++ [b]).toArray⟩:=by
   have:UInt8.ofNat ((b.toNat:Int)).toNat=b:=by simp
   rw[this];apply ByteArray.ext;simp[ByteArray.push]
  rw[this,ih];simp
theorem Yields.bytesS{x:Operand}{s t e:TypeId}{bs:List UInt8}(ho:o.op= .convert s t x)(hx:(st.ev x).sl?=some (bs.map cB))(hs:sliceOk P s e 1=true)(he:P.underlying e=some (.int .u8))(ht:P.underlying t=some .string):
 Yields P c st o (aS bs):=
 .im rfl fun E a w hi=>by
   obtain⟨hu,inf,hinf,hsz⟩:=sliceOk_run hs
   rcases((hi.ev x).sl hx).sl_inv with⟨hq,h0⟩|⟨ad,cap,hq,_,_,h0⟩|⟨b,o',cap,k',f,hq,_,_,hk,hcell⟩
   · have:bs= []:=by simpa using h0
     subst this
     simp[execOp,ho,hq,run_convert_bytes_string w s t e none 0 0 hu he ht,Conv.bytesToString]
     rfl
   · have:bs= []:=by simpa using h0
     subst this
     have hb:=run_bytesToString (P:=P) w ad 0 cap [] (run_loadCells_list w ad [] (fun j v hv=>by simp at hv))
     simp[execOp,ho,hq,run_convert_bytes_string w s t e (some ad) 0 cap hu he ht,hb]
     rfl
   · have hc: ∀(i:Nat) (b':UInt8),bs[i]?=some b'→w.cell? ⟨b,o'+i,none⟩=some (.int .u8 b'.toNat):=by
      intro i b' hb
      have h1:(bs.map cB)[i]?=some (cB b'):=by simp[hb]
      have h2:=hcell i _ 0 _ h1 rfl
      have h3:=(hk i _ h1)
      simp at h3
      have h4:=h2.2.2.im_eq
      rw[h4] at h2
      simpa[←h3] using h2.2.1
     have hload:(loadCells ⟨b,o',none⟩ ((bs.map fun x=>(x.toNat:Int)).map (Value.int .u8)).length).run P w= .ok (((bs.map fun x=>(x.toNat:Int)).map (Value.int .u8))).toArray w:=
      run_loadCells_list w _ _ (fun j v hv=>by
       simp only[List.getElem?_map,Option.map_map] at hv
       cases hb:bs[j]? with
       |none=>rw[hb] at hv;simp at hv
       |some b'=>rw[hb] at hv;simp at hv;subst hv;rw[Addr.add_none];exact hc j b' hb)
     have hlen:((bs.map fun x=>(x.toNat:Int)).map (Value.int .u8)).length=bs.length:=by simp
     rw[hlen] at hload
     have hlm:(bs.map cB).length=bs.length:=by simp
     have:=run_bytesToString w ⟨b,o',none⟩ bs.length cap _ hload
     have hf:=foldl_push bs []
     simp only[List.nil_append] at hf
     have hemp:(ByteArray.mk ([]:List UInt8).toArray)=ByteArray.empty:=rfl
     rw[hemp] at hf
     rw[hf] at this
     rw[hlm] at hq
     simp[execOp,ho,hq,run_convert_bytes_string w s t e _ _ _ hu he ht,this]
theorem L.adopt{s:Nat}(id:Nat){t:TypeId}{k:Nat}{X:Act→World→Prop}(hs:st.fr.lookup s=some .nils)(hf:st.fresh id=true)(hin:c.ins.contains id=false)(h:L c ⟨(s,.row id [])::st.fr,st.bx,(id,⟨t,k⟩)::st.tk⟩ X):L c st X:=by
 rintro a w ⟨E,hi⟩
 have mono: ∀(v:AV) (u:Value),AV.ment id v=false→RepA E w v u→RepA ⟨E.φ,E.ρ,fun i=>if i=id then .slice none 0 0 else E.η i⟩ w v u:=fun v u hm hr=>
  hr.mono (E:=E) (E':=⟨E.φ,E.ρ,fun i=>if i=id then .slice none 0 0 else E.η i⟩) (fun _ _ _=>rfl) (fun _=>Nat.le_refl _) (fun i hi'=>⟨rfl,by
    have:i≠id:=fun e=>by subst e;rw[hm] at hi';cases hi'
    simp[this]⟩)
 refine h a w ⟨⟨E.φ,E.ρ,fun i=>if i=id then .slice none 0 0 else E.η i⟩,hi.defers,hi.size,fun s' v hv=> ?_,?_⟩
 · by_cases e:s'=s
   · subst e
     simp[List.lookup] at hv;subst hv
     have h0:=hi.slot s' _ hs
     generalize a.tmps.getD s' undef=u at h0⊢
     cases h0
     exact .row (by simp) .nil
   · rw[lookup_cons_ne e] at hv
     exact mono v _ (St.fresh_fr hf hv) (hi.slot s' v hv)
 · have hh:HInv c ⟨E.φ,E.ρ,fun i=>if i=id then .slice none 0 0 else E.η i⟩ st.bx st.tk w:=by
    have hne: ∀(j:Nat) (t':Tok),st.tk.lookup j=some t'→(if j=id then Value.slice none 0 0 else E.η j)=E.η j:=fun j t' hj=>by rw[if_neg (St.fresh_tk hf hj)]
    refine⟨fun i b hb hn=> ?_,fun i t' hi'=> ?_,hi.heap.bb,fun i j t1 t2 g h1 h2 e1 e2=> ?_,fun i j b t' h1 hn h2=> ?_,hi.heap.own,fun j t' g hj hg=> ?_,hi.heap.new,hi.heap.old,fun i hi'=> ?_,hi.heap.kept⟩
    · obtain⟨h0,arr,ha,hl,h1,hr,hq⟩:=hi.heap.box i b hb hn
      refine⟨h0,arr,ha,hl,h1,fun k c u hc hu=>mono c u ?_ (hr k c u hc hu),fun k cap he=>hq k cap (by simpa only[if_neg (St.fresh_bx hf hb).1] using he)⟩
      exact AV.ments_false (St.fresh_bx hf hb).2 k c hc
    · have:=hi.heap.tok i t' hi'
      simp only[TokOk,hne i t' hi'] at this⊢
      exact this
    · simp only[hne i t1 h1] at e1
      simp only[hne j t2 h2] at e2
      exact hi.heap.tt i j t1 t2 g h1 h2 e1 e2
    · simp only[hne j t' h2]
      exact hi.heap.bt i j b t' h1 hn h2
    · simp only[hne j t' hj] at hg
      exact hi.heap.ownt j t' g hj hg
    · obtain⟨h1,h2,h3⟩:=hi.heap.ins i hi'
      refine⟨h1,?_,h3⟩
      have:i≠id:=fun e=>by subst e;simp at hin;exact hin hi'
      simp only[if_neg this];exact h2
   refine hh.addTok (.inl (by simp)) (fun j t' g hj hl hg=>by simp[Value.ownBlock]) (fun i b hb hn=>by simp[Value.ownBlock]) (fun g hg=>by simp[Value.ownBlock] at hg)
theorem HInv.reEta{E:Env}{w:World}{η:Nat→Value}(h:HInv c E st.bx st.tk w)(hb: ∀(i:Nat) (b:Box),st.bx.lookup i=some b→ ∀(k:Nat) (v:AV) (u:Value),b.cs[k]?=some v→RepA E w v u→RepA ⟨E.φ,E.ρ,η⟩ w v u)
 (ht: ∀(j:Nat) (t:Tok),st.tk.lookup j=some t→η j=E.η j) (hin: ∀id∈c.ins,η id=E.η id) (hbe: ∀(i:Nat) (b:Box),st.bx.lookup i=some b→η i=E.η i):HInv c ⟨E.φ,E.ρ,η⟩ st.bx st.tk w:=by
 refine⟨fun i b h0 hn=> ?_,fun i t' hi'=> ?_,h.bb,fun i j t1 t2 g h1 h2 e1 e2=> ?_,fun i j b t' h1 hn h2=> ?_,h.own,fun j t' g hj hg=> ?_,h.new,h.old,fun i hi'=> ?_,h.kept⟩
 · obtain⟨h0',arr,ha,hl,h1,hr,hq⟩:=h.box i b h0 hn
   exact⟨h0',arr,ha,hl,h1,fun k c u hc hu=>hb i b h0 k c u hc (hr k c u hc hu),fun k cap he=>hq k cap (by simpa only[hbe i b h0] using he)⟩
 · have:=h.tok i t' hi'
   simp only[TokOk,ht i t' hi'] at this⊢
   exact this
 · simp only[ht i t1 h1] at e1
   simp only[ht j t2 h2] at e2
   exact h.tt i j t1 t2 g h1 h2 e1 e2
 · simp only[ht j t' h2]
   exact h.bt i j b t' h1 hn h2
 · simp only[ht j t' hj] at hg
   exact h.ownt j t' g hj hg
 · obtain⟨h1,h2,h3⟩:=h.ins i hi'
   exact⟨h1,by rw[←h2];exact hin i hi',h3⟩
theorem delTok_look'(id:Nat): ∀(tk:List (Nat×Tok)) (s:Nat),(delTok id tk).lookup s=if s=id then none else tk.lookup s
 | [],s=>by simp[delTok]
 |(t,u)::tk,s=>by
  have ih:=delTok_look' id tk s
  unfold delTok at ih⊢
  by_cases e:t=id
  · subst e
    simp only[List.filter_cons,bne_self_eq_false,Bool.false_eq_true,if_false]
    rw[ih]
    by_cases h:s=t
    · simp[h]
    · rw[lookup_cons_ne h]
  · have hb:(t !=id)=true:=by simpa[bne] using e
    simp only[List.filter_cons,hb,if_true]
    by_cases h:s=t
    · subst h;rw[lookup_cons_eq,lookup_cons_eq,if_neg e]
    · rw[lookup_cons_ne h,lookup_cons_ne h,ih]
theorem L.retok{es:List (List IV)}{t:Tok}{X:Act→World→Prop}(s a b:Nat)(hs:st.fr.lookup s=some (.row a es))(ht:st.tk.lookup a=some t)(hf:st.fresh b=true)(hin:c.ins.contains b=false)
 (h:L c ⟨(s,.row b es)::st.fr,st.bx,(b,t)::delTok a st.tk⟩ X):L c st X:=by
 rintro act w ⟨E,hi⟩
 have hab:a≠b:=St.fresh_tk hf ht
 have mono: ∀(v:AV) (u:Value),AV.ment b v=false→RepA E w v u→RepA ⟨E.φ,E.ρ,fun i=>if i=b then E.η a else E.η i⟩ w v u:=fun v u hm hr=>
  hr.mono (E:=E) (E':=⟨E.φ,E.ρ,fun i=>if i=b then E.η a else E.η i⟩) (fun _ _ _=>rfl) (fun _=>Nat.le_refl _) (fun i hi'=>⟨rfl,by
    have:i≠b:=fun e=>by subst e;rw[hm] at hi';cases hi'
    simp[this]⟩)
 have hh:HInv c ⟨E.φ,E.ρ,fun i=>if i=b then E.η a else E.η i⟩ st.bx st.tk w:=hi.heap.reEta
  (fun i bb h0 k v u hv hr=>mono v u (AV.ments_false (St.fresh_bx hf h0).2 k v hv) hr)
  (fun j t' hj=>by simp only[if_neg (St.fresh_tk hf hj)])
  (fun id hid=>by
    have:id≠b:=fun e=>by subst e;simp at hin;exact hin hid
    simp only[if_neg this])
  (fun i bb h0=>by simp only[if_neg (St.fresh_bx hf h0).1])
 have hh':HInv c ⟨E.φ,E.ρ,fun i=>if i=b then E.η a else E.η i⟩ st.bx (delTok a st.tk) w:=by
  have hw:Wk c st ⟨st.fr,st.bx,delTok a st.tk⟩:=⟨fun id hid=>(hi.heap.ins id hid).2.2,fun s v hv=>⟨v,hv,Sub.refl _⟩,fun id bb hb=>⟨bb,hb,rfl,Subs.refl _⟩,fun id t' ht'=>by
   simp only at ht';rw[delTok_look'] at ht'
   split at ht'
   · cases ht'
   · exact ht'⟩
  exact hh.wk (st:=st) (st':=⟨st.fr,st.bx,delTok a st.tk⟩) hw
 refine h act w ⟨⟨E.φ,E.ρ,fun i=>if i=b then E.η a else E.η i⟩,hi.defers,hi.size,fun s' v hv=> ?_,?_⟩
 · by_cases e:s'=s
   · subst e
     simp[List.lookup] at hv;subst hv
     have h0:=hi.slot s' _ hs
     cases h0 with
     |row hu h0=>exact .row (by simp[hu]) h0
   · rw[lookup_cons_ne e] at hv
     exact mono v _ (St.fresh_fr hf hv) (hi.slot s' v hv)
 · refine hh'.addTok ?_ (fun j t' g hj hl hg=> ?_) (fun i bb hb hn=> ?_) (fun g hg=> ?_)
   · have:=hi.heap.tok a t ht
     simp only[TokOk,if_true] at this⊢
     exact this
   · rw[delTok_look'] at hl
     split at hl
     · cases hl
     · rename_i hja
       simp only[if_neg hj,if_true] at hg⊢
       intro hg'
       exact hja (hi.heap.tt j a t' t g hl ht hg hg')
   · simp only[if_true]
     exact hi.heap.bt i a bb t hb hn ht
   · simp only[if_true] at hg
     exact hi.heap.ownt a t g ht hg
theorem Yields.indexD{x i:Operand}{t:TypeId}{m:List UInt8}{k:IntKind}{n:Int}(ho:o.op= .index t x i)(hx:st.ev x=aS m)(hi':st.ev i= .iv (.im (.int k n)))
 (ht:P.underlying t=some .string) (h0:0≤n) (h1:n<m.length):Yields P c st o (.iv (.im (.int .u8 (m.getD n.toNat 0).toNat))):= .indexS ho hx hi' ht h0 (getB h0 h1)
end
end Go.Abs
