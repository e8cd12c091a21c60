/- Lemmas towards the law. Conditions: each one says its own. -/
import Derived.Test.YtnhmohbhgocbjaaGreatDoorZU4
import Derived.Test.YtnhmohbhgocbjaaGreatDoorZU5
import Derived.Shelf.SlSortCmp.Whole1
set_option linter.all false
set_option maxHeartbeats 64000000
set_option maxRecDepth 100000
namespace Go.Abs
open Go.RowKit (Below)
open Go.Sort Go.Proofs Go.Shelf
def wi[hD:Dr]{M:Nat->Prop}{w w':World}(h:D1 M w w')(hM: ∀k,¬M k)(hp:Dr.p): ∃q os,w'=Go.Sort.grow (w.drewN q) os:=by
 obtain⟨h1,h2,h3,h4,h5,h6⟩:=h;have h6:=h6 hp;refine⟨w'.drawn - w.drawn,w'.heap.extract w.heap.size w'.heap.size,?_⟩;obtain⟨ar,a2,aR,a3,a4⟩:=w;obtain⟨T,a5,a0,a6,a7⟩:=w';simp only at h1 h2 h3 h4 h5 h6;subst h1 h2 h3;have e1:aR+(a0 - aR)=a0:=C;have e2:ar++T.extract ar.size T.size=T:=by
  apply Array.ext
  · simp;omega
  · intro i a8 a1;rw[Array.getElem_append];split
    · rename_i ad;have:=h5 i ad (hM i);rw[Array.getElem?_eq_getElem a1,Array.getElem?_eq_getElem ad] at this;exact(Option.some.inj this).symm
    · rename_i ad;rw[Array.getElem_extract];congr 1;omega
 simp[Go.Sort.grow,World.drewN,e1,e2]
def nC{α:Type}[Inhabited α](ad:α->Value)(w:World)(T m:Nat)(d:Array α)(os:Array Obj){b:Nat}(hb:b<w.heap.size)(ar:b≠T):(sortWorld ad w T 0 m d os).heap[b]?=w.heap[b]?:=by
 unfold sortWorld;simp only[Go.Sort.grow,Go.Sort.putRow,Go.Sort.mapBlock,Go.Sort.ahead];rw[Array.getElem?_append_left (by simpa using hb),Array.getElem?_modify,if_neg (fun e=>ar e.symm)]
def wj{α:Type}[Inhabited α](ad:α->Value)(w:World)(T m:Nat)(d:Array α)(os:Array Obj){arr:Array Value}{ty:TypeId}{fr:Nat×Nat}(ha:w.heap[T]?=some (.cells arr ty fr)):(sortWorld ad w T 0 m d os).heap[T]?=some (.cells (putCells ad 0 d arr) ty fr):=by
 have hb:=(Array.getElem?_eq_some_iff.1 ha).1;unfold sortWorld;simp only[Go.Sort.grow,Go.Sort.putRow,Go.Sort.mapBlock,Go.Sort.ahead];rw[Array.getElem?_append_left (by simpa using hb),Array.getElem?_modify,if_pos U,ha];rfl
def kB{α:Type}[Inhabited α](T:α->Value)(w:World)(ad m:Nat)(d:Array α)(os:Array Obj):w.heap.size<=(sortWorld T w ad 0 m d os).heap.size:=by
 unfold sortWorld;simp[Go.Sort.grow,Go.Sort.putRow,Go.Sort.mapBlock,Go.Sort.ahead]
def CallA.sortFunc{P:Program}{ρ:Ren}(LL:SlLaysF.n6 P ρ){g:FuncId}(hg:dP P g=true){β:Type}(cell:β->IV)(cf:β->β->Int)(hO:SWO (ltOf cf)){ty:TypeId}(l s:List β)(a8:l≠ [])(cX:l.length<=140737488355328)
 (a9: ∀x∈l,∀y∈l,@CallA ⟨True⟩ P g [.iv (cell x),.iv (cell y)] [] [] [] (aI (cf x y))) (a2: ∀l':List β,l'.Perm l->l'.Pairwise (fun a b=> ¬cf b a<0)->l'=s):
 CallA P (ρ.f 6) [.bsh 1000 0 l.length 1,.fn g []] [(1000,⟨ty,.r (l.map cell) 0⟩)] [(1000,⟨ty,.r (s.map cell) 0⟩)] [] (.tup []):=by
 intro E w us ba hh;obtain⟨bh,hr⟩:=ba
 match us,bh with
 | [u0,u1],_=>
 have h0:=hr 0 _ u0 U U;have h1:=hr 1 _ u1 U U;have cS:0<l.length:=gU a8;obtain⟨cap,o,rfl,hn,hm,he,ho⟩:=h0.bsh_inv;have ho:o=0:=by rw[ho C]
 subst ho;have bS:u1= .func (.func g) #[] #[]:=by
  cases h1 with
  | @fn _ _ us hl _=>have:us= []:=by simpa using hl
                     rw[this]
 subst bS;have ar:(A5.mk ty (.r (l.map cell) 0)).cs≠ []:=by simp[a8]
 obtain⟨hφ,arr,ha,bW,b1,bi,b2⟩:=hh.box 1000 _ U ar;simp only[A5.cs_r,List.replicate_zero,List.append_nil,lM] at bW bi;have hrep: ∀i (h:i<l.length),C8 E.φ w (cell l[i]) (arr[i]'C):=fun i h=>by
  have:=bi i (.iv (cell l[i])) (arr[i]'C) (by simp[h]) (gG _);cases this with|iv h=>exact h
 have hblk:E.ρ 1000<w.heap.size:=(Array.getElem?_eq_some_iff.1 ha).1;let α:Type:={p:β×Value // p.1∈l/\C8 E.φ w (cell p.1) p.2}
 let T:α->Value:=fun p=>p.1.2
 let d:Array α:=Array.ofFn (n:=l.length) fun i=>⟨(l[i],arr[i.1]'C),List.getElem_mem _,hrep i i.2⟩
 have a0:d.size=l.length:=by simp[d]
 haveI:Inhabited α:=⟨d[0]'C⟩
 have b3: ∀j (h:j<l.length),d[j]! =⟨(l[j],arr[j]'C),List.getElem_mem _,hrep j h⟩:=fun j h=>by
  rw[getElem!_pos d j C];simp[d]
 have b4:d.toList.map (fun p=>p.1.1)=l:=by
  apply List.ext_getElem
  · simp[d]
  · intro i h1 h2;simp[d]
 have a3: ∀(m:Nat) (dk:Array α) (os:Array Obj),Keeps E.φ w (sortWorld T w (E.ρ 1000) 0 m dk os):=fun m dk os b off hb=>by
  have ar:b≠E.ρ 1000:=fun e=>by rw[e,hφ] at hb;omega
  have b5:b<w.heap.size:=Nat.lt_of_not_le (fun b6=>by rw[hh.new b b6] at hb;omega);exact World.cell?_of_block (nC T w _ m dk os b5 ar)
 have bl:=hh.new;have b7:CmpLays1 P g #[] T (fun x y=>cf x.1.1 y.1.1) (E.ρ 1000) 0 d.size w:=by
  intro m os dk c3 x y;have hc:=a9 x.1.1 x.2.1 y.1.1 y.2.1 E (sortWorld T w (E.ρ 1000) 0 m dk os) [x.1.2,y.1.2] ⟨rfl,fun i c u hc hu=>by
   match i with
   |0=>simp at hc hu;subst hc;subst hu;exact .iv (x.2.2.mono (a3 m dk os) (fun _=>Nat.le_refl _))
   |1=>simp at hc hu;subst hc;subst hu;exact .iv (y.2.2.mono (a3 m dk os) (fun _=>Nat.le_refl _))
   |i+2=>simp at hc⟩ (by letI:Dr:=⟨True⟩;exact⟨fun id b h=>by simp at h,fun id t h=>by simp at h,fun i j b b' h=>by simp at h,fun i j t t' g h=>by simp at h,fun i j b t h=>by simp at h,fun i b h=>by simp at h,fun i t g h=>by simp at h,
    fun b a4=>bl b (Nat.le_trans (kB T w _ m dk os) a4),fun b _=>rfl,fun id h=>by simp[keys] at h,D1.refl _ _⟩)
  refine hc.mono ?_;rintro e w' ⟨u,E',rfl,hu,bm⟩;have hv:=hu.iv_im;subst hv;refine⟨rfl,?_⟩;exact @wi ⟨True⟩ _ _ _ (@C4.kept ⟨True⟩ _ _ _ _ _ bm) (fun k ⟨id,a1,_⟩=>by simp[keys] at a1) trivial
 have b8:SWO (ltOf fun(x y:α)=>cf x.1.1 y.1.1):=⟨fun x=>hO.irrefl x.1.1,fun x y z=>hO.trans x.1.1 y.1.1 z.1.1,fun x y z=>hO.ntrans x.1.1 y.1.1 z.1.1⟩
 have hH:Holds T w (E.ρ 1000) 0 d:=fun j hj=>by
  rw[a0] at hj;rw[b3 j hj];refine⟨?_,?_⟩
  · simp only[World.cell?,ha];simp[T]
  · simp[World.frozen?,ha]
 have aR:=Any.slices_SortFunc LL T (fun x=>x.2.2.oneCell) (fun x y=>cf x.1.1 y.1.1) b8 g #[] (E.ρ 1000) 0 (cap - 0) d w (fun args w=>eJ hg args w) b7 hH hblk C;rw[a0] at aR;refine aR.mono ?_;rintro e w' ⟨rfl,d',n,os,hp,hs,rfl⟩;obtain⟨b9,_,bp⟩:=hp;have ad:d'.size=l.length:=by rw[b9,a0]
 have a5:(d'.toList.map (fun p=>p.1.1)).Perm l:=by
  have e1:d'.extract 0 l.length=d':=by rw[<-ad];simp
  have e2:d.extract 0 l.length=d:=by rw[<-a0];simp
  rw[e1,e2] at bp;have:=bp.map (fun p:α=>p.1.1)
  rwa [b4] at this
 have a6: ∀i (h:i<l.length),d'[i]! =d'[i]'C:=fun i h=>getElem!_pos d' i C
 have a7:(d'.toList.map (fun p=>p.1.1)).Pairwise (fun a b=> ¬cf b a<0):=by
  rw[List.pairwise_map,List.pairwise_iff_getElem];intro i j hi hj cb;have:=hs i j (Nat.zero_le _) cb (by simpa[ad] using hj);simp only[Array.length_toList] at hi hj;rw[a6 i C,a6 j C] at this;simpa[ltOf] using this
 have bP:=a2 _ a5 a7;refine⟨.tuple #[],E,rfl,.tup (us:= []) U (fun i c u h=>by simp at h),?_⟩;have bR:s.length=l.length:=by rw[<-bP];simp[ad]
 refine⟨fun id b hb cc=> ?_,fun id t h=>by simp at h,fun i j b b' hi hj _ _ _=> ?_,fun i j t t' g h=>by simp at h,fun i j b t h hn hj=>by simp at hj,fun i b hi cc=> ?_,fun i t g h=>by simp at h,
  fun b a4=>hh.new b (Nat.le_trans (kB T w _ n d' os) a4),fun b _=>rfl,fun id a1=>⟨rfl,rfl,?_⟩,⟨rfl,rfl,rfl,kB T w _ n d' os,fun k hk hM=> ?_,fun h=>h.elim⟩⟩
 · by_cases e:id=1000
   · subst e;simp at hb;subst hb;refine⟨hφ,(putCells T 0 d' arr.toArray).toList,by rw[wj T w _ n d' os ha],?_,?_,?_,fun k cap hc=> ?_⟩
     · simp[putCells,bR];omega
     · intro u hu;simp only[putCells,Array.toList_mapIdx,List.mem_mapIdx] at hu;obtain⟨i,hi,rfl⟩:=hu;split
       · exact(d'[i - 0]!).2.2.oneCell
       · exact b1 _ (List.getElem_mem _)
     · intro i c u hc hu;simp only[A5.cs_r,List.replicate_zero,List.append_nil,List.map_map,gP,Option.map_eq_some_iff] at hc;obtain⟨b,hb,rfl⟩:=hc;have hi:=(gS hb).1;rw[bR] at hi;have ch:b=(d'[i]'C).1.1:=by
        rw[<-bP] at hb;simp[ad,hi] at hb;exact hb.symm
       have cR:u=(d'[i]'C).1.2:=by
        simp only[putCells,Array.toList_mapIdx,List.getElem?_mapIdx,Option.map_eq_some_iff] at hu;obtain⟨v,hv,rfl⟩:=hu;rw[if_pos ⟨Nat.zero_le _,by omega⟩,Nat.sub_zero,a6 i hi]
       subst ch cR;exact .iv ((d'[i]'C).2.2.mono (a3 n d' os) (fun _=>Nat.le_refl _))
     · have:=b2 k cap hc;simpa[putCells] using this
   · have e':(id==1000)=false:=by simpa using e
     simp[List.lookup,e'] at hb
 · have f: ∀i b,List.lookup i [(1000,(⟨ty,.r (s.map cell) 0⟩:A5))] =some b->i=1000:=fun i b h=>by
    by_cases e:i=1000
    · exact e
    · have e':(i==1000)=false:=by simpa using e
      simp[List.lookup,e'] at h
   rw[f i b hi,f j b' hj]
 · have f:i=1000:=by
    by_cases e:i=1000
    · exact e
    · have e':(i==1000)=false:=by simpa using e
      simp[List.lookup,e'] at hi
   subst f;exact .inr ⟨1000,by simp[keys],rfl,hφ⟩
 · simp[keys] at a1;subst a1;rfl
 · exact nC T w _ n d' os hk (fun e=>hM ⟨1000,by simp[keys],e.symm,by rw[e];exact hφ⟩)
end Go.Abs
namespace Go.Proofs.Y
open Go.Abs
def yN(l:List Pr)(k v:Str):List Pr:=l.filter (fun x=>decide (x.1<k))++(k,v)::l.filter (fun x=>decide (k<x.1))
def yb(l:List Pr)(k:Str):List Pr:=l.filter (fun x=> !(x.1==k))
def pJ(l:List Pr)(k:Str):Str×Bool:=match l.find? (fun x=>x.1==k) with
 |some x=>(x.2,true)
 |none=>([],false)
def JL{a b:Str}(h:a<b):(a==b)=false:=by
 cases e:a==b with
 |false=>rfl
 |true=>rw[eq_of_beq e] at h;exact absurd h (List.lt_irrefl b)
def LJ{a b:Str}(h:a<b):(b==a)=false:=by
 cases e:b==a with
 |false=>rfl
 |true=>rw[eq_of_beq e] at h;exact absurd h (List.lt_irrefl a)
def nu{p:Pr->Bool}{l:List Pr}(h: ∀x∈l,p x=true):l.filter p=l:=List.filter_eq_self.2 h
def qW{p:Pr->Bool}{l:List Pr}(h: ∀x∈l,p x=false):l.filter p= []:=List.filter_eq_nil_iff.2 (fun x T=>by simp[h x T])
def si{l:List Pr}{k:Str}(h: ∀x∈l,(x.1==k)=false):l.find? (fun x=>x.1==k)=none:=List.find?_eq_none.2 (fun x T=>by simp[h x T])
section
variable {a b:List Pr}{k v w:Str}(ha: ∀x∈a,x.1<k)(hb: ∀x∈b,k<x.1)
include ha hb
def Jx:yN (a++b) k v=a++(k,v)::b:=by
 rw[yN,List.filter_append,List.filter_append,nu (l:=a) (fun x T=>decide_eq_true (ha x T)),qW (l:=b) (fun x T=>decide_eq_false (List.lt_asymm (hb x T))),qW (l:=a) (fun x T=>decide_eq_false (List.lt_asymm (ha x T))),nu (l:=b) (fun x T=>decide_eq_true (hb x T))];simp
def Jw:yN (a++(k,w)::b) k v=a++(k,v)::b:=by
 rw[yN,List.filter_append,List.filter_append,List.filter_cons,List.filter_cons,nu (l:=a) (fun x T=>decide_eq_true (ha x T)),qW (l:=b) (fun x T=>decide_eq_false (List.lt_asymm (hb x T))),qW (l:=a) (fun x T=>decide_eq_false (List.lt_asymm (ha x T))),nu (l:=b) (fun x T=>decide_eq_true (hb x T))];simp[List.lt_irrefl]
def Ip:yb (a++b) k=a++b:=nu (fun x T=>by
 rcases mA T with h|h
 · rw[JL (ha x h)];rfl
 · rw[LJ (hb x h)];rfl)
def Io:yb (a++(k,w)::b) k=a++b:=by
 rw[yb,List.filter_append,List.filter_cons,nu (l:=a) (fun x T=>by rw[JL (ha x T)];rfl),nu (l:=b) (fun x T=>by rw[LJ (hb x T)];rfl)];simp
def If:pJ (a++b) k=([],false):=by
 rw[pJ,si (fun x T=> ?_)];rcases mA T with h|h
 · exact JL (ha x h)
 · exact LJ (hb x h)
omit hb in
def Ie:pJ (a++(k,w)::b) k=(w,true):=by
 rw[pJ,List.find?_append,si (fun x T=>JL (ha x T))];simp
end
section
variable {a b:Pg}{i p:Nat}{k key o v val:Str}{ks vs:List Str}{ps:List Pg}{α β:Type}
def nJ: ∀(n:Nat) (l:List α) (m:List β),(l.take n).zip (m.take n)=(l.zip m).take n
 |0,l,m=>by simp
 |n+1,[],m=>by simp
 |n+1,a::l,[] =>by simp
 |n+1,a::l,b::m=>by simp[nJ n l m]
def nK: ∀(n:Nat) (l:List α) (m:List β),(l.drop n).zip (m.drop n)=(l.zip m).drop n
 |0,l,m=>by simp
 |n+1,[],m=>by simp
 |n+1,a::l,[] =>by simp
 |n+1,a::l,b::m=>by simp[nK n l m]
def tF{l l':List α}{m T:List β}(h:l.length=m.length):(l++l').zip (m++T)=l.zip m++l'.zip T:=List.zip_append h
def JA(h:vs.length=ks.length)(hi:i<=ks.length):(⟨aF ks i k,aF vs i v⟩:Pg).prs=(Pg.prs ⟨ks,vs⟩).take i++(k,v)::(Pg.prs ⟨ks,vs⟩).drop i:=by
 simp only[Pg.prs,aF];rw[tF (by simp;omega),List.zip_cons_cons,nJ,nK]
def JB(h:vs.length=ks.length)(hi:i<ks.length):(⟨cw ks i,cw vs i⟩:Pg).prs=(Pg.prs ⟨ks,vs⟩).take i++(Pg.prs ⟨ks,vs⟩).drop (i+1):=by
 simp only[Pg.prs,cw];rw[tF (by simp;omega),nJ,nK]
def Jy(i:Nat):(⟨ks.take i,vs.take i⟩:Pg).prs++(⟨ks.drop i,vs.drop i⟩:Pg).prs=(Pg.prs ⟨ks,vs⟩):=by
 simp only[Pg.prs];rw[nJ,nK,List.take_append_drop]
def Hr(h:a.vs.length=a.ks.length):(⟨a.ks++b.ks,a.vs++b.vs⟩:Pg).prs=a.prs++b.prs:=by
 simp only[Pg.prs];rw[tF C]
def oW: ∀{l:List α} {p:Nat} {x:α} (y:α),l[p]?=some x->l.set p y=l.take p++y::l.drop (p+1)
 |a::l,0,x,y,h=>by simp
 |a::l,p+1,x,y,h=>by simp[oW y (show l[p]?=some x by simpa using h)]
def sb{l:List α}{x:α}(h:l[p]?=some x):l=l.take p++x::l.drop (p+1):=by
 conv=>lhs;rw[<-List.take_append_drop p l,fu h]
def kX(p:Pg)(ps:List Pg):az (p::ps)=p.prs++az ps:=rfl
def qR{x:Pg}(y:Pg)(h:ps[p]?=some x):az (ps.set p y)=az (ps.take p)++(y.prs++az (ps.drop (p+1))):=by
 rw[oW y h,iD];rfl
def flat_at{x:Pg}(h:ps[p]?=some x):az ps=az (ps.take p)++(x.prs++az (ps.drop (p+1))):=by
 conv=>lhs;rw[sb h]
 rw[iD];rfl
structure H8 (ps:List Pg) (key:Str) (x:Pg):Prop where
 a: ∀y∈az (ps.take (be ps key)),y.1<key
 b: ∀y∈az (ps.drop (be ps key+1)),key<y.1
 l: ∀y∈x.prs.take (aX x.ks key),y.1<key
 r:bM x.ks key=false-> ∀y∈x.prs.drop (aX x.ks key),key<y.1
 f:bM x.ks key=true-> ∃w,x.prs.drop (aX x.ks key)=(key,w)::x.prs.drop (aX x.ks key+1)/\x.vs[aX x.ks key]?=some w/\ ∀y∈x.prs.drop (aX x.ks key+1),key<y.1
def Ab(key:Str): ∀(ks vs:List Str),∀y∈(ks.zip vs).take (aX ks key),y.1<key
 | [],vs,y,h=>by simp at h
 |s::ks,[],y,h=>by simp at h
 |s::ks,v::vs,y,h=>by
  unfold aX pre at h;by_cases hs:s<key
  · simp only[hs,decide_true,if_true,List.zip_cons_cons,List.take_succ_cons,List.mem_cons] at h;rcases h with rfl|h
    · exact hs
    · exact Ab key ks vs y h
  · simp[hs] at h
def DF{x:Pg}(h:aG ps=true)(hx:ps[be ps key]?=some x):H8 ps key x:=by
 obtain⟨h1,h2⟩:=(eO ps).1 h;have hs:=dE key h;have aR:=gE hx;have hi:=(gS hx).1;have hk:=rV h2 aR;have ad:=h2;rw[sb hx,qP] at ad;have a5:fN (x::ps.drop (be ps key+1))=x.ks++fN (ps.drop (be ps key+1)):=rfl;rw[a5] at ad;obtain⟨_,hr,a3⟩:=List.pairwise_append.1 ad;obtain⟨_,a6,a9⟩:=List.pairwise_append.1 hr;have bS:=(h1 x aR).1;have bW:=(h1 x aR).2.2;have a7:=AD (key:=key) x hk;have a4: ∀y∈x.prs.drop (aX x.ks key),key<=y.1:=fun y T=>by
  rw[a7] at T;have:=(List.mem_filter.1 T).2;simp only[Bool.not_eq_true',decide_eq_false_iff_not] at this;exact List.not_lt.1 this
 have ba:x.prs.map Prod.fst=x.ks:=ED bW;have a0:(x.prs.map Prod.fst).Pairwise (· < ·):=by rw[ba];exact hk
 refine⟨fun y T=> ?_,fun y T=> ?_,Ab key x.ks x.vs,fun hf y T=> ?_,fun hf=> ?_⟩
 · have a1:=jN T;have bh:0<be ps key:=by
    refine Nat.pos_of_ne_zero (fun e=> ?_);rw[e] at T;simp[az] at T
   have hq:be ps key<pre (kW key) ps:=by unfold be at bh|-;omega
   have hf:=uM hx hq;obtain⟨ks,vs⟩:=x;cases ks with
   |nil=>simp at bS
   |cons s ks=>
    have bi:=a3 y.1 a1 s sP;have hf:s<=key:=of_decide_eq_true hf;refine List.not_le.1 (fun hc=> ?_);exact absurd bi (List.not_lt.2 (List.le_trans hf hc))
 · cases hq:ps.drop (be ps key+1) with
   |nil=>rw[hq] at T;simp[az] at T
   |cons q t=>
    have bl:ps[be ps key+1]?=some q:=by
     have:=congrArg (fun l=>l[0]?) hq;simpa using this
    have a2:kW key q=false:=by
     cases b1:kW key q with
     |false=>rfl
     |true=>
      have:=hs.pages.le bl b1;unfold be at this;omega
    have a8:=gE bl;have bm:=(h1 q a8).1;have a1:=jN T;rw[hq] at a1 a6;obtain⟨ks,vs⟩:=q;cases ks with
    |nil=>simp at bm
    |cons s ks=>
     have a2: ¬s<=key:=of_decide_eq_false a2;have bp:key<s:=List.not_le.1 a2;have e:fN (⟨s::ks,vs⟩::t)=s::(ks++fN t):=rfl;rw[e] at a1 a6;rcases List.mem_cons.1 a1 with h|h
     · rw[h];exact bp
     · exact dn bp ((List.pairwise_cons.1 a6).1 _ h)
 · have b2:=a4 y T;rcases List.mem_iff_getElem?.1 T with⟨j,hj⟩
   by_cases he:key<y.1
   · exact he
   · exfalso;have bP:y.1=key:=List.le_antisymm (List.not_lt.1 he) b2;cases hd:x.prs.drop (aX x.ks key) with
     |nil=>rw[hd] at T;simp at T
     |cons z t=>
      have hz:x.prs[aX x.ks key]?=some z:=by
       have:=congrArg (fun l=>l[0]?) hd;simpa using this
      have b3:x.ks[aX x.ks key]?=some z.1:=by
       have e1:x.ks[aX x.ks key]?=(x.prs.map Prod.fst)[aX x.ks key]?:=by rw[ba]
       rw[e1,gP,hz];rfl
      have ar:((x.prs.drop (aX x.ks key)).map Prod.fst).Pairwise (· < ·):=a0.sublist (List.Sublist.map _ (List.drop_sublist _ _));rw[hd] at ar T;rw[List.map_cons] at ar;have bR:=a4 z (by rw[hd];simp);rcases List.mem_cons.1 T with rfl|T
      · rw[bM,b3,bP] at hf;simp at hf
      · have:=(List.pairwise_cons.1 ar).1 y.1 (List.mem_map.2 ⟨y,T,rfl⟩);rw[bP] at this;exact absurd this (List.not_lt.2 bR)
 · have hg:x.ks[aX x.ks key]?=some key:=by simpa[bM] using hf
   have bi:=(gS hg).1;obtain⟨w,hw⟩: ∃w,x.vs[aX x.ks key]?=some w:=⟨_,gG C⟩
   have hz:x.prs[aX x.ks key]?=some (key,w):=by simp[Pg.prs,List.getElem?_zip_eq_some,hg,hw]
   have hd:=fu hz;refine⟨w,hd,hw,fun y T=> ?_⟩;have ar:((x.prs.drop (aX x.ks key)).map Prod.fst).Pairwise (· < ·):=a0.sublist (List.Sublist.map _ (List.drop_sublist _ _));rw[hd,List.map_cons] at ar;exact(List.pairwise_cons.1 ar).1 y.1 (List.mem_map.2 ⟨y,T,rfl⟩)
def yO(h:ps[be ps key]?=none):ps= []:=by
 cases ps with
 |nil=>rfl
 |cons p t=>have:=yP (ps:=p::t) (key:=key) sP;rw[List.getElem?_eq_none_iff] at h;omega
def vw(h:aG ps=true):getM ps key=pJ (az ps) key:=by
 rw[getM,if_pos h];cases hx:ps[be ps key]? with
 |none=>have:=yO hx;subst this;rfl
 |some x=>
  have T:=DF h hx;simp only;rw[flat_at hx];conv=>rhs;rw[<-List.take_append_drop (aX x.ks key) x.prs]
  have ha: ∀y∈az (ps.take (be ps key))++x.prs.take (aX x.ks key),y.1<key:=fun y hy=>by
   rcases mA hy with h|h
   · exact T.a y h
   · exact T.l y h
  cases hf:bM x.ks key with
  |false=>
   have hb: ∀y∈x.prs.drop (aX x.ks key)++az (ps.drop (be ps key+1)),key<y.1:=fun y hy=>by
    rcases mA hy with h|h
    · exact T.r hf y h
    · exact T.b y h
   have:=If ha hb;simp only[List.append_assoc] at this|-;rw[this];rfl
  |true=>
   obtain⟨w,hd,hw,hr⟩:=T.f hf;have hb: ∀y∈x.prs.drop (aX x.ks key+1)++az (ps.drop (be ps key+1)),key<y.1:=fun y hy=>by
    rcases mA hy with h|h
    · exact hr y h
    · exact T.b y h
   rw[hd,hw];have:=Ie (w:=w) (b:=x.prs.drop (aX x.ks key+1)++az (ps.drop (be ps key+1))) ha;simp only[List.append_assoc,List.cons_append] at this|-;rw[this];rfl
def Ay(h:aG ps=true):az (iO ps key val)=yN (az ps) key val:=by
 rw[iO,if_pos h];cases T:ps[be ps key]? with
 |none=>have:=yO T;subst this;rfl
 |some x=>
  have ar:=DF h T;have a0:=((eO ps).1 h).1 x (gE T);have a3:aX x.ks key<=x.ks.length:=jc _ _;have hi:=(gS T).1;simp only;have a1:=flat_at T;have a2:x.prs=x.prs.take (aX x.ks key)++x.prs.drop (aX x.ks key):=(List.take_append_drop _ _).symm;have ha: ∀y∈az (ps.take (be ps key))++x.prs.take (aX x.ks key),y.1<key:=fun y hy=>by
   rcases mA hy with h|h
   · exact ar.a y h
   · exact ar.l y h
  cases hf:bM x.ks key with
  |true=>
   obtain⟨w,hd,hw,hr⟩:=ar.f hf;have hb: ∀y∈x.prs.drop (aX x.ks key+1)++az (ps.drop (be ps key+1)),key<y.1:=fun y hy=>by
    rcases mA hy with h|h
    · exact hr y h
    · exact ar.b y h
   have hk:x.ks[aX x.ks key]?=some key:=by simpa[bM] using hf
   have e:(⟨x.ks,x.vs.set (aX x.ks key) val⟩:Pg).prs=x.prs.take (aX x.ks key)++(key,val)::x.prs.drop (aX x.ks key+1):=by
    have h1:(⟨x.ks,x.vs.set (aX x.ks key) val⟩:Pg).prs=x.ks.zip (x.vs.set (aX x.ks key) val):=rfl;rw[h1,oW val hw];conv=>lhs;arg 1;rw[sb hk]
    rw[tF (by have:=a0.2.2;simp;omega),List.zip_cons_cons,nJ,nK];rfl
   have e1:az ps=(az (ps.take (be ps key))++x.prs.take (aX x.ks key))++(key,w)::(x.prs.drop (aX x.ks key+1)++az (ps.drop (be ps key+1))):=by
    rw[a1];conv=>lhs;rw[a2,hd]
    simp only[List.append_assoc,List.cons_append]
   rw[if_pos U,qR _ T,e,e1,Jw ha hb];simp only[List.append_assoc,List.cons_append]
  |false=>
   have hb: ∀y∈x.prs.drop (aX x.ks key)++az (ps.drop (be ps key+1)),key<y.1:=fun y hy=>by
    rcases mA hy with h|h
    · exact ar.r hf y h
    · exact ar.b y h
   have hp:=Jx (v:=val) ha hb;have hI:=JA (ks:=x.ks) (vs:=x.vs) (k:=key) (v:=val) a0.2.2 a3;have a4:(⟨x.ks,x.vs⟩:Pg).prs=x.prs:=rfl;rw[a4] at hI;have aR:yN (az ps) key val=az (ps.take (be ps key))++((⟨aF x.ks (aX x.ks key) key,aF x.vs (aX x.ks key) val⟩:Pg).prs++az (ps.drop (be ps key+1))):=by
    rw[hI,a1];have e1:az (ps.take (be ps key))++(x.prs++az (ps.drop (be ps key+1)))=(az (ps.take (be ps key))++x.prs.take (aX x.ks key))++(x.prs.drop (aX x.ks key)++az (ps.drop (be ps key+1))):=by
     conv=>lhs;rw[a2]
     simp only[List.append_assoc]
    rw[e1,hp];simp only[List.append_assoc,List.cons_append]
   rw[aR,if_neg sP];by_cases ad:4<x.ks.length+1
   · rw[if_pos ad];have a6:be ps key+1<=ps.length:=hi;have a5:(aF ps (be ps key+1) ⟨(aF x.ks (aX x.ks key) key).drop ((x.ks.length+1) / 2),(aF x.vs (aX x.ks key) val).drop ((x.ks.length+1) / 2)⟩)[be ps key]?=some x:=by
      rw[aF,gL (by simp;omega),List.getElem?_take,if_pos C];exact T
     rw[qR _ a5];have t1:(aF ps (be ps key+1) ⟨(aF x.ks (aX x.ks key) key).drop ((x.ks.length+1) / 2),(aF x.vs (aX x.ks key) val).drop ((x.ks.length+1) / 2)⟩).take (be ps key)=ps.take (be ps key):=by
      rw[aF,tA (by simp;omega),List.take_take,Nat.min_eq_left C]
     have t2:(aF ps (be ps key+1) ⟨(aF x.ks (aX x.ks key) key).drop ((x.ks.length+1) / 2),(aF x.vs (aX x.ks key) val).drop ((x.ks.length+1) / 2)⟩).drop (be ps key+1)=⟨(aF x.ks (aX x.ks key) key).drop ((x.ks.length+1) / 2),(aF x.vs (aX x.ks key) val).drop ((x.ks.length+1) / 2)⟩::ps.drop (be ps key+1):=by
      rw[aF,List.drop_append_of_le_length (by simp;omega),dL (by simp;omega)];rfl
     rw[t1,t2,kX,<-List.append_assoc (Pg.prs _) (Pg.prs _),Jy]
   · rw[if_neg ad,qR _ T]
def Bj:az (cw ps p)=az (ps.take p)++az (ps.drop (p+1)):=by rw[cw,iD]
def xS(ha:ps[p]?=some a)(hb:ps[p+1]?=some b)(hl:a.vs.length=a.ks.length):az (mO ps p a b)=az ps:=by
 have hi:=(gS hb).1;rw[mO,Bj];have h1:(ps.set p ⟨a.ks++b.ks,a.vs++b.vs⟩).take (p+1)=ps.take p++ [⟨a.ks++b.ks,a.vs++b.vs⟩]:=by
  rw[oW _ ha,List.take_append,tL (by simp;omega)];have:p+1 - (ps.take p).length=1:=by simp;omega
  rw[this];rfl
 have h2:(ps.set p ⟨a.ks++b.ks,a.vs++b.vs⟩).drop (p+1+1)=ps.drop (p+2):=by rw[List.drop_set,if_pos C]
 rw[h1,h2,iD,kX,Hr hl];rw[flat_at ha,fu hb,kX];simp[az]
def ya(h:aG ps=true):az (fq ps key)=yb (az ps) key:=by
 rw[fq,if_pos h];cases hx:ps[be ps key]? with
 |none=>have:=yO hx;subst this;rfl
 |some x=>
  have ar:=DF h hx;obtain⟨h1,h2⟩:=(eO ps).1 h;have ad:=h1 x (gE hx);have hi:=(gS hx).1;simp only;have aR:=flat_at hx;have a0:x.prs=x.prs.take (aX x.ks key)++x.prs.drop (aX x.ks key):=(List.take_append_drop _ _).symm;have ha: ∀y∈az (ps.take (be ps key))++x.prs.take (aX x.ks key),y.1<key:=fun y hy=>by
   rcases mA hy with h|h
   · exact ar.a y h
   · exact ar.l y h
  cases hf:bM x.ks key with
  |false=>
   have hb: ∀y∈x.prs.drop (aX x.ks key)++az (ps.drop (be ps key+1)),key<y.1:=fun y hy=>by
    rcases mA hy with h|h
    · exact ar.r hf y h
    · exact ar.b y h
   rw[if_neg sP];have e1:az ps=(az (ps.take (be ps key))++x.prs.take (aX x.ks key))++(x.prs.drop (aX x.ks key)++az (ps.drop (be ps key+1))):=by
    rw[aR];conv=>lhs;rw[a0]
    simp only[List.append_assoc]
   rw[e1,Ip ha hb]
  |true=>
   obtain⟨w,hd,hw,hr⟩:=ar.f hf;have hb: ∀y∈x.prs.drop (aX x.ks key+1)++az (ps.drop (be ps key+1)),key<y.1:=fun y hy=>by
    rcases mA hy with h|h
    · exact hr y h
    · exact ar.b y h
   have a1:aX x.ks key<x.ks.length:=by
    have:x.ks[aX x.ks key]?=some key:=by simpa[bM] using hf
    exact(gS this).1
   have e1:az ps=(az (ps.take (be ps key))++x.prs.take (aX x.ks key))++(key,w)::(x.prs.drop (aX x.ks key+1)++az (ps.drop (be ps key+1))):=by
    rw[aR];conv=>lhs;rw[a0,hd]
    simp only[List.append_assoc,List.cons_append]
   rw[if_pos U,e1,Io ha hb];have hD:=JB (ks:=x.ks) (vs:=x.vs) ad.2.2 a1;have a2:(⟨x.ks,x.vs⟩:Pg).prs=x.prs:=rfl;rw[a2] at hD;generalize hX:(⟨cw x.ks (aX x.ks key),cw x.vs (aX x.ks key)⟩:Pg)=X at hD|-;have T:az (ps.set (be ps key) X)=az (ps.take (be ps key))++x.prs.take (aX x.ks key)++(x.prs.drop (aX x.ks key+1)++az (ps.drop (be ps key+1))):=by
    rw[qR X hx,hD];simp only[List.append_assoc]
   rw[<-T];have a3:X.vs.length=X.ks.length:=by rw[<-hX];show(cw x.vs _).length=(cw x.ks _).length;have:=ad.2.2;rw[eV a1,eV C];omega
   generalize be ps key=p at*
   have q0:(ps.set p X)[p]?=some X:=by rw[List.getElem?_set,if_pos U,if_pos hi]
   unfold me;split
   · rename_i h0;rw[Bj,flat_at q0];have:X.prs= []:=by
      have hz:X.ks= []:=List.length_eq_zero_iff.1 h0;rw[Pg.prs,hz];rfl
     rw[this];rfl
   · split
     · rename_i hc;refine xS (p:=p - 1) ?_ (by rw[show p - 1+1=p by omega];exact q0) (h1 _ (pz C)).2.2;rw[List.getElem?_set,if_neg C,lh C]
     · split
       · rename_i hc;refine xS q0 ?_ a3;rw[List.getElem?_set,if_neg C,lh C]
       · rfl
def rC: ∀{ps:List Pg},(∀p∈ps,Eo p)->DW ps=(az ps).length
 | [],_=>rfl
 |p::ps,h=>by
  have T:=h p sP;rw[DW,kX,gV,rC (fun q hq=>h q (by simp[hq])),Pg.prs,List.length_zip];have:=T.2.2;omega
def mP(h1: ∀p∈ps,Eo p):aG ps=true↔((az ps).map Prod.fst).Pairwise (· < ·):=by
 rw[eO,xH h1];exact⟨fun h=>h.2,fun h=>⟨h1,h⟩⟩
def CF{l:List Pr}(h:(l.map Prod.fst).Pairwise (· < ·)):((yN l k v).map Prod.fst).Pairwise (· < ·):=by
 rw[yN,pA,List.map_cons,List.pairwise_append];refine⟨h.sublist (List.Sublist.map _ List.filter_sublist),List.pairwise_cons.2 ⟨fun a ha=> ?_,h.sublist (List.Sublist.map _ List.filter_sublist)⟩,fun a ha b hb=> ?_⟩
 · obtain⟨y,T,rfl⟩:=mM ha;simpa using(List.mem_filter.1 T).2
 · obtain⟨y,T,rfl⟩:=mM ha;have T:y.1<k:=by simpa using(List.mem_filter.1 T).2
   rcases List.mem_cons.1 hb with rfl|hb
   · exact T
   · obtain⟨z,hz,rfl⟩:=mM hb;have hz:k<z.1:=by simpa using(List.mem_filter.1 hz).2
     exact dn T hz
def Bp{l:List Pr}(h:(l.map Prod.fst).Pairwise (· < ·)):((yb l k).map Prod.fst).Pairwise (· < ·):=h.sublist (List.Sublist.map _ List.filter_sublist)
def lE{l:List α}{x y:α}(h:y∈l.set p x):y=x\/y∈l:=by
 rcases List.mem_or_eq_of_mem_set h with h|h
 · exact .inr h
 · exact .inl h
def rU{l:List α}{y:α}(h:y∈cw l p):y∈l:=by
 rcases mA h with h|h
 · exact mT h
 · exact mD h
def Fq{l:List α}{x y:α}(h:y∈aF l p x):y=x\/y∈l:=by
 rcases mA h with h|h
 · exact .inr (mT h)
 · rcases List.mem_cons.1 h with h|h
   · exact .inl h
   · exact .inr (mD h)
def Lu(h: ∀p∈ps,Eo p): ∀p∈iO ps key val,Eo p:=by
 intro q T;unfold iO at T;split at T
 · cases hx:ps[be ps key]? with
   |none=>rw[hx] at T;simp only[List.mem_singleton] at T;subst T;exact⟨by simp,by simp,rfl⟩
   |some x=>
    rw[hx] at T;have ad:=h x (gE hx);have a0:aX x.ks key<=x.ks.length:=jc _ _;have ar:(aF x.ks (aX x.ks key) key).length=x.ks.length+1:=gX a0;have aR:(aF x.vs (aX x.ks key) val).length=x.ks.length+1:=by rw[gX (by have:=ad.2.2;omega),ad.2.2]
    obtain⟨o1,o2,o3⟩:=ad;simp only at T;split at T
    · rcases lE T with rfl|T
      · exact⟨o1,o2,by simpa using o3⟩
      · exact h q T
    · split at T
      · rcases lE T with rfl|T
        · refine⟨?_,?_,?_⟩<;>simp only[lT,ar,aR] <;>omega
        · rcases Fq T with rfl|T
          · refine⟨?_,?_,?_⟩<;>simp only[lD,ar,aR] <;>omega
          · exact h q T
      · rcases lE T with rfl|T
        · refine⟨?_,?_,?_⟩<;>simp only[ar,aR] <;>omega
        · exact h q T
 · exact h q T
def Ko(h: ∀p∈ps,Eo p): ∀p∈fq ps key,Eo p:=by
 intro q T;unfold fq at T;split at T
 · cases hx:ps[be ps key]? with
   |none=>rw[hx] at T;exact h q T
   |some x=>
    rw[hx] at T;have ar:=h x (gE hx);have hi:=(gS hx).1;obtain⟨o1,o2,o3⟩:=ar;simp only at T;split at T
    · rename_i hf;have aR:aX x.ks key<x.ks.length:=by
       have:x.ks[aX x.ks key]?=some key:=by simpa[bM] using hf
       exact(gS this).1
      have lk:=eV aR;have lv:=eV (l:=x.vs) (i:=aX x.ks key) C;generalize hX:(⟨cw x.ks (aX x.ks key),cw x.vs (aX x.ks key)⟩:Pg)=X at T;have eX:X.ks.length=x.ks.length - 1:=by rw[<-hX];exact lk
      have a0:X.vs.length=x.ks.length - 1:=by rw[<-hX];show(cw x.vs _).length=_;omega
      generalize be ps key=p at*
      unfold me at T;split at T
      · have a4:=rU T;rw[cw] at T;have e1:(ps.set p X).take p=ps.take p:=List.take_set_of_le nR;have e2:(ps.set p X).drop (p+1)=ps.drop (p+1):=by rw[List.drop_set];simp
        rw[e1,e2] at T;rcases mA T with T|T
        · exact h q (mT T)
        · exact h q (mD T)
      · rename_i h0;have ad:Eo X:=⟨by omega,by omega,by omega⟩
        split at T
        · rename_i hc;obtain⟨a1,a2,a3⟩:=h _ (pz (ps:=ps) (i:=p - 1) C);rcases lE (rU T) with rfl|T
          · refine⟨?_,?_,?_⟩<;>simp only[gV] <;>omega
          · rcases lE T with rfl|T
            · exact ad
            · exact h q T
        · split at T
          · rename_i hc;obtain⟨a1,a2,a3⟩:=h _ (pz (ps:=ps) (i:=p+1) C);rcases lE (rU T) with rfl|T
            · refine⟨?_,?_,?_⟩<;>simp only[gV] <;>omega
            · rcases lE T with rfl|T
              · exact ad
              · exact h q T
          · rcases lE T with rfl|T
            · exact ad
            · exact h q T
    · exact h q T
 · exact h q T
def Ax(h:aG ps=true):aG (iO ps key val)=true:=by
 have h1:=((eO ps).1 h).1;rw[mP (Lu h1),Ay h];exact CF ((mP h1).1 h)
def xZ(h:aG ps=true):aG (fq ps key)=true:=by
 have h1:=((eO ps).1 h).1;rw[mP (Ko h1),ya h];exact Bp ((mP h1).1 h)
def yM:(iO ps key val).length<=ps.length+1:=by
 unfold iO;split
 · cases T:ps[be ps key]? with
   |none=>simp
   |some x=>
    have hi:=(gS T).1;simp only;split
    · simp
    · split
      · rw[List.length_set,gX C];omega
      · simp
 · omega
def vG:(fq ps key).length<=ps.length:=by
 unfold fq;split
 · cases hx:ps[be ps key]? with
   |none=>simp
   |some x=>
    have hi:=(gS hx).1;have T: ∀{l:List Pg} {i:Nat},(cw l i).length<=l.length:=fun{l i}=>by simp[cw];omega
    simp only;split
    · unfold me mO;split
      · exact Nat.le_trans T sP
      · split
        · exact Nat.le_trans T sP
        · split
          · exact Nat.le_trans T sP
          · simp
    · omega
 · omega
def BZ(l:List Pr):Prop:=(l.map Prod.fst).Pairwise (· < ·)
def LD(a b:Str):a<b\/a=b\/b<a:=by
 by_cases h:a<b
 · exact .inl h
 · by_cases h2:b<a
   · exact .inr (.inr h2)
   · exact .inr (.inl (List.le_antisymm (List.not_lt.1 h2) (List.not_lt.1 h)))
def GZ{l:List Pr}(h:BZ l){o a b:Str}(ha:(o,a)∈l)(hb:(o,b)∈l):a=b:=by
 induction l with
 |nil=>simp at ha
 |cons x l ih=>
  have hp:=List.pairwise_cons.1 h;rcases List.mem_cons.1 ha with ea|T<;>rcases List.mem_cons.1 hb with eb|ad
  · rw[<-ea] at eb;exact(Prod.mk.inj eb).2.symm
  · subst ea;exact absurd (hp.1 o (List.mem_map.2 ⟨_,ad,rfl⟩)) (List.lt_irrefl o)
  · subst eb;exact absurd (hp.1 o (List.mem_map.2 ⟨_,T,rfl⟩)) (List.lt_irrefl o)
  · exact ih hp.2 T ad
def xV{l:List Pr}{w:Str}(hs:BZ l)(h:(o,w)∈l):pJ l o=(w,true):=by
 unfold pJ;cases T:l.find? (fun x=>x.1==o) with
 |none=>have:=List.find?_eq_none.1 T _ h;simp at this
 |some y=>
  have h1:=List.mem_of_find?_eq_some T;have h2:=List.find?_some T;obtain⟨y1,y2⟩:=y;have h2:y1=o:=eq_of_beq h2;subst h2;simp only[GZ hs h1 h]
def Km{l:List Pr}(h: ∀w,(o,w)∉l):pJ l o=([],false):=by
 rw[pJ,si (fun x T=> ?_)];cases e:x.1==o with
 |false=>rfl
 |true=>have e:=eq_of_beq e;subst e;exact absurd T (h x.2)
def Jn(h: ∀p∈ps,Eo p):DW ps<=4*ps.length:=by
 rw[rC h];exact xU (fun p T=>(h p T).2.1)
def br{l:List α}(h:l[i]?=none):l.take i=l:=tL (gO h)
end
end Go.Proofs.Y
namespace Go.Proofs.Y
open Go.Abs Go.Proofs.Tryz
attribute [local irreducible] L Code.wp bodyPost Exit.then Exit.inBlock
structure B8 where
 n:Str
 t:Int
 m:Bool
def B8.c(x:B8):List IV:= [S x.n,I x.t,.im (.bool x.m)]
structure A4 where
 n:Str
 cols:List B8
def A4.c(x:A4):List IV:= [S x.n,.sl (x.cols.map B8.c)]
structure A7 where
 n:Str
 tb:Str
 co:Str
def A7.c(x:A7):List IV:= [S x.n,S x.tb,S x.co]
structure B0 where
 ts:List A4
 is:List A7
def B0.c(x:B0):List IV:= [.sl (x.ts.map A4.c),.sl (x.is.map A7.c)]
def dF{a b:Prop}[Decidable a][Decidable b](h:decide a=false)(T:b->a):decide b=false:=decide_eq_false (fun hb=>of_decide_eq_false h (T hb))
def dT{a b:Prop}[Decidable a][Decidable b](h:decide a=true)(T:a->b):decide b=true:=decide_eq_true (T (of_decide_eq_true h))
def iB{α:Type}(p:α->Bool)(l:List α):Int:=match l.findIdx? p with|some i=>(i:Int)|none=> -1
def gC{α:Type}{p:α->Bool}{l:List α}{i:Nat}{x:α}(h: ∀y∈l.take i,p y=false)(T:l[i]?=some x)(hp:p x=true):iB p l=i:=by
 have hi:=(gS T).1;have e:l.findIdx? p=some i:=by
  rw[List.findIdx?_eq_some_iff_getElem];refine⟨hi,by rw[(gS T).2];exact hp,fun j hj=> ?_⟩;rw[h l[j] (List.mem_take_iff_getElem.2 ⟨j,by omega,rfl⟩)];simp
 rw[iB,e]
def jE{α:Type}{p:α->Bool}{l:List α}(h: ∀y∈l,p y=false):iB p l= -1:=by
 rw[iB,List.findIdx?_eq_none_iff.2 h]
def rZ{α:Type}(p:α->Bool)(l:List α):decide (0<=iB p l)=l.any p:=by
 unfold iB;cases h:l.findIdx? p with
 |none=>
  rw[List.findIdx?_eq_none_iff] at h;have:l.any p=false:=List.any_eq_false.2 (fun x T=>by simp[h x T]);rw[this];decide
 |some i=>
  have hi:=List.findIdx?_eq_some_iff_getElem.1 h;obtain⟨h1,h2,_⟩:=hi;have:l.any p=true:=List.any_eq_true.2 ⟨_,List.getElem_mem h1,h2⟩;rw[this];simp
def LG{α:Type}{p:α->Bool}{l:List α}{i:Nat}(h:iB p l=(i:Int)): ∃x,l[i]?=some x/\p x=true/\ ∀y∈l.take i,p y=false:=by
 unfold iB at h;cases T:l.findIdx? p with
 |none=>rw[T] at h;simp only at h;omega
 |some j=>
  rw[T] at h;have:j=i:=by simp only at h;omega
  subst this;obtain⟨h1,h2,h3⟩:=List.findIdx?_eq_some_iff_getElem.1 T;refine⟨l[j],gG h1,h2,fun y hy=> ?_⟩;obtain⟨k,hk,rfl⟩:=List.mem_take_iff_getElem.1 hy;have:=h3 k C;simpa using this
def ze{α:Type}(p:α->Bool)(l:List α): -1<=iB p l/\iB p l<(l.length:Int)+1/\iB p l<=l.length:=by
 unfold iB;cases h:l.findIdx? p with
 |none=>simp;omega
 |some i=>have:=(List.findIdx?_eq_some_iff_getElem.1 h).1;simp;omega
def gN{α:Type}{p:α->Bool}{l:List α}{i:Nat}{x:α}(h: ∀y∈l.take i,p y=false)(hx:l[i]?=some x)(hp:p x=false): ∀y∈l.take (i+1),p y=false:=fun y T=>by
 rw[List.take_add_one,hx] at T;rcases mA T with T|T
 · exact h y T
 · simp at T;subst T;exact hp
def fG{α:Type}{p:α->Bool}{l:List α}{i:Nat}(h: ∀y∈l.take i,p y=false)(T:l[i]?=none): ∀y∈l,p y=false:=by
 rw[tL (gO T)] at h;exact h
def CX(l:List Str)(x:Str)(hl:l.length<=140737488355328):
 CallA prog 82 [.iv (.sl (l.map Str.c)),aS x] [] [] [] (aI (iB (fun y=>x==y) l)):=by
 refine iA func82 ntmps82 (fun w0 E0=> ?_);refine wz ?_;refine ae (ι:=Nat) (fun i=>⟨[(8,aI (i:Int)),(7,aI ((l.map Str.c).length:Int)),(0,.iv (.sl (l.map Str.c))),(1,aS x)],[],[]⟩) (fun i=>l.length - i) (fun i=> ∀y∈l.take i,(x==y)=false) (i0:=0) ?_ sP ?_
 · exact df
 intro i hI K hK;cases T:l[i]? with
 |none=>
  have ad:=gc (l:=l.map Str.c) (bz T);refine wz ?_;all_goals refine aU ?_
  rw[jE (fG hI T)]
 |some y=>
  have ad:=fZ (l:=l.map Str.c) (cM (f:=Str.c) T);have ar:=fM T;have g1:(l.map Str.c)[((i:Nat):Int).toNat]?=some [S y]:=by rw[iN,gP,T];rfl
  cases hq:(x==y) with
  |true=>
   refine wz ?_;all_goals refine aU ?_
   rw[gC hI T hq]
  |false=>
   refine wz ?_;refine hK _ (i+1) (gN hI T hq) C ?_;exact df
def pL(l:List Str)(x:Str)(hl:l.length<=140737488355328):
 CallA prog 45 [.iv (.sl (l.map Str.c)),aS x] [] [] [] (aB (l.any (fun y=>x==y))):=by
 have k:=CX l x hl;refine iA func45 ntmps45 (fun w0 E0=> ?_);rw[<-rZ];refine wz ?_;all_goals refine aU ?_
 all_goals(simp[decide_eq_decide];done)
def iP(b:UInt8):Bool:=97<=b.toNat && b.toNat<=122
def bF(s:Str):Bool:=s.all iP && (decide (1<=s.length) && (decide (s.length<=8) && !words.any (fun y=>s==y)))
def jd(s:Str)(hl:s.length<=140737488355328):
 CallG tD prog 18 [aS s] [] [] [] (aB (bF s)):=by
 have k:=(pL words s (by rw[wI];decide)).toG (gs:=tD);refine iG func18 ntmps18 (fun w0 E0 hG=> ?_);refine wz ?_;refine ae (ι:=Nat) (fun i=>⟨[(6,aI (i:Int)),(5,aI (s.length:Int)),(0,aS s)],[],[]⟩) (fun i=>s.length - i) (fun i=>s.all iP=(s.drop i).all iP) (i0:=0) ?_ U ?_
 · exact df
 intro i T K hK;cases hx:s[i]? with
 |none=>
  have ad:=gc hx;rw[oF hx] at T;have T:s.all iP=true:=T;cases h1:decide ((1:Int)<=(s.length:Int)) with
  |false=>
   refine wz ?_;all_goals refine aU ?_
   have:decide (1<=s.length)=false:=dF h1 (fun h=>by omega);simp[bF,this]
  |true=>
   have e1:decide (1<=s.length)=true:=dT h1 (fun h=>by omega);cases h2:decide ((s.length:Int)<=8) with
   |false=>
    refine wz ?_;all_goals refine aU ?_
    have:decide (s.length<=8)=false:=dF h2 (fun h=>by omega);simp[bF,this]
   |true=>
    have e2:decide (s.length<=8)=true:=dT h2 (fun h=>by omega);(repeat' first|intro hb hp|refine LW.is (ag U (Jg hG HY) ?_)|refine am ?_|refine al ?_ ?_|fail)
    all_goals refine aU ?_
    rw[bF,T,e1,e2];rfl
 |some b=>
  have ad:=fZ hx;have ar:=fM hx;rw[fu hx,List.all_cons] at T;(repeat' first|intro hb hp|refine am ?_|refine al ?_ ?_|fail)
  all_goals try refine aU ?_
  all_goals try (simp[bF,T,iP, *];done)
  all_goals try (simp[bF,T,iP];omega)
  refine hK _ (i+1) ?_ C ?_
  · have h1:iP b=true:=by
     simp[iP];omega
    rw[T,h1];rfl
  · exact df
def rY{gs:aw}{f:FuncId}{caps:List AV}{bxi:List (Nat×A5)}[A0 prog f](p:B8->Bool)(l:List B8)(hl:l.length<=140737488355328)(hc: ∀y∈l,CallG gs prog f (.agg ((B8.c y).map .iv)::caps) bxi bxi [] (aB (p y)))
 (hw:E3 bxi bxi) (ar:bxi.all (fun p=> !p.2.cs.isEmpty && AV.mentsIn (keys bxi) p.2.cs)=true):
 CallG gs prog 64 [.iv (.sl (l.map B8.c)),.fn f caps] bxi bxi [] (aI (iB p l)):=by
 refine iG func64 ntmps64 (fun w0 E0 hG=> ?_);refine wz ?_;refine ae (ι:=Nat) (fun i=>⟨[(8,aI (i:Int)),(7,aI ((l.map B8.c).length:Int)),(0,.iv (.sl (l.map B8.c))),(1,.fn f caps)],bxi,[]⟩) (fun i=>l.length - i) (fun i=> ∀y∈l.take i,p y=false) (i0:=0) ?_ sP ?_
 · exact Wk.mkX ax F4 (fun s v h=>h) .nil
 intro i hI K hK;cases hx:l[i]? with
 |none=>
  have aR:=gc (l:=l.map B8.c) (bz hx);rw[jE (fG hI hx)];refine wz ?_;apply L.ends;rfl;rfl;exact fR;exact Wk.mkX ax .nil (fun s v h=>h) .nil
 |some y=>
  have aR:=fZ (l:=l.map B8.c) (cM (f:=B8.c) hx);have a0:=fM hx;have T:=hc y (gE hx);have g1:(l.map B8.c)[((i:Nat):Int).toNat]?=some [S y.n,I y.t,.im (.bool y.m)]:=by rw[iN,gP,hx];rfl
  cases hq:p y with
  |true=>
   rw[hq] at T;have ad:CallG gs prog f ([.agg ((B8.c y).map .iv)] ++caps) bxi bxi [] _:=T;rw[gC hI hx hq];(repeat' first|intro hb hp|refine aZ (f:=f) U hG U ad U hw ar U ?_|refine am ?_|refine al ?_ ?_|fail)
   apply L.ends;rfl;rfl;exact fR;exact Wk.mkX ax .nil (fun s v h=>dZ h) .nil
  |false=>
   rw[hq] at T;have ad:CallG gs prog f ([.agg ((B8.c y).map .iv)] ++caps) bxi bxi [] _:=T;(repeat' first|intro hb hp|refine aZ (f:=f) U hG U ad U hw ar U ?_|refine am ?_|refine al ?_ ?_|fail)
   refine hK _ (i+1) (gN hI hx hq) C ?_;exact Wk.mkX ax F4 (fun s v h=>dZ h) .nil
def aV(t:A4)(name:Str):Int:=iB (fun c:B8=>c.n==name) t.cols
def ab(c:B0)(name:Str):A4×Bool:=match c.ts.find? (fun t=>t.n==name) with|some t=>(t,true)|none=>(⟨[],[]⟩,false)
def zp{gs:aw}(x:B8)(name:Str)(q:Nat):
 CallG gs prog 65 [.agg (x.c.map .iv),.ptr q 0] [(q,⟨9,.l [aS name]⟩)] [(q,⟨9,.l [aS name]⟩)] [] (aB (x.n==name)):=by
 have h:CallG gs prog 65 [.agg (x.c.map .iv),.ptr 1000 0] [(1000,⟨9,.l [aS name]⟩)] [(1000,⟨9,.l [aS name]⟩)] [] (aB (x.n==name)):=by
  refine iG func65 ntmps65 (fun w0 E0 T=> ?_);refine wz ?_;all_goals exact L.ends U U fR wK
 exact h.at1 U U U U
def eI(t:A4)(name:Str)(hl:t.cols.length<=140737488355328):
 CallA prog 38 [.agg (t.c.map .iv),aS name] [] [] [] (aI (aV t name)):=by
 refine CallG.toA ?_;have k:=rY (gs:= []) (f:=65) (caps:= [.ptr 3 0]) (bxi:= [(3,⟨9,.l [aS name]⟩)]) (fun c:B8=>c.n==name) t.cols hl (fun y _=>zp y name 3) B1 U;refine iG func38 ntmps38 (fun w0 E0 T=> ?_);(repeat' first|intro hb hp|refine ag rfl (aA U) ?_|refine LW.is (jt (q:=3) U T k U U U U U ?_)|refine am ?_|refine al ?_ ?_|fail)
 all_goals refine aU ?_
 all_goals rfl
def gj(c:B0)(name:Str)(hl:c.ts.length<=140737488355328):
 CallA prog 53 [.agg (c.c.map .iv),aS name] [] [] [] (.tup [.agg ((ab c name).1.c.map .iv),.iv (B (ab c name).2)]):=by
 refine iA func53 ntmps53 (fun w0 E0=> ?_);refine wz ?_;refine ae (ι:=Nat) (fun i=>⟨[(11,aI (i:Int)),(10,aI ((c.ts.map A4.c).length:Int)),(9,.iv (.sl (c.ts.map A4.c))),(1,aS name),(4,.ptr 4 0)],[(4,⟨57,.l [.iv (S []),.nils]⟩)],[]⟩) (fun i=>c.ts.length - i) (fun i=>c.ts.find? (fun t=>t.n==name)=(c.ts.drop i).find? (fun t=>t.n==name)) (i0:=0) ?_ U ?_
 · exact df
 intro i T K hK;cases hx:c.ts[i]? with
 |none=>
  have ad:=gc (l:=c.ts.map A4.c) (bz hx);rw[oF hx] at T;have e:ab c name=(⟨[],[]⟩,false):=by rw[ab,T];rfl
  rw[e];refine wz ?_;all_goals refine aU ?_
  all_goals rfl
 |some t=>
  have ad:=fZ (l:=c.ts.map A4.c) (cM (f:=A4.c) hx);have ar:=fM hx;have g1:(c.ts.map A4.c)[((i:Nat):Int).toNat]?=some [S t.n,.sl (t.cols.map B8.c)]:=by rw[iN,gP,hx];rfl
  rw[fu hx,List.find?_cons] at T;cases hq:(t.n==name) with
  |true=>
   have e:ab c name=(t,true):=by rw[ab,T,hq]
   rw[e];refine wz ?_;all_goals refine aU ?_
   all_goals rfl
  |false=>
   rw[hq] at T;refine wz ?_;refine hK _ (i+1) T C ?_;exact df
def ti(t:A4)(i:Nat)(c:B8):Bool:= !((!bF c.n||((c.t !=1) && (c.t !=2)))||(aV t c.n !=(i:Int)))
def Dm(t:A4):Bool:=t.cols.zipIdx.all (fun p=>ti t p.2 p.1)
def cv(t:A4):Bool:=Dm t && (bF t.n && (decide (1<=t.cols.length) && (decide (t.cols.length<=4) && (t.cols.headD ⟨[],0,false⟩).m)))
structure A4.Ok (t:A4):Prop where
 n:t.n.length<=140737488355328
 l:t.cols.length<=140737488355328
 c: ∀c∈t.cols,c.n.length<=140737488355328
def pH(t:A4)(ad:t.Ok):CallG tD prog 52 [.agg (t.c.map .iv)] [] [] [] (aB (cv t)):=by
 have kn:=jd t.n ad.n;obtain⟨hn,hl,aR⟩:=ad;refine iG func52 ntmps52 (fun w0 E0 hG=> ?_);refine wz ?_;refine ae (ι:=Nat) (fun i=>⟨[(8,aI (i:Int)),(7,aI ((t.cols.map B8.c).length:Int)),(6,.iv (.sl (t.cols.map B8.c))),(1,.ptr 1 0)],[(1,⟨57,.l [aS t.n,.iv (.sl (t.cols.map B8.c))]⟩)],[]⟩) (fun i=>t.cols.length - i) (fun i=>Dm t=((t.cols.drop i).zipIdx i).all (fun p=>ti t p.2 p.1)) (i0:=0) ?_ U ?_
 · exact df
 intro i hI K hK;cases hx:t.cols[i]? with
 |none=>
  have a0:=gc (l:=t.cols.map B8.c) (bz hx);rw[oF hx] at hI;have hI:Dm t=true:=hI;have el:((t.cols.map B8.c).length:Int)=(t.cols.length:Int):=by simp
  cases h0:bF t.n with
  |false=>
   rw[h0] at kn;refine wz ?_;all_goals refine aU ?_
   simp[cv,h0]
  |true=>
   rw[h0] at kn;cases h1:decide ((1:Int)<=((t.cols.map B8.c).length:Int)) with
   |false=>
    refine wz ?_;all_goals refine aU ?_
    have:decide (1<=t.cols.length)=false:=dF h1 (fun h=>by omega);simp[cv,this]
   |true=>
    have e1:decide (1<=t.cols.length)=true:=dT h1 (fun h=>by omega);cases h2:decide (((t.cols.map B8.c).length:Int)<=4) with
    |false=>
     refine wz ?_;all_goals refine aU ?_
     have:decide (t.cols.length<=4)=false:=dF h2 (fun h=>by omega);simp[cv,this]
    |true=>
     have e2:decide (t.cols.length<=4)=true:=dT h2 (fun h=>by omega);obtain⟨c0,T⟩: ∃c0,t.cols[0]?=some c0:=⟨_,gG (by have:=of_decide_eq_true e1;omega)⟩
     have g0:(t.cols.map B8.c)[(0:Int).toNat]?=some [S c0.n,I c0.t,.im (.bool c0.m)]:=by rw[show(0:Int).toNat=0 from rfl,gP,T];rfl
     refine wz ?_;all_goals refine aU ?_
     have e3:t.cols.headD ⟨[],0,false⟩=c0:=by
      cases ar:t.cols with
      |nil=>rw[ar] at T;simp at T
      |cons a l=>rw[ar] at T;simp at T;subst T;rfl
     rw[cv,hI,h0,e1,e2,e3];rfl
 |some y=>
  have a0:=fZ (l:=t.cols.map B8.c) (cM (f:=B8.c) hx);have a1:=fM hx;have g1:(t.cols.map B8.c)[((i:Nat):Int).toNat]?=some [S y.n,I y.t,.im (.bool y.m)]:=by rw[iN,gP,hx];rfl
  have ky:=jd y.n (aR y (gE hx));have kf:=eI t y.n hl;rw[fu hx,List.zipIdx_cons,List.all_cons] at hI;(repeat' first|intro hb hp|refine am ?_|refine al ?_ ?_|fail)
  all_goals try refine aU ?_
  all_goals try (simp[cv,hI,ti, *];done)
  all_goals(refine hK _ (i+1) ?_ C ?_)
  all_goals try exact df
  all_goals(rw[hI];have hc:ti t i y=true:=(by clear hI;simp[ti, *]);simp only[hc,Bool.true_and])
structure B0.Ok (c:B0):Prop where
 t:c.ts.length<=140737488355328
 i:c.is.length<=140737488355328
 ts: ∀t∈c.ts,t.Ok
 is: ∀x∈c.is,x.n.length<=140737488355328
def qw(c:B0)(i:Nat)(t:A4):Bool:= !(!cv t||(decide ((0:Int)<(i:Int)) && !(Op.bytesLess (c.ts.getD (i - 1) ⟨[],[]⟩).n t.n)))
def yB(c:B0):Bool:=c.ts.zipIdx.all (fun p=>qw c p.2 p.1)
def sU(c:B0)(i:Nat)(x:A7):Bool:= !(((!bF x.n|| !(ab c x.tb).2)||decide (aV (ab c x.tb).1 x.co<0))||(decide ((0:Int)<(i:Int)) && !(Op.bytesLess (c.is.getD (i - 1) ⟨[],[],[]⟩).n x.n)))
def zd(c:B0):Bool:=c.is.zipIdx.all (fun p=>sU c p.2 p.1)
def dI(c:B0):Bool:=yB c && (zd c && (decide ((c.ts.length:Int)<=3) && decide ((c.is.length:Int)<=4)))
def cV{α:Type}{l:List α}{i:Nat}(d:α)(h:i<l.length):l[i]?=some (l.getD i d):=by
 rw[List.getD_eq_getElem?_getD,gG h];rfl
def Ii{c:B0}(h:c.Ok)(name:Str):(ab c name).1.Ok:=by
 unfold ab;cases T:c.ts.find? (fun t=>t.n==name) with
 |none=>exact⟨by decide,by decide,by simp⟩
 |some t=>exact h.ts t (List.mem_of_find?_eq_some T)
def sV(c:B0)(aR:c.Ok):CallG tD prog 25 [.agg (c.c.map .iv)] [] [] [] (aB (dI c)):=by
 have a0:=aR;obtain⟨ht,hi,a4,a5⟩:=aR;refine iG func25 ntmps25 (fun w0 E0 hG=> ?_);refine wz ?_;refine ae (ι:=Nat) (fun i=>⟨[(12,aI (i:Int)),(11,aI ((c.ts.map A4.c).length:Int)),(10,.iv (.sl (c.ts.map A4.c))),(1,.ptr 1 0)],[(1,⟨47,.l [.iv (.sl (c.ts.map A4.c)),.iv (.sl (c.is.map A7.c))]⟩)],[]⟩) (fun i=>c.ts.length - i) (fun i=>yB c=((c.ts.drop i).zipIdx i).all (fun p=>qw c p.2 p.1)) (i0:=0) ?_ U ?_
 · exact df
 intro i hI K hK;cases hx:c.ts[i]? with
 |some y=>
  have ad:=fZ (l:=c.ts.map A4.c) (cM (f:=A4.c) hx);have a1:=fM hx;have g1:(c.ts.map A4.c)[((i:Nat):Int).toNat]?=some [S y.n,.sl (y.cols.map B8.c)]:=by rw[iN,gP,hx];rfl
  have g2:0<i->(c.ts.map A4.c)[((i:Int) - 1).toNat]?=some [S (c.ts.getD (i - 1) ⟨[],[]⟩).n,.sl ((c.ts.getD (i - 1) ⟨[],[]⟩).cols.map B8.c)]:=fun h=>by
   rw[show((i:Int) - 1).toNat=i - 1 by omega,gP,cV ⟨[],[]⟩ (show i - 1<c.ts.length by omega)];rfl
  have ky:=pH y (a4 y (gE hx));rw[fu hx,List.zipIdx_cons,List.all_cons] at hI;generalize T:c.ts.getD (i - 1) ⟨[],[]⟩=a2 at g2;(repeat' first|intro hb hp|refine DR.is (bg U (cd U U C (g2 C) U) ?_)|refine am ?_|refine al ?_ ?_|fail)
  all_goals try refine aU ?_
  all_goals try (have hc:qw c i y=false:=(by clear hI;rw[qw,T];clear T;simp only[*,bb]);rw[dI,hI,hc];rfl)
  all_goals(refine hK _ (i+1) ?_ C ?_)
  all_goals try exact df
  all_goals(rw[hI];have hc:qw c i y=true:=(by clear hI;rw[qw,T];clear T;simp only[*,bb]);simp only[hc,Bool.true_and])
 |none=>
  have ad:=gc (l:=c.ts.map A4.c) (bz hx);rw[oF hx] at hI;have hT:yB c=true:=hI;clear hI hK;refine wz ?_;refine ae (ι:=Nat) (fun i=>⟨[(40,aI (i:Int)),(39,aI ((c.is.map A7.c).length:Int)),(38,.iv (.sl (c.is.map A7.c))),(1,.ptr 1 0)],[(1,⟨47,.l [.iv (.sl (c.ts.map A4.c)),.iv (.sl (c.is.map A7.c))]⟩)],[]⟩) (fun i=>c.is.length - i) (fun i=>zd c=((c.is.drop i).zipIdx i).all (fun p=>sU c p.2 p.1)) (i0:=0) ?_ U ?_
  · exact df
  clear hx ad;intro i hI K hK;cases hx:c.is[i]? with
  |some y=>
   have ad:=fZ (l:=c.is.map A7.c) (cM (f:=A7.c) hx);have a1:=fM hx;have g1:(c.is.map A7.c)[((i:Nat):Int).toNat]?=some [S y.n,S y.tb,S y.co]:=by rw[iN,gP,hx];rfl
   have g2:0<i->(c.is.map A7.c)[((i:Int) - 1).toNat]?=some [S (c.is.getD (i - 1) ⟨[],[],[]⟩).n,S (c.is.getD (i - 1) ⟨[],[],[]⟩).tb,S (c.is.getD (i - 1) ⟨[],[],[]⟩).co]:=fun h=>by
    rw[show((i:Int) - 1).toNat=i - 1 by omega,gP,cV ⟨[],[],[]⟩ (show i - 1<c.is.length by omega)];rfl
   have ky:=jd y.n (a5 y (gE hx));have kf:=gj c y.tb ht;have a3:=Ii a0 y.tb;rw[fu hx,List.zipIdx_cons,List.all_cons] at hI;generalize T:c.is.getD (i - 1) ⟨[],[],[]⟩=a2 at g2;generalize ar:ab c y.tb=ft at kf a3;obtain⟨tt,is⟩:=ft;have kc:=eI tt y.co a3.l;(repeat' first|intro hb hp|refine DR.is (bg U (cd U U C (g2 C) U) ?_)|refine am ?_|refine al ?_ ?_|fail)
   all_goals try refine aU ?_
   all_goals try (have hc:sU c i y=false:=(by clear hI;rw[sU,T,ar];clear T ar;simp only[*,bb]);rw[dI,hT,hI,hc];rfl)
   all_goals(refine hK _ (i+1) ?_ C ?_)
   all_goals try exact df
   all_goals(rw[hI];have hc:sU c i y=true:=(by clear hI;rw[sU,T,ar];clear T ar;simp only[*,bb]);simp only[hc,Bool.true_and])
  |none=>
   have ad:=gc (l:=c.is.map A7.c) (bz hx);rw[oF hx] at hI;have hU:zd c=true:=hI;clear hI hK;have l1:((c.ts.map A4.c).length:Int)=(c.ts.length:Int):=by simp
   have l2:((c.is.map A7.c).length:Int)=(c.is.length:Int):=by simp
   cases h3:decide (((c.ts.map A4.c).length:Int)<=3) with
   |false=>
    refine wz ?_;all_goals refine aU ?_
    rw[dI,hT,hU,<-l1,h3];rfl
   |true=>
    refine wz ?_;all_goals refine aU ?_
    rw[dI,hT,hU,<-l1,<-l2,h3];rfl
def dm(t:Str):Str:=([114] ++t)++ [0]
def aO(t:Str):Str:=([120] ++t)++ [0]
def de(vs:List A3):Str:=(CR vs).1
def ap(t:Str)(id:A3):Str:=dm t++de [id]
def eE(x:Str)(v id:A3):Str:=aO x++de [v,id]
structure Way where
 i:Str
 lo:Str
 hi:Str
def Way.c(w:Way):List IV:= [S w.i,S w.lo,S w.hi]
def eh(t:Str):Way:=⟨[],dm t,([114] ++t)++ [1]⟩
def KG(x:Int):(Ce x).length=4:=rfl
def CQ{v:A3}(h:au v=true):(bZ v).length<=10:=by
 unfold bZ;simp only[lC];split
 · simp[KG]
 · split
   · rename_i h1 h2;simp only[au,h2] at h;simp only[gV,List.length_singleton];simp at h;omega
   · simp
def kV(vs:List A3):(de vs).length<=10*vs.length:=by
 unfold de CR;split
 · rename_i h;simp only;induction vs with
   |nil=>simp
   |cons v vs T=>
    simp only[List.all_cons,aE] at h;have h1:=CQ h.1;have h2:=T h.2;simp only[List.flatMap_cons,gV,lC];omega
 · simp
def uB(t:Str)(hl:t.length<=140737488355328):CallA prog 58 [aS t] [] [] [] (aS (dm t)):=by
 refine iA func58 ntmps58 (fun w0 E0=> ?_);refine wz ?_;all_goals refine aU ?_
 all_goals rfl
def lN(t:Str)(hl:t.length<=140737488355328):CallA prog 55 [aS t] [] [] [] (aS (aO t)):=by
 refine iA func55 ntmps55 (fun w0 E0=> ?_);refine wz ?_;all_goals refine aU ?_
 all_goals rfl
def oe(vs:List A3)(hl:10*vs.length<=140737488355328):CallA prog 67 [.iv (.sl (vs.map A3.c))] [] [] [] (aS (de vs)):=by
 have k:=JQ vs hl;refine iA func67 ntmps67 (fun w0 E0=> ?_);refine wz ?_;all_goals refine aU ?_
 all_goals rfl
def ja(t:Str)(id:A3)(hl:t.length<=140737488355328):CallA prog 57 [aS t,.agg (id.c.map .iv)] [] [] [] (aS (ap t id)):=by
 have T:=uB t hl;have k2:=oe [id] sP;have h2:=kV [id];have h1:(dm t).length=t.length+2:=by simp[dm]
 simp only[List.length_singleton] at h2;refine iA func57 ntmps57 (fun w0 E0=> ?_);refine wz ?_;all_goals refine aU ?_
 all_goals rfl
def qQ(t:Str)(v id:A3)(hl:t.length<=140737488355328):CallA prog 40 [aS t,.agg (v.c.map .iv),.agg (id.c.map .iv)] [] [] [] (aS (eE t v id)):=by
 have T:=lN t hl;have k2:=oe [v,id] sP;have h2:=kV [v,id];have h1:(aO t).length=t.length+2:=by simp[aO]
 simp only[lC,List.length_nil] at h2;refine iA func40 ntmps40 (fun w0 E0=> ?_);refine wz ?_;all_goals refine aU ?_
 all_goals rfl
def oR(t:Str)(hl:t.length<=140737488355328):CallA prog 28 [aS t] [] [] [] (.agg ((eh t).c.map .iv)):=by
 have T:=uB t hl;refine iA func28 ntmps28 (fun w0 E0=> ?_);refine wz ?_;all_goals refine aU ?_
 all_goals rfl
def De(c:B8)(v:A3):Bool:= !(!au v||((v.k !=c.t) && (c.m||(v.k !=0))))
def oz(row:List A3)(i:Nat)(cs:List B8):Bool:=(cs.zipIdx i).all (fun p=>De p.1 (row.getD p.2 af))
def jK(t:A4)(row:List A3):Bool:=row.length==t.cols.length && oz row 0 t.cols
def HQ(m:Str)(b:UInt8):CallA prog 102 [aS m,.iv (.im (.int .u8 b.toNat))] [] [] [] (aI (Lib.indexByte m b)):=by
 refine iA func102 ntmps102 (fun w0 E0=> ?_);refine wz ?_;all_goals refine aU ?_
 all_goals simp[resOf]
def Ew(m:Str)(b:UInt8):CallA prog 68 [aS m,.iv (.im (.int .u8 b.toNat))] [] [] [] (aI (Lib.indexByte m b)):=by
 have k:=HQ m b;refine iA func68 ntmps68 (fun w0 E0=> ?_);refine wz ?_;all_goals refine aU ?_
 all_goals rfl
def lb(b:UInt8):Bool:=48<=b.toNat && b.toNat<=57
def DX:Str:= [40,41,44,59,46,61,60,43,45,42]
def fc(c:UInt8)(r:Str):Option Nat:=
 if iP c then some (1+(r.takeWhile iP).length)
 else if lb c then some (1+(r.takeWhile lb).length)
 else if c=39 then(if Lib.indexByte r 39<0 then none else some ((Lib.indexByte r 39).toNat+2))
 else if 0<=Lib.indexByte DX c then some 1 else none
def yz{c:UInt8}{r:Str}{n:Nat}(h:fc c r=some n):1<=n:=by
 unfold fc at h;repeat' split at h
 all_goals first|(cases h;done)|(cases h;omega)
def cW(s:Str):Option (List Str):=
 match s with
 | [] =>some []
 |c::r=>if c=32\/c=10 then cW r else match h:fc c r with
  |none=>none
  |some n=>(cW ((c::r).drop n)).map ((c::r).take n:: ·)
 termination_by s.length
 decreasing_by
  all_goals first|(simp;done)|(have:=yz h;simp[lD];omega)
def rB:cW [] =some []:=by rw[cW]
def sJ{c:UInt8}{r:Str}(h:c=32\/c=10):cW (c::r)=cW r:=by rw[cW,if_pos h]
def ul{c:UInt8}{r:Str}(h: ¬(c=32\/c=10))(ht:fc c r=none):cW (c::r)=none:=by
 rw[cW,if_neg h];split
 · rfl
 · rename_i T;rw[ht] at T;cases T
def uj{c:UInt8}{r:Str}{n:Nat}(h: ¬(c=32\/c=10))(ht:fc c r=some n):cW (c::r)=(cW ((c::r).drop n)).map ((c::r).take n:: ·):=by
 rw[cW,if_neg h];split
 · rename_i T;rw[ht] at T;cases T
 · rename_i T;rw[ht] at T;cases T;rfl
def yx{p:UInt8->Bool}: ∀{r:Str} {j:Nat} {c:UInt8},r[j]?=some c->p c=true->j<=(r.takeWhile p).length->j+1<=(r.takeWhile p).length
 | [],j,c,h,_,_=>by simp at h
 |b::r,0,c,h,hc,_=>by simp at h;subst h;simp[hc]
 |b::r,j+1,c,h,hc,T=>by
  cases hb:p b with
  |false=>simp[hb] at T
  |true=>
   rw[List.takeWhile_cons,if_pos hb] at T|-;simp only[lC] at T|-;have:=yx (r:=r) (j:=j) (c:=c) (by simpa using h) hc C;omega
def qv{p:UInt8->Bool}: ∀{r:Str} {j:Nat} {c:UInt8},r[j]?=some c->p c=false->j<=(r.takeWhile p).length->(r.takeWhile p).length=j
 | [],j,c,h,_,_=>by simp at h
 |b::r,0,c,h,hc,_=>by simp at h;subst h;simp[hc]
 |b::r,j+1,c,h,hc,T=>by
  cases hb:p b with
  |false=>simp[hb] at T
  |true=>
   rw[List.takeWhile_cons,if_pos hb] at T|-;simp only[lC] at T|-;rw[qv (r:=r) (j:=j) (c:=c) (by simpa using h) hc C]
def KT(p:UInt8->Bool)(r:Str):(r.takeWhile p).length<=r.length:=(List.takeWhile_prefix _).length_le
def Ex.cs(e:Ex):List IV:= [I e.op,I e.v.k,I e.v.n,S e.v.s,S e.s,S e.name,I e.n,.sl (e.l.map Ex.c)]
def aN(e:Ex):e.c=e.cs:=by cases e;exact Ex.c_eq _ _ _ _ _ _
def nilE:Ex:= .mk 0 ⟨0,0,[]⟩ [] [] 0 []
structure D4 where
 co:Str
 e:Ex
def D4.c(x:D4):List IV:=S x.co::x.e.cs
def nh(n:Int):List IV:= [I n]
structure A9 where
 kind:Int
 name:Str
 table:Str
 col:Str
 cols:List B8
 rows:List (List Ex)
 sets:List D4
 frm:List Str
 out:List Ex
 wh:Ex
 ord:List Ex
 down:Bool
 n:Int
def bf(r:List Ex):List IV:= [.sl (r.map Ex.c)]
def A9.cs(s:A9):List IV:= [I s.kind,S s.name,S s.table,S s.col,.sl (s.cols.map B8.c),.sl (s.rows.map bf),.sl (s.sets.map D4.c),.sl (s.frm.map Str.c),.sl (s.out.map Ex.c),
 I s.wh.op,I s.wh.v.k,I s.wh.v.n,S s.wh.v.s,S s.wh.s,S s.wh.name,I s.wh.n,.sl (s.wh.l.map Ex.c),.sl (s.ord.map Ex.c),.im (.bool s.down),I s.n]
mutual
def xB{l:List Nat}: ∀(v:AV),AV.mentIn [] v=true->AV.mentIn l v=true
 | .any,_=>rfl
 | .iv _,_=>rfl
 | .nils,_=>rfl
 | .emp,_=>rfl
 | .el _,_=>rfl
 | .row _ _,h=>by simp[AV.mentIn] at h
 | .ptr _ _,h=>by simp[AV.mentIn] at h
 | .bsl _ _ _ _,h=>by simp[AV.mentIn] at h
 | .bsh _ _ _ _,h=>by simp[AV.mentIn] at h
 | .agg cs,h=>by rw[AV.mentIn] at h|-;exact fx h
 | .tup cs,h=>by rw[AV.mentIn] at h|-;exact fx h
 | .fn _ cs,h=>by rw[AV.mentIn] at h|-;exact fx h
 | .opt _ v,h=>by rw[AV.mentIn] at h|-;exact xB v h
def fx{l:List Nat}: ∀{cs:List AV},AV.mentsIn [] cs=true->AV.mentsIn l cs=true
 | [],_=>rfl
 |c::cs,h=>by
  rw[AV.mentsIn,aE] at h|-;exact⟨xB c h.1,fx h.2⟩
end
def La:A9:=⟨0,[],[],[],[],[],[],[],[],nilE,[],false,0⟩
section
variable {b:A5}{bxi:List (Nat×A5)}{caps:List AV}{f:FuncId}{gs:aw}
def om[A0 prog f](p:Ex->Bool)(l:List Ex)(hl:l.length<=140737488355328)(hc: ∀y∈l,CallG gs prog f (.agg ((Ex.cs y).map .iv)::caps) bxi bxi [] (aB (p y)))
 (hw:E3 bxi bxi) (ar:bxi.all (fun p=> !p.2.cs.isEmpty && AV.mentsIn (keys bxi) p.2.cs)=true):
 CallG gs prog 108 [.iv (.sl (l.map Ex.c)),.fn f caps] bxi bxi [] (aI (iB p l)):=by
 refine iG func108 ntmps108 (fun w0 E0 hG=> ?_);refine wz ?_;refine ae (ι:=Nat) (fun i=>⟨[(8,aI (i:Int)),(7,aI ((l.map Ex.c).length:Int)),(0,.iv (.sl (l.map Ex.c))),(1,.fn f caps)],bxi,[]⟩) (fun i=>l.length - i) (fun i=> ∀y∈l.take i,p y=false) (i0:=0) ?_ sP ?_
 · exact Wk.mkX ax F4 (fun s v h=>h) .nil
 intro i hI K hK;cases hx:l[i]? with
 |none=>
  have aR:=gc (l:=l.map Ex.c) (bz hx);rw[jE (fG hI hx)];refine wz ?_;apply L.ends;rfl;rfl;exact fR;exact Wk.mkX ax .nil (fun s v h=>h) .nil
 |some y=>
  have aR:=fZ (l:=l.map Ex.c) (cM (f:=Ex.c) hx);have a0:=fM hx;have T:=hc y (gE hx);have g1:(l.map Ex.c)[((i:Nat):Int).toNat]?=some [I y.op,I y.v.k,I y.v.n,S y.v.s,S y.s,S y.name,I y.n,.sl (y.l.map Ex.c)]:=by rw[iN,gP,hx];exact congrArg some (aN y)
  cases hq:p y with
  |true=>
   rw[hq] at T;have ad:CallG gs prog f ([.agg ((Ex.cs y).map .iv)] ++caps) bxi bxi [] _:=T;rw[gC hI hx hq];(repeat' first|intro hb hp|refine aZ (f:=f) U hG U ad U hw ar U ?_|refine am ?_|refine al ?_ ?_|fail)
   apply L.ends;rfl;rfl;exact fR;exact Wk.mkX ax .nil (fun s v h=>dZ h) .nil
  |false=>
   rw[hq] at T;have ad:CallG gs prog f ([.agg ((Ex.cs y).map .iv)] ++caps) bxi bxi [] _:=T;(repeat' first|intro hb hp|refine aZ (f:=f) U hG U ad U hw ar U ?_|refine am ?_|refine al ?_ ?_|fail)
   refine hK _ (i+1) (gN hI hx hq) C ?_;exact Wk.mkX ax F4 (fun s v h=>dZ h) .nil
def wx[A0 prog f](p:Ex->Bool)(l:List Ex)(hl:l.length<=140737488355328)(T:b.cs.isEmpty=false)(hm:AV.mentsIn [] b.cs=true)
 (hc: ∀y∈l,CallG gs prog f [.agg ((Ex.cs y).map .iv),.ptr 1000 0] [(1000,b)] [(1000,b)] [] (aB (p y))):
 CallG gs prog 85 [.iv (.sl (l.map Ex.c)),.fn f [.ptr 1000 0]] [(1000,b)] [(1000,b)] [] (aB (l.any p)):=by
 have k:=om (f:=f) (caps:= [.ptr 1000 0]) (bxi:= [(1000,b)]) p l hl hc B1 (by simp[T,fx hm]);refine iG func85 ntmps85 (fun w0 E0 hG=> ?_);rw[<-rZ];(repeat' first|intro hb hp|refine LW.is (jt (q:=1000) U hG k U U T hm U ?_)|refine am ?_|refine al ?_ ?_|fail)
 all_goals exact L.ends U U fR wK
def vj[A0 prog f](p:A7->Bool)(l:List A7)(hl:l.length<=140737488355328)(hc: ∀y∈l,CallG gs prog f (.agg ((A7.c y).map .iv)::caps) bxi bxi [] (aB (p y)))
 (hw:E3 bxi bxi) (ar:bxi.all (fun p=> !p.2.cs.isEmpty && AV.mentsIn (keys bxi) p.2.cs)=true):
 CallG gs prog 111 [.iv (.sl (l.map A7.c)),.fn f caps] bxi bxi [] (aI (iB p l)):=by
 refine iG func111 ntmps111 (fun w0 E0 hG=> ?_);refine wz ?_;refine ae (ι:=Nat) (fun i=>⟨[(8,aI (i:Int)),(7,aI ((l.map A7.c).length:Int)),(0,.iv (.sl (l.map A7.c))),(1,.fn f caps)],bxi,[]⟩) (fun i=>l.length - i) (fun i=> ∀y∈l.take i,p y=false) (i0:=0) ?_ sP ?_
 · exact Wk.mkX ax F4 (fun s v h=>h) .nil
 intro i hI K hK;cases hx:l[i]? with
 |none=>
  have aR:=gc (l:=l.map A7.c) (bz hx);rw[jE (fG hI hx)];refine wz ?_;apply L.ends;rfl;rfl;exact fR;exact Wk.mkX ax .nil (fun s v h=>h) .nil
 |some y=>
  have aR:=fZ (l:=l.map A7.c) (cM (f:=A7.c) hx);have a0:=fM hx;have T:=hc y (gE hx);have g1:(l.map A7.c)[((i:Nat):Int).toNat]?=some [S y.n,S y.tb,S y.co]:=by rw[iN,gP,hx];rfl
  cases hq:p y with
  |true=>
   rw[hq] at T;have ad:CallG gs prog f ([.agg ((A7.c y).map .iv)] ++caps) bxi bxi [] _:=T;rw[gC hI hx hq];(repeat' first|intro hb hp|refine aZ (f:=f) U hG U ad U hw ar U ?_|refine am ?_|refine al ?_ ?_|fail)
   apply L.ends;rfl;rfl;exact fR;exact Wk.mkX ax .nil (fun s v h=>dZ h) .nil
  |false=>
   rw[hq] at T;have ad:CallG gs prog f ([.agg ((A7.c y).map .iv)] ++caps) bxi bxi [] _:=T;(repeat' first|intro hb hp|refine aZ (f:=f) U hG U ad U hw ar U ?_|refine am ?_|refine al ?_ ?_|fail)
   refine hK _ (i+1) (gN hI hx hq) C ?_;exact Wk.mkX ax F4 (fun s v h=>dZ h) .nil
def wu[A0 prog f](p:A7->Bool)(l:List A7)(hl:l.length<=140737488355328)(T:b.cs.isEmpty=false)(hm:AV.mentsIn [] b.cs=true)
 (hc: ∀y∈l,CallG gs prog f [.agg ((A7.c y).map .iv),.ptr 1000 0] [(1000,b)] [(1000,b)] [] (aB (p y))):
 CallG gs prog 89 [.iv (.sl (l.map A7.c)),.fn f [.ptr 1000 0]] [(1000,b)] [(1000,b)] [] (aB (l.any p)):=by
 have k:=vj (f:=f) (caps:= [.ptr 1000 0]) (bxi:= [(1000,b)]) p l hl hc B1 (by simp[T,fx hm]);refine iG func89 ntmps89 (fun w0 E0 hG=> ?_);rw[<-rZ];(repeat' first|intro hb hp|refine LW.is (jt (q:=1000) U hG k U U T hm U ?_)|refine am ?_|refine al ?_ ?_|fail)
 all_goals exact L.ends U U fR wK
def vl[A0 prog f](p:D4->Bool)(l:List D4)(hl:l.length<=140737488355328)(hc: ∀y∈l,CallG gs prog f (.agg ((D4.c y).map .iv)::caps) bxi bxi [] (aB (p y)))
 (hw:E3 bxi bxi) (ar:bxi.all (fun p=> !p.2.cs.isEmpty && AV.mentsIn (keys bxi) p.2.cs)=true):
 CallG gs prog 154 [.iv (.sl (l.map D4.c)),.fn f caps] bxi bxi [] (aI (iB p l)):=by
 refine iG func154 ntmps154 (fun w0 E0 hG=> ?_);refine wz ?_;refine ae (ι:=Nat) (fun i=>⟨[(8,aI (i:Int)),(7,aI ((l.map D4.c).length:Int)),(0,.iv (.sl (l.map D4.c))),(1,.fn f caps)],bxi,[]⟩) (fun i=>l.length - i) (fun i=> ∀y∈l.take i,p y=false) (i0:=0) ?_ sP ?_
 · exact Wk.mkX ax F4 (fun s v h=>h) .nil
 intro i hI K hK;cases hx:l[i]? with
 |none=>
  have aR:=gc (l:=l.map D4.c) (bz hx);rw[jE (fG hI hx)];refine wz ?_;apply L.ends;rfl;rfl;exact fR;exact Wk.mkX ax .nil (fun s v h=>h) .nil
 |some y=>
  have aR:=fZ (l:=l.map D4.c) (cM (f:=D4.c) hx);have a0:=fM hx;have T:=hc y (gE hx);have g1:(l.map D4.c)[((i:Nat):Int).toNat]?=some [S y.co,I y.e.op,I y.e.v.k,I y.e.v.n,S y.e.v.s,S y.e.s,S y.e.name,I y.e.n,.sl (y.e.l.map Ex.c)]:=by rw[iN,gP,hx];rfl
  cases hq:p y with
  |true=>
   rw[hq] at T;have ad:CallG gs prog f ([.agg ((D4.c y).map .iv)] ++caps) bxi bxi [] _:=T;rw[gC hI hx hq];(repeat' first|intro hb hp|refine aZ (f:=f) U hG U ad U hw ar U ?_|refine am ?_|refine al ?_ ?_|fail)
   apply L.ends;rfl;rfl;exact fR;exact Wk.mkX ax .nil (fun s v h=>dZ h) .nil
  |false=>
   rw[hq] at T;have ad:CallG gs prog f ([.agg ((D4.c y).map .iv)] ++caps) bxi bxi [] _:=T;(repeat' first|intro hb hp|refine aZ (f:=f) U hG U ad U hw ar U ?_|refine am ?_|refine al ?_ ?_|fail)
   refine hK _ (i+1) (gN hI hx hq) C ?_;exact Wk.mkX ax F4 (fun s v h=>dZ h) .nil
def wv[A0 prog f](p:D4->Bool)(l:List D4)(hl:l.length<=140737488355328)(T:b.cs.isEmpty=false)(hm:AV.mentsIn [] b.cs=true)
 (hc: ∀y∈l,CallG gs prog f [.agg ((D4.c y).map .iv),.ptr 1000 0] [(1000,b)] [(1000,b)] [] (aB (p y))):
 CallG gs prog 113 [.iv (.sl (l.map D4.c)),.fn f [.ptr 1000 0]] [(1000,b)] [(1000,b)] [] (aB (l.any p)):=by
 have k:=vl (f:=f) (caps:= [.ptr 1000 0]) (bxi:= [(1000,b)]) p l hl hc B1 (by simp[T,fx hm]);refine iG func113 ntmps113 (fun w0 E0 hG=> ?_);rw[<-rZ];(repeat' first|intro hb hp|refine LW.is (jt (q:=1000) U hG k U U T hm U ?_)|refine am ?_|refine al ?_ ?_|fail)
 all_goals exact L.ends U U fR wK
def vo[A0 prog f](p:Int->Bool)(l:List Int)(hl:l.length<=140737488355328)(hc: ∀y∈l,CallG gs prog f (aI y::caps) bxi bxi [] (aB (p y)))
 (hw:E3 bxi bxi) (ar:bxi.all (fun p=> !p.2.cs.isEmpty && AV.mentsIn (keys bxi) p.2.cs)=true):
 CallG gs prog 191 [.iv (.sl (l.map nh)),.fn f caps] bxi bxi [] (aI (iB p l)):=by
 refine iG func191 ntmps191 (fun w0 E0 hG=> ?_);refine wz ?_;refine ae (ι:=Nat) (fun i=>⟨[(8,aI (i:Int)),(7,aI ((l.map nh).length:Int)),(0,.iv (.sl (l.map nh))),(1,.fn f caps)],bxi,[]⟩) (fun i=>l.length - i) (fun i=> ∀y∈l.take i,p y=false) (i0:=0) ?_ sP ?_
 · exact Wk.mkX ax F4 (fun s v h=>h) .nil
 intro i hI K hK;cases hx:l[i]? with
 |none=>
  have aR:=gc (l:=l.map nh) (bz hx);rw[jE (fG hI hx)];refine wz ?_;apply L.ends;rfl;rfl;exact fR;exact Wk.mkX ax .nil (fun s v h=>h) .nil
 |some y=>
  have aR:=fZ (l:=l.map nh) (cM (f:=nh) hx);have a0:=fM hx;have T:=hc y (gE hx);have g1:(l.map nh)[((i:Nat):Int).toNat]?=some [I y]:=by rw[iN,gP,hx];rfl
  cases hq:p y with
  |true=>
   rw[hq] at T;have ad:CallG gs prog f ([aI y] ++caps) bxi bxi [] _:=T;rw[gC hI hx hq];(repeat' first|intro hb hp|refine aZ (f:=f) U hG U ad U hw ar U ?_|refine am ?_|refine al ?_ ?_|fail)
   apply L.ends;rfl;rfl;exact fR;exact Wk.mkX ax .nil (fun s v h=>dZ h) .nil
  |false=>
   rw[hq] at T;have ad:CallG gs prog f ([aI y] ++caps) bxi bxi [] _:=T;(repeat' first|intro hb hp|refine aZ (f:=f) U hG U ad U hw ar U ?_|refine am ?_|refine al ?_ ?_|fail)
   refine hK _ (i+1) (gN hI hx hq) C ?_;exact Wk.mkX ax F4 (fun s v h=>dZ h) .nil
def ww[A0 prog f](p:Int->Bool)(l:List Int)(hl:l.length<=140737488355328)(T:b.cs.isEmpty=false)(hm:AV.mentsIn [] b.cs=true)
 (hc: ∀y∈l,CallG gs prog f [aI y,.ptr 1000 0] [(1000,b)] [(1000,b)] [] (aB (p y))):
 CallG gs prog 156 [.iv (.sl (l.map nh)),.fn f [.ptr 1000 0]] [(1000,b)] [(1000,b)] [] (aB (l.any p)):=by
 have k:=vo (f:=f) (caps:= [.ptr 1000 0]) (bxi:= [(1000,b)]) p l hl hc B1 (by simp[T,fx hm]);refine iG func156 ntmps156 (fun w0 E0 hG=> ?_);rw[<-rZ];(repeat' first|intro hb hp|refine LW.is (jt (q:=1000) U hG k U U T hm U ?_)|refine am ?_|refine al ?_ ?_|fail)
 all_goals exact L.ends U U fR wK
def vN[A0 prog f](p:Ex->Bool)(l:List Ex)(hl:l.length<=140737488355328)
 (hc: ∀y∈l,CallG gs prog f [.agg ((Ex.cs y).map .iv)] [] [] [] (aB (p y))):
 CallG gs prog 85 [.iv (.sl (l.map Ex.c)),.fn f []] [] [] [] (aB (l.any p)):=by
 have k:=om (f:=f) (caps:= []) (bxi:= []) p l hl hc .nil U;refine iG func85 ntmps85 (fun w0 E0 T=> ?_);rw[<-rZ];refine wz ?_;all_goals refine aU ?_
 all_goals rfl
end
def Fz(s name:Str)(t:A4):Bool:=decide ((0:Int)<=aV t name) && (s== [] ||s==t.n)
def eQ(t:A4)(k:Int):Int:=(t.cols.getD k.toNat ⟨[],0,false⟩).t
def iE(s name:Str):List A4->Int->Int->Int->Int×Int×Int
 | [],at_,place,kind=>if place<0 then(0,0,3) else(place,kind,0)
 |t::ts,at_,place,kind=>
  if Fz s name t then
   if 0<=place then(0,0,3) else iE s name ts (at_+t.cols.length) (at_+aV t name) (eQ t (aV t name))
  else iE s name ts (at_+t.cols.length) place kind
def eF(ts:List A4)(s name:Str):Int×Int×Int:=iE s name ts 0 (-1) 0
structure Sc (s:List A4):Prop where
 l:s.length<=1000
 c: ∀t∈s,t.cols.length<=1000
def Sc.nil:Sc []:=⟨by decide,by simp⟩
def Ih(ts:List A4)(e:Ex)(hs:Sc ts):
 CallA prog 158 [.iv (.sl (ts.map A4.c)),.agg (e.cs.map .iv)] [] [] [] (.tup [.iv (I (eF ts e.s e.name).1),.iv (I (eF ts e.s e.name).2.1),.iv (I (eF ts e.s e.name).2.2)]):=by
 obtain⟨op,v,s,name,n,l⟩:=e;have hc:(Ex.mk op v s name n l).cs= [I op,I v.k,I v.n,S v.s,S s,S name,I n,.sl (l.map Ex.c)]:=rfl;show CallA _ _ _ _ _ _ (.tup [.iv (I (eF ts s name).1),.iv (I (eF ts s name).2.1),.iv (I (eF ts s name).2.2)]);rw[hc];clear hc;have hl:=hs.l;refine iA func158 ntmps158 (fun w0 E0=> ?_);refine wz ?_;refine ae (ι:=Nat×Int×Int×Int) (fun i=>⟨[(15,aI (i.1:Int)),(14,aI ((ts.map A4.c).length:Int)),(13,.iv (.sl (ts.map A4.c))),(3,.ptr 3 0),(7,aI i.2.1),(8,aI i.2.2.1),(9,aI i.2.2.2)],
  [(3,⟨78,.l [.iv (I op),.iv (I v.k),.iv (I v.n),.iv (S v.s),.iv (S s),.iv (S name),.iv (I n),.iv (.sl (l.map Ex.c))]⟩)],[]⟩) (fun i=>ts.length - i.1)
  (fun i=>eF ts s name=iE s name (ts.drop i.1) i.2.1 i.2.2.1 i.2.2.2/\0<=i.2.1/\i.2.1<=1000*i.1/\ -1<=i.2.2.1/\i.2.2.1<=1000*i.1) (i0:=(0,0,-1,0)) ?_ ⟨rfl,by decide,by decide,by decide,by decide⟩ ?_
 · exact df
 rintro ⟨i,a,p,k⟩ ⟨hI,b1,b2,b3,b4⟩ K hK;dsimp only at hI b1 b2 b3 b4|-;cases hx:ts[i]? with
 |none=>
  have aR:=gc (l:=ts.map A4.c) (bz hx);rw[oF hx,iE] at hI;by_cases T:p<0
  · rw[if_pos T] at hI;have q0:decide (p<0)=true:=decide_eq_true T;rw[hI];refine wz ?_;all_goals refine aU ?_
    all_goals rfl
  · rw[if_neg T] at hI;have q0:decide (p<0)=false:=decide_eq_false T;rw[hI];refine wz ?_;all_goals refine aU ?_
    all_goals rfl
 |some t=>
  have aR:=fZ (l:=ts.map A4.c) (cM (f:=A4.c) hx);have a4:=fM hx;have g1:(ts.map A4.c)[((i:Nat):Int).toNat]?=some [S t.n,.sl (t.cols.map B8.c)]:=by rw[iN,gP,hx];rfl
  have a5:=hs.c t (gE hx);have kf:=eI t name C;have lc:((t.cols.map B8.c).length:Int)=(t.cols.length:Int):=by simp
  have ar:=ze (fun c:B8=>c.n==name) t.cols;have a0:aV t name=iB (fun c:B8=>c.n==name) t.cols:=rfl;rw[<-a0] at ar;rw[fu hx,iE] at hI;cases hh:Fz s name t with
  |false=>
   rw[hh,if_neg sP] at hI;unfold Fz at hh;have ad:(fun i:Nat×Int×Int×Int=>eF ts s name=iE s name (ts.drop i.1) i.2.1 i.2.2.1 i.2.2.2/\0<=i.2.1/\i.2.1<=1000*i.1/\ -1<=i.2.2.1/\i.2.2.1<=1000*i.1) (i+1,a+((t.cols.map B8.c).length:Int),p,k):=by
    refine⟨by rw[hI,lc],?_,?_,b3,?_⟩
    · dsimp only;omega
    · dsimp only;rw[lc];omega
    · dsimp only;omega
   cases h1:decide ((0:Int)<=aV t name) with
   |false=>
    refine wz ?_;refine hK _ (i+1,a+((t.cols.map B8.c).length:Int),p,k) ad oD ?_;exact df
   |true=>
    rw[h1,Bool.true_and,Bool.or_eq_false_iff] at hh;obtain⟨h2,h3⟩:=hh;refine wz ?_;refine hK _ (i+1,a+((t.cols.map B8.c).length:Int),p,k) ad oD ?_;exact df
  |true=>
   rw[hh,if_pos U] at hI;unfold Fz at hh;rw[aE,Bool.or_eq_true] at hh;obtain⟨h1,a1⟩:=hh;have h0:0<=aV t name:=of_decide_eq_true h1;have a2:(aV t name).toNat<t.cols.length:=by
    unfold aV at h0|-;unfold iB at h0|-;cases hf:t.cols.findIdx? (fun c:B8=>c.n==name) with
    |none=>rw[hf] at h0;simp only at h0;omega
    |some j=>have:=(List.findIdx?_eq_some_iff_getElem.1 hf).1;simpa using this
   have g2:(t.cols.map B8.c)[(aV t name).toNat]?=some [S (t.cols.getD (aV t name).toNat ⟨[],0,false⟩).n,I (t.cols.getD (aV t name).toNat ⟨[],0,false⟩).t,.im (.bool (t.cols.getD (aV t name).toNat ⟨[],0,false⟩).m)]:=by rw[gP,cV ⟨[],0,false⟩ a2];rfl
   have hh:(s== [] ||s==t.n)=true:=by rw[Bool.or_eq_true];exact a1
   by_cases T:0<=p
   · rw[if_pos T] at hI;have q0:decide (0<=p)=true:=decide_eq_true T;rw[hI];cases h2:s== [] with
     |true=>
      refine wz ?_;all_goals refine aU ?_
      all_goals rfl
     |false=>
      have h3:(s==t.n)=true:=by rw[h2,Bool.false_or] at hh;exact hh
      refine wz ?_;all_goals refine aU ?_
      all_goals rfl
   · rw[if_neg T] at hI;have q0:decide (0<=p)=false:=decide_eq_false T;have a3:eQ t (aV t name)=(t.cols.getD (aV t name).toNat ⟨[],0,false⟩).t:=rfl;rw[a3] at hI;generalize t.cols.getD (aV t name).toNat ⟨[],0,false⟩=cc at*
     generalize aV t name=kk at*
     have ad:(fun i:Nat×Int×Int×Int=>eF ts s name=iE s name (ts.drop i.1) i.2.1 i.2.2.1 i.2.2.2/\0<=i.2.1/\i.2.1<=1000*i.1/\ -1<=i.2.2.1/\i.2.2.1<=1000*i.1) (i+1,a+((t.cols.map B8.c).length:Int),a+kk,cc.t):=by
      refine⟨by rw[hI,lc],?_,?_,?_,?_⟩
      · dsimp only;omega
      · dsimp only;rw[lc];omega
      · dsimp only;omega
      · dsimp only;omega
     cases h2:s== [] with
     |true=>
      (repeat' first|intro hb hp|(refine LW.is ?_;first|refine ag U (cd U U (by first|omega|exact h0) (by first|exact g1|exact g2) U) ?_)|(refine DR.is ?_;first|refine bg U (cd U U (by first|omega|exact h0) (by first|exact g1|exact g2) U) ?_)|refine am ?_|refine al ?_ ?_|fail)
      refine hK _ (i+1,a+((t.cols.map B8.c).length:Int),a+kk,cc.t) ad oD ?_;exact df
     |false=>
      have h3:(s==t.n)=true:=by rw[h2,Bool.false_or] at hh;exact hh
      (repeat' first|intro hb hp|(refine LW.is ?_;first|refine ag U (cd U U (by first|omega|exact h0) (by first|exact g1|exact g2) U) ?_)|(refine DR.is ?_;first|refine bg U (cd U U (by first|omega|exact h0) (by first|exact g1|exact g2) U) ?_)|refine am ?_|refine al ?_ ?_|fail)
      refine hK _ (i+1,a+((t.cols.map B8.c).length:Int),a+kk,cc.t) ad oD ?_;exact df
def wD(k:Int)(ts:List Int):Bool:= !(ts.any (fun t=>(t !=k) && (t !=0)))
def DC{gs:aw}(y k:Int):
 CallG gs prog 157 [aI y,.ptr 1000 0] [(1000,⟨3,.l [aI k]⟩)] [(1000,⟨3,.l [aI k]⟩)] [] (aB ((y !=k) && (y !=0))):=by
 refine iG func157 ntmps157 (fun w0 E0 T=> ?_);cases h:y !=k
 · refine wz ?_;all_goals exact L.ends U U fR wK
 · refine wz ?_;all_goals exact L.ends U U fR wK
def FT{gs:aw}(k:Int)(ts:List Int)(hl:ts.length<=140737488355328):
 CallG gs prog 155 [aI k,.ptr 1000 0] [(1000,⟨147,.l [.iv (.sl (ts.map nh))]⟩)] [(1000,⟨147,.l [.iv (.sl (ts.map nh))]⟩)] [] (aB (wD k ts)):=by
 have T:=ww (gs:=gs) (f:=157) (b:=⟨3,.l [aI k]⟩) (fun t=>(t !=k) && (t !=0)) ts hl U U (fun y _=>DC y k);refine iG func155 ntmps155 (fun w0 E0 hG=> ?_);(repeat' first|intro hb hp|refine ag rfl (aA U) ?_|refine LW.is (fv (q:=2) U hG T U U U U U U U ?_)|refine am ?_|refine al ?_ ?_|fail)
 all_goals exact L.ends U U fR wK
end Go.Proofs.Y
