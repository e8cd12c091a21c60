/- Lemmas towards the law. Conditions: each one says its own. -/
import Derived.Test.YtnhmohbhgocbjaaGreatDoorZT5
import Derived.Test.YtnhmohbhgocbjaaGreatDoorZT6
set_option linter.all false
set_option maxHeartbeats 64000000
set_option maxRecDepth 100000
namespace Go.Proofs.Y
open Go.Abs
def zn(l:List Pr)(k v:Str):List Pr:=l.filter (fun x=>decide (x.1<k))++(k,v)::l.filter (fun x=>decide (k<x.1))
def yz(l:List Pr)(k:Str):List Pr:=l.filter (fun x=> !(x.1==k))
def pT(l:List Pr)(k:Str):Str×Bool:=match l.find? (fun x=>x.1==k) with
 |some x=>(x.2,true)
 |none=>([],false)
def Kn{a b:Str}(h:a<b):(a==b)=false:=by
 cases e:a==b with
 |false=>rfl
 |true=>rw[eq_of_beq e] at h;exact absurd h (List.lt_irrefl b)
def Mp{a b:Str}(h:a<b):(b==a)=false:=by
 cases e:b==a with
 |false=>rfl
 |true=>rw[eq_of_beq e] at h;exact absurd h (List.lt_irrefl a)
def nB{p:Pr→Bool}{l:List Pr}(h: ∀x∈l,p x=true):l.filter p=l:=List.filter_eq_self.2 h
def rp{p:Pr→Bool}{l:List Pr}(h: ∀x∈l,p x=false):l.filter p= []:=List.filter_eq_nil_iff.2 (fun x hx=>by simp[h x hx])
def sG{l:List Pr}{k:Str}(h: ∀x∈l,(x.1==k)=false):l.find? (fun x=>x.1==k)=none:=List.find?_eq_none.2 (fun x hx=>by simp[h x hx])
section
variable {a b:List Pr}{k v w:Str}(ha: ∀x∈a,x.1<k)(hb: ∀x∈b,k<x.1)
include ha hb
def JZ:zn (a++b) k v=a++(k,v)::b:=by
 rw[zn,List.filter_append,List.filter_append,nB (l:=a) (fun x hx=>decide_eq_true (ha x hx)),rp (l:=b) (fun x hx=>decide_eq_false (List.lt_asymm (hb x hx))),rp (l:=a) (fun x hx=>decide_eq_false (List.lt_asymm (ha x hx))),nB (l:=b) (fun x hx=>decide_eq_true (hb x hx))];simp
def JY:zn (a++(k,w)::b) k v=a++(k,v)::b:=by
 rw[zn,List.filter_append,List.filter_append,List.filter_cons,List.filter_cons,nB (l:=a) (fun x hx=>decide_eq_true (ha x hx)),rp (l:=b) (fun x hx=>decide_eq_false (List.lt_asymm (hb x hx))),rp (l:=a) (fun x hx=>decide_eq_false (List.lt_asymm (ha x hx))),nB (l:=b) (fun x hx=>decide_eq_true (hb x hx))];simp[List.lt_irrefl]
def IQ:yz (a++b) k=a++b:=nB (fun x hx=>by
 rcases mA hx with h|h
 · rw[Kn (ha x h)];rfl
 · rw[Mp (hb x h)];rfl)
def IN:yz (a++(k,w)::b) k=a++b:=by
 rw[yz,List.filter_append,List.filter_cons,nB (l:=a) (fun x hx=>by rw[Kn (ha x hx)];rfl),nB (l:=b) (fun x hx=>by rw[Mp (hb x hx)];rfl)];simp
def IE:pT (a++b) k=([],false):=by
 rw[pT,sG (fun x hx=> ?_)];rcases mA hx with h|h
 · exact Kn (ha x h)
 · exact Mp (hb x h)
omit hb in
def ID:pT (a++(k,w)::b) k=(w,true):=by
 rw[pT,List.find?_append,sG (fun x hx=>Kn (ha x hx))];simp
end
section
variable {a b:Pg}{i p:Nat}{k key o v val:Str}{ks vs:List Str}{ps:List Pg}{α β:Type}
def nQ: ∀(n:Nat) (l:List α) (m:List β),(l.take n).zip (m.take n)=(l.zip m).take n
 |0,l,m=>by simp
 |n+1,[],m=>by simp
 |n+1,a::l,[] =>by simp
 |n+1,a::l,b::m=>by simp[nQ n l m]
def nS: ∀(n:Nat) (l:List α) (m:List β),(l.drop n).zip (m.drop n)=(l.zip m).drop n
 |0,l,m=>by simp
 |n+1,[],m=>by simp
 |n+1,a::l,[] =>by simp
 |n+1,a::l,b::m=>by simp[nS n l m]
def tX{l l':List α}{m m':List β}(h:l.length=m.length):(l++l').zip (m++m')=l.zip m++l'.zip m':=List.zip_append h
def Kc(h:vs.length=ks.length)(hi:i≤ks.length):(⟨aF ks i k,aF vs i v⟩:Pg).prs=(Pg.prs ⟨ks,vs⟩).take i++(k,v)::(Pg.prs ⟨ks,vs⟩).drop i:=by
 simp only[Pg.prs,aF];rw[tX (by simp;omega),List.zip_cons_cons,nQ,nS]
def Kd(h:vs.length=ks.length)(hi:i<ks.length):(⟨cx ks i,cx vs i⟩:Pg).prs=(Pg.prs ⟨ks,vs⟩).take i++(Pg.prs ⟨ks,vs⟩).drop (i+1):=by
 simp only[Pg.prs,cx];rw[tX (by simp;omega),nQ,nS]
def Ka(i:Nat):(⟨ks.take i,vs.take i⟩:Pg).prs++(⟨ks.drop i,vs.drop i⟩:Pg).prs=(Pg.prs ⟨ks,vs⟩):=by
 simp only[Pg.prs];rw[nQ,nS,List.take_append_drop]
def HP(h:a.vs.length=a.ks.length):(⟨a.ks++b.ks,a.vs++b.vs⟩:Pg).prs=a.prs++b.prs:=by
 simp only[Pg.prs];rw[tX C]
def pg: ∀{l:List α} {p:Nat} {x:α} (y:α),l[p]?=some x→l.set p y=l.take p++y::l.drop (p+1)
 |a::l,0,x,y,h=>by simp
 |a::l,p+1,x,y,h=>by simp[pg y (show l[p]?=some x by simpa using h)]
def sx{l:List α}{x:α}(h:l[p]?=some x):l=l.take p++x::l.drop (p+1):=by
 conv=>lhs;rw[←List.take_append_drop p l,eS h]
def lb(p:Pg)(ps:List Pg):ax (p::ps)=p.prs++ax ps:=rfl
def ri{x:Pg}(y:Pg)(h:ps[p]?=some x):ax (ps.set p y)=ax (ps.take p)++(y.prs++ax (ps.drop (p+1))):=by
 rw[pg y h,iD];rfl
def flat_at{x:Pg}(h:ps[p]?=some x):ax ps=ax (ps.take p)++(x.prs++ax (ps.drop (p+1))):=by
 conv=>lhs;rw[sx h]
 rw[iD];rfl
structure Around (ps:List Pg) (key:Str) (x:Pg):Prop where
 a: ∀y∈ax (ps.take (be ps key)),y.1<key
 b: ∀y∈ax (ps.drop (be ps key+1)),key<y.1
 l: ∀y∈x.prs.take (aW x.ks key),y.1<key
 r:bN x.ks key=false→ ∀y∈x.prs.drop (aW x.ks key),key<y.1
 f:bN x.ks key=true→ ∃w,x.prs.drop (aW x.ks key)=(key,w)::x.prs.drop (aW x.ks key+1)∧x.vs[aW x.ks key]?=some w∧ ∀y∈x.prs.drop (aW x.ks key+1),key<y.1
def Az(key:Str): ∀(ks vs:List Str),∀y∈(ks.zip vs).take (aW ks key),y.1<key
 | [],vs,y,h=>by simp at h
 |s::ks,[],y,h=>by simp at h
 |s::ks,v::vs,y,h=>by
  unfold aW pre at h;by_cases hs:s<key
  · simp only[hs,decide_true,if_true,List.zip_cons_cons,List.take_succ_cons,List.mem_cons] at h;rcases h with rfl|h
    · exact hs
    · exact Az key ks vs y h
  · simp[hs] at h
def Ei{x:Pg}(h:aG ps=true)(hx:ps[be ps key]?=some x):Around ps key x:=by
 obtain⟨h1,h2⟩:=(eQ ps).1 h;have hs:=dG key h;have hmem:=gE hx;have hi:=(gS hx).1;have hk:=sq h2 hmem;have hkeys:=h2;rw[sx hx,rg] at hkeys;have hcons:fQ (x::ps.drop (be ps key+1))=x.ks++fQ (ps.drop (be ps key+1)):=rfl;rw[hcons] at hkeys;obtain⟨_,hr,hcross⟩:=List.pairwise_append.1 hkeys;obtain⟨_,hrb,hcross2⟩:=List.pairwise_append.1 hr;have hne:=(h1 x hmem).1;have hvl:=(h1 x hmem).2.2;have hdrop:=Bc (key:=key) x hk;have hfst: ∀y∈x.prs.drop (aW x.ks key),key≤y.1:=fun y hy=>by
  rw[hdrop] at hy;have:=(List.mem_filter.1 hy).2;simp only[Bool.not_eq_true',decide_eq_false_iff_not] at this;exact List.not_lt.1 this
 have hks:x.prs.map Prod.fst=x.ks:=Fd hvl;have hsort:(x.prs.map Prod.fst).Pairwise (· < ·):=by rw[hks];exact hk
 refine⟨fun y hy=> ?_,fun y hy=> ?_,Az key x.ks x.vs,fun hf y hy=> ?_,fun hf=> ?_⟩
 · have hx1:=jP hy;have hpos:0<be ps key:=by
    refine Nat.pos_of_ne_zero (fun e=> ?_);rw[e] at hy;simp[ax] at hy
   have hq:be ps key<pre (la key) ps:=by unfold be at hpos⊢;omega
   have hf:=ve hx hq;obtain⟨ks,vs⟩:=x;cases ks with
   |nil=>simp at hne
   |cons s ks=>
    have hlt:=hcross y.1 hx1 s sP;have hf:s≤key:=of_decide_eq_true hf;refine List.not_le.1 (fun hc=> ?_);exact absurd hlt (List.not_lt.2 (List.le_trans hf hc))
 · cases hq:ps.drop (be ps key+1) with
   |nil=>rw[hq] at hy;simp[ax] at hy
   |cons q t=>
    have hq1:ps[be ps key+1]?=some q:=by
     have:=congrArg (fun l=>l[0]?) hq;simpa using this
    have hnot:la key q=false:=by
     cases hfl:la key q with
     |false=>rfl
     |true=>
      have:=hs.pages.le hq1 hfl;unfold be at this;omega
    have hqmem:=gE hq1;have hqne:=(h1 q hqmem).1;have hx1:=jP hy;rw[hq] at hx1 hrb;obtain⟨ks,vs⟩:=q;cases ks with
    |nil=>simp at hqne
    |cons s ks=>
     have hnot: ¬s≤key:=of_decide_eq_false hnot;have hlo:key<s:=List.not_le.1 hnot;have e:fQ (⟨s::ks,vs⟩::t)=s::(ks++fQ t):=rfl;rw[e] at hx1 hrb;rcases List.mem_cons.1 hx1 with h|h
     · rw[h];exact hlo
     · exact dp hlo ((List.pairwise_cons.1 hrb).1 _ h)
 · have hle:=hfst y hy;rcases List.mem_iff_getElem?.1 hy with⟨j,hj⟩
   by_cases he:key<y.1
   · exact he
   · exfalso;have hek:y.1=key:=List.le_antisymm (List.not_lt.1 he) hle;cases hd:x.prs.drop (aW x.ks key) with
     |nil=>rw[hd] at hy;simp at hy
     |cons z t=>
      have hz:x.prs[aW x.ks key]?=some z:=by
       have:=congrArg (fun l=>l[0]?) hd;simpa using this
      have hzk:x.ks[aW x.ks key]?=some z.1:=by
       have e1:x.ks[aW x.ks key]?=(x.prs.map Prod.fst)[aW x.ks key]?:=by rw[hks]
       rw[e1,gP,hz];rfl
      have hs2:((x.prs.drop (aW x.ks key)).map Prod.fst).Pairwise (· < ·):=hsort.sublist (List.Sublist.map _ (List.drop_sublist _ _));rw[hd] at hs2 hy;rw[List.map_cons] at hs2;have hzle:=hfst z (by rw[hd];simp);rcases List.mem_cons.1 hy with rfl|hy
      · rw[bN,hzk,hek] at hf;simp at hf
      · have:=(List.pairwise_cons.1 hs2).1 y.1 (List.mem_map.2 ⟨y,hy,rfl⟩);rw[hek] at this;exact absurd this (List.not_lt.2 hzle)
 · have hg:x.ks[aW x.ks key]?=some key:=by simpa[bN] using hf
   have hlt:=(gS hg).1;obtain⟨w,hw⟩: ∃w,x.vs[aW x.ks key]?=some w:=⟨_,gG C⟩
   have hz:x.prs[aW x.ks key]?=some (key,w):=by simp[Pg.prs,List.getElem?_zip_eq_some,hg,hw]
   have hd:=eS hz;refine⟨w,hd,hw,fun y hy=> ?_⟩;have hs2:((x.prs.drop (aW x.ks key)).map Prod.fst).Pairwise (· < ·):=hsort.sublist (List.Sublist.map _ (List.drop_sublist _ _));rw[hd,List.map_cons] at hs2;exact(List.pairwise_cons.1 hs2).1 y.1 (List.mem_map.2 ⟨y,hy,rfl⟩)
def zo(h:ps[be ps key]?=none):ps= []:=by
 cases ps with
 |nil=>rfl
 |cons p t=>have:=zp (ps:=p::t) (key:=key) sP;rw[List.getElem?_eq_none_iff] at h;omega
def vR(h:aG ps=true):getM ps key=pT (ax ps) key:=by
 rw[getM,if_pos h];cases hx:ps[be ps key]? with
 |none=>have:=zo hx;subst this;rfl
 |some x=>
  have ar:=Ei h hx;simp only;rw[flat_at hx];conv=>rhs;rw[←List.take_append_drop (aW x.ks key) x.prs]
  have ha: ∀y∈ax (ps.take (be ps key))++x.prs.take (aW x.ks key),y.1<key:=fun y hy=>by
   rcases mA hy with h|h
   · exact ar.a y h
   · exact ar.l y h
  cases hf:bN x.ks key with
  |false=>
   have hb: ∀y∈x.prs.drop (aW x.ks key)++ax (ps.drop (be ps key+1)),key<y.1:=fun y hy=>by
    rcases mA hy with h|h
    · exact ar.r hf y h
    · exact ar.b y h
   have:=IE ha hb;simp only[List.append_assoc] at this⊢;rw[this];rfl
  |true=>
   obtain⟨w,hd,hw,hr⟩:=ar.f hf;have hb: ∀y∈x.prs.drop (aW x.ks key+1)++ax (ps.drop (be ps key+1)),key<y.1:=fun y hy=>by
    rcases mA hy with h|h
    · exact hr y h
    · exact ar.b y h
   rw[hd,hw];have:=ID (w:=w) (b:=x.prs.drop (aW x.ks key+1)++ax (ps.drop (be ps key+1))) ha;simp only[List.append_assoc,List.cons_append] at this⊢;rw[this];rfl
def AX(h:aG ps=true):ax (iP ps key val)=zn (ax ps) key val:=by
 rw[iP,if_pos h];cases hx:ps[be ps key]? with
 |none=>have:=zo hx;subst this;rfl
 |some x=>
  have ar:=Ei h hx;have hok:=((eQ ps).1 h).1 x (gE hx);have hlb:aW x.ks key≤x.ks.length:=jd _ _;have hi:=(gS hx).1;simp only;have hfl:=flat_at hx;have hxs:x.prs=x.prs.take (aW x.ks key)++x.prs.drop (aW x.ks key):=(List.take_append_drop _ _).symm;have ha: ∀y∈ax (ps.take (be ps key))++x.prs.take (aW x.ks key),y.1<key:=fun y hy=>by
   rcases mA hy with h|h
   · exact ar.a y h
   · exact ar.l y h
  cases hf:bN x.ks key with
  |true=>
   obtain⟨w,hd,hw,hr⟩:=ar.f hf;have hb: ∀y∈x.prs.drop (aW x.ks key+1)++ax (ps.drop (be ps key+1)),key<y.1:=fun y hy=>by
    rcases mA hy with h|h
    · exact hr y h
    · exact ar.b y h
   have hk:x.ks[aW x.ks key]?=some key:=by simpa[bN] using hf
   have e:(⟨x.ks,x.vs.set (aW x.ks key) val⟩:Pg).prs=x.prs.take (aW x.ks key)++(key,val)::x.prs.drop (aW x.ks key+1):=by
    have h1:(⟨x.ks,x.vs.set (aW x.ks key) val⟩:Pg).prs=x.ks.zip (x.vs.set (aW x.ks key) val):=rfl;rw[h1,pg val hw];conv=>lhs;arg 1;rw[sx hk]
    rw[tX (by have:=hok.2.2;simp;omega),List.zip_cons_cons,nQ,nS];rfl
   have e1:ax ps=(ax (ps.take (be ps key))++x.prs.take (aW x.ks key))++(key,w)::(x.prs.drop (aW x.ks key+1)++ax (ps.drop (be ps key+1))):=by
    rw[hfl];conv=>lhs;rw[hxs,hd]
    simp only[List.append_assoc,List.cons_append]
   rw[if_pos U,ri _ hx,e,e1,JY ha hb];simp only[List.append_assoc,List.cons_append]
  |false=>
   have hb: ∀y∈x.prs.drop (aW x.ks key)++ax (ps.drop (be ps key+1)),key<y.1:=fun y hy=>by
    rcases mA hy with h|h
    · exact ar.r hf y h
    · exact ar.b y h
   have hp:=JZ (v:=val) ha hb;have hI:=Kc (ks:=x.ks) (vs:=x.vs) (k:=key) (v:=val) hok.2.2 hlb;have hpx:(⟨x.ks,x.vs⟩:Pg).prs=x.prs:=rfl;rw[hpx] at hI;have hgoal:zn (ax ps) key val=ax (ps.take (be ps key))++((⟨aF x.ks (aW x.ks key) key,aF x.vs (aW x.ks key) val⟩:Pg).prs++ax (ps.drop (be ps key+1))):=by
    rw[hI,hfl];have e1:ax (ps.take (be ps key))++(x.prs++ax (ps.drop (be ps key+1)))=(ax (ps.take (be ps key))++x.prs.take (aW x.ks key))++(x.prs.drop (aW x.ks key)++ax (ps.drop (be ps key+1))):=by
     conv=>lhs;rw[hxs]
     simp only[List.append_assoc]
    rw[e1,hp];simp only[List.append_assoc,List.cons_append]
   rw[hgoal,if_neg sP];by_cases hbig:4<x.ks.length+1
   · rw[if_pos hbig];have hil:be ps key+1≤ps.length:=hi;have hx':(aF ps (be ps key+1) ⟨(aF x.ks (aW x.ks key) key).drop ((x.ks.length+1) / 2),(aF x.vs (aW x.ks key) val).drop ((x.ks.length+1) / 2)⟩)[be ps key]?=some x:=by
      rw[aF,gL (by simp;omega),List.getElem?_take,if_pos C];exact hx
     rw[ri _ hx'];have t1:(aF ps (be ps key+1) ⟨(aF x.ks (aW x.ks key) key).drop ((x.ks.length+1) / 2),(aF x.vs (aW x.ks key) val).drop ((x.ks.length+1) / 2)⟩).take (be ps key)=ps.take (be ps key):=by
      rw[aF,tA (by simp;omega),List.take_take,Nat.min_eq_left C]
     have t2:(aF ps (be ps key+1) ⟨(aF x.ks (aW x.ks key) key).drop ((x.ks.length+1) / 2),(aF x.vs (aW x.ks key) val).drop ((x.ks.length+1) / 2)⟩).drop (be ps key+1)=⟨(aF x.ks (aW x.ks key) key).drop ((x.ks.length+1) / 2),(aF x.vs (aW x.ks key) val).drop ((x.ks.length+1) / 2)⟩::ps.drop (be ps key+1):=by
      rw[aF,List.drop_append_of_le_length (by simp;omega),dL (by simp;omega)];rfl
     rw[t1,t2,lb,←List.append_assoc (Pg.prs _) (Pg.prs _),Ka]
   · rw[if_neg hbig,ri _ hx]
def BG:ax (cx ps p)=ax (ps.take p)++ax (ps.drop (p+1)):=by rw[cx,iD]
def yr(ha:ps[p]?=some a)(hb:ps[p+1]?=some b)(hl:a.vs.length=a.ks.length):ax (mU ps p a b)=ax ps:=by
 have hi:=(gS hb).1;rw[mU,BG];have h1:(ps.set p ⟨a.ks++b.ks,a.vs++b.vs⟩).take (p+1)=ps.take p++ [⟨a.ks++b.ks,a.vs++b.vs⟩]:=by
  rw[pg _ ha,List.take_append,tL (by simp;omega)];have:p+1 - (ps.take p).length=1:=by simp;omega
  rw[this];rfl
 have h2:(ps.set p ⟨a.ks++b.ks,a.vs++b.vs⟩).drop (p+1+1)=ps.drop (p+2):=by rw[List.drop_set,if_pos C]
 rw[h1,h2,iD,lb,HP hl];rw[flat_at ha,eS hb,lb];simp[ax]
def yy(h:aG ps=true):ax (fx ps key)=yz (ax ps) key:=by
 rw[fx,if_pos h];cases hx:ps[be ps key]? with
 |none=>have:=zo hx;subst this;rfl
 |some x=>
  have ar:=Ei h hx;obtain⟨h1,h2⟩:=(eQ ps).1 h;have hok:=h1 x (gE hx);have hi:=(gS hx).1;simp only;have hfl:=flat_at hx;have hxs:x.prs=x.prs.take (aW x.ks key)++x.prs.drop (aW x.ks key):=(List.take_append_drop _ _).symm;have ha: ∀y∈ax (ps.take (be ps key))++x.prs.take (aW x.ks key),y.1<key:=fun y hy=>by
   rcases mA hy with h|h
   · exact ar.a y h
   · exact ar.l y h
  cases hf:bN x.ks key with
  |false=>
   have hb: ∀y∈x.prs.drop (aW x.ks key)++ax (ps.drop (be ps key+1)),key<y.1:=fun y hy=>by
    rcases mA hy with h|h
    · exact ar.r hf y h
    · exact ar.b y h
   rw[if_neg sP];have e1:ax ps=(ax (ps.take (be ps key))++x.prs.take (aW x.ks key))++(x.prs.drop (aW x.ks key)++ax (ps.drop (be ps key+1))):=by
    rw[hfl];conv=>lhs;rw[hxs]
    simp only[List.append_assoc]
   rw[e1,IQ ha hb]
  |true=>
   obtain⟨w,hd,hw,hr⟩:=ar.f hf;have hb: ∀y∈x.prs.drop (aW x.ks key+1)++ax (ps.drop (be ps key+1)),key<y.1:=fun y hy=>by
    rcases mA hy with h|h
    · exact hr y h
    · exact ar.b y h
   have hlt:aW x.ks key<x.ks.length:=by
    have:x.ks[aW x.ks key]?=some key:=by simpa[bN] using hf
    exact(gS this).1
   have e1:ax ps=(ax (ps.take (be ps key))++x.prs.take (aW x.ks key))++(key,w)::(x.prs.drop (aW x.ks key+1)++ax (ps.drop (be ps key+1))):=by
    rw[hfl];conv=>lhs;rw[hxs,hd]
    simp only[List.append_assoc,List.cons_append]
   rw[if_pos U,e1,IN ha hb];have hD:=Kd (ks:=x.ks) (vs:=x.vs) hok.2.2 hlt;have hpx:(⟨x.ks,x.vs⟩:Pg).prs=x.prs:=rfl;rw[hpx] at hD;generalize hX:(⟨cx x.ks (aW x.ks key),cx x.vs (aW x.ks key)⟩:Pg)=X at hD⊢;have hgoal:ax (ps.set (be ps key) X)=ax (ps.take (be ps key))++x.prs.take (aW x.ks key)++(x.prs.drop (aW x.ks key+1)++ax (ps.drop (be ps key+1))):=by
    rw[ri X hx,hD];simp only[List.append_assoc]
   rw[←hgoal];have hXl:X.vs.length=X.ks.length:=by rw[←hX];show(cx x.vs _).length=(cx x.ks _).length;have:=hok.2.2;rw[fc hlt,fc C];omega
   generalize be ps key=p at*
   have q0:(ps.set p X)[p]?=some X:=by rw[List.getElem?_set,if_pos U,if_pos hi]
   unfold mj;split
   · rename_i h0;rw[BG,flat_at q0];have:X.prs= []:=by
      have hz:X.ks= []:=List.length_eq_zero_iff.1 h0;rw[Pg.prs,hz];rfl
     rw[this];rfl
   · split
     · rename_i hc;refine yr (p:=p - 1) ?_ (by rw[show p - 1+1=p by omega];exact q0) (h1 _ (pK C)).2.2;rw[List.getElem?_set,if_neg C,lm C]
     · split
       · rename_i hc;refine yr q0 ?_ hXl;rw[List.getElem?_set,if_neg C,lm C]
       · rfl
def rV: ∀{ps:List Pg},(∀p∈ps,Dm p)→Ez ps=(ax ps).length
 | [],_=>rfl
 |p::ps,h=>by
  have hp:=h p sP;rw[Ez,lb,gV,rV (fun q hq=>h q (by simp[hq])),Pg.prs,List.length_zip];have:=hp.2.2;omega
def mV(h1: ∀p∈ps,Dm p):aG ps=true↔((ax ps).map Prod.fst).Pairwise (· < ·):=by
 rw[eQ,yf h1];exact⟨fun h=>h.2,fun h=>⟨h1,h⟩⟩
def Dd{l:List Pr}(h:(l.map Prod.fst).Pairwise (· < ·)):((zn l k v).map Prod.fst).Pairwise (· < ·):=by
 rw[zn,pA,List.map_cons,List.pairwise_append];refine⟨h.sublist (List.Sublist.map _ List.filter_sublist),List.pairwise_cons.2 ⟨fun a ha=> ?_,h.sublist (List.Sublist.map _ List.filter_sublist)⟩,fun a ha b hb=> ?_⟩
 · obtain⟨y,hy,rfl⟩:=mM ha;simpa using(List.mem_filter.1 hy).2
 · obtain⟨y,hy,rfl⟩:=mM ha;have hy:y.1<k:=by simpa using(List.mem_filter.1 hy).2
   rcases List.mem_cons.1 hb with rfl|hb
   · exact hy
   · obtain⟨z,hz,rfl⟩:=mM hb;have hz:k<z.1:=by simpa using(List.mem_filter.1 hz).2
     exact dp hy hz
def BM{l:List Pr}(h:(l.map Prod.fst).Pairwise (· < ·)):((yz l k).map Prod.fst).Pairwise (· < ·):=h.sublist (List.Sublist.map _ List.filter_sublist)
def lI{l:List α}{x y:α}(h:y∈l.set p x):y=x∨y∈l:=by
 rcases List.mem_or_eq_of_mem_set h with h|h
 · exact .inr h
 · exact .inl h
def so{l:List α}{y:α}(h:y∈cx l p):y∈l:=by
 rcases mA h with h|h
 · exact mT h
 · exact mD h
def FQ{l:List α}{x y:α}(h:y∈aF l p x):y=x∨y∈l:=by
 rcases mA h with h|h
 · exact .inr (mT h)
 · rcases List.mem_cons.1 h with h|h
   · exact .inl h
   · exact .inr (mD h)
def Ma(h: ∀p∈ps,Dm p): ∀p∈iP ps key val,Dm p:=by
 intro q hq;unfold iP at hq;split at hq
 · cases hx:ps[be ps key]? with
   |none=>rw[hx] at hq;simp only[List.mem_singleton] at hq;subst hq;exact⟨by simp,by simp,rfl⟩
   |some x=>
    rw[hx] at hq;have hok:=h x (gE hx);have hlb:aW x.ks key≤x.ks.length:=jd _ _;have hKl:(aF x.ks (aW x.ks key) key).length=x.ks.length+1:=gX hlb;have hVl:(aF x.vs (aW x.ks key) val).length=x.ks.length+1:=by rw[gX (by have:=hok.2.2;omega),hok.2.2]
    obtain⟨o1,o2,o3⟩:=hok;simp only at hq;split at hq
    · rcases lI hq with rfl|hq
      · exact⟨o1,o2,by simpa using o3⟩
      · exact h q hq
    · split at hq
      · rcases lI hq with rfl|hq
        · refine⟨?_,?_,?_⟩<;>simp only[lT,hKl,hVl] <;>omega
        · rcases FQ hq with rfl|hq
          · refine⟨?_,?_,?_⟩<;>simp only[lD,hKl,hVl] <;>omega
          · exact h q hq
      · rcases lI hq with rfl|hq
        · refine⟨?_,?_,?_⟩<;>simp only[hKl,hVl] <;>omega
        · exact h q hq
 · exact h q hq
def KQ(h: ∀p∈ps,Dm p): ∀p∈fx ps key,Dm p:=by
 intro q hq;unfold fx at hq;split at hq
 · cases hx:ps[be ps key]? with
   |none=>rw[hx] at hq;exact h q hq
   |some x=>
    rw[hx] at hq;have hok:=h x (gE hx);have hi:=(gS hx).1;obtain⟨o1,o2,o3⟩:=hok;simp only at hq;split at hq
    · rename_i hf;have hlt:aW x.ks key<x.ks.length:=by
       have:x.ks[aW x.ks key]?=some key:=by simpa[bN] using hf
       exact(gS this).1
      have lk:=fc hlt;have lv:=fc (l:=x.vs) (i:=aW x.ks key) C;generalize hX:(⟨cx x.ks (aW x.ks key),cx x.vs (aW x.ks key)⟩:Pg)=X at hq;have eX:X.ks.length=x.ks.length - 1:=by rw[←hX];exact lk
      have eXv:X.vs.length=x.ks.length - 1:=by rw[←hX];show(cx x.vs _).length=_;omega
      generalize be ps key=p at*
      unfold mj at hq;split at hq
      · have hq1:=so hq;rw[cx] at hq;have e1:(ps.set p X).take p=ps.take p:=List.take_set_of_le nR;have e2:(ps.set p X).drop (p+1)=ps.drop (p+1):=by rw[List.drop_set];simp
        rw[e1,e2] at hq;rcases mA hq with hq|hq
        · exact h q (mT hq)
        · exact h q (mD hq)
      · rename_i h0;have okX:Dm X:=⟨by omega,by omega,by omega⟩
        split at hq
        · rename_i hc;obtain⟨a1,a2,a3⟩:=h _ (pK (ps:=ps) (i:=p - 1) C);rcases lI (so hq) with rfl|hq
          · refine⟨?_,?_,?_⟩<;>simp only[gV] <;>omega
          · rcases lI hq with rfl|hq
            · exact okX
            · exact h q hq
        · split at hq
          · rename_i hc;obtain⟨a1,a2,a3⟩:=h _ (pK (ps:=ps) (i:=p+1) C);rcases lI (so hq) with rfl|hq
            · refine⟨?_,?_,?_⟩<;>simp only[gV] <;>omega
            · rcases lI hq with rfl|hq
              · exact okX
              · exact h q hq
          · rcases lI hq with rfl|hq
            · exact okX
            · exact h q hq
    · exact h q hq
 · exact h q hq
def AW(h:aG ps=true):aG (iP ps key val)=true:=by
 have h1:=((eQ ps).1 h).1;rw[mV (Ma h1),AX h];exact Dd ((mV h1).1 h)
def yx(h:aG ps=true):aG (fx ps key)=true:=by
 have h1:=((eQ ps).1 h).1;rw[mV (KQ h1),yy h];exact BM ((mV h1).1 h)
def zl:(iP ps key val).length≤ps.length+1:=by
 unfold iP;split
 · cases hx:ps[be ps key]? with
   |none=>simp
   |some x=>
    have hi:=(gS hx).1;simp only;split
    · simp
    · split
      · rw[List.length_set,gX C];omega
      · simp
 · omega
def wc:(fx ps key).length≤ps.length:=by
 unfold fx;split
 · cases hx:ps[be ps key]? with
   |none=>simp
   |some x=>
    have hi:=(gS hx).1;have hd: ∀{l:List Pg} {i:Nat},(cx l i).length≤l.length:=fun{l i}=>by simp[cx];omega
    simp only;split
    · unfold mj mU;split
      · exact Nat.le_trans hd sP
      · split
        · exact Nat.le_trans hd sP
        · split
          · exact Nat.le_trans hd sP
          · simp
    · omega
 · omega
def Cy(l:List Pr):Prop:=(l.map Prod.fst).Pairwise (· < ·)
def Mj(a b:Str):a<b∨a=b∨b<a:=by
 by_cases h:a<b
 · exact .inl h
 · by_cases h2:b<a
   · exact .inr (.inr h2)
   · exact .inr (.inl (List.le_antisymm (List.not_lt.1 h2) (List.not_lt.1 h)))
def Hy{l:List Pr}(h:Cy l){o a b:Str}(ha:(o,a)∈l)(hb:(o,b)∈l):a=b:=by
 induction l with
 |nil=>simp at ha
 |cons x l ih=>
  have hp:=List.pairwise_cons.1 h;rcases List.mem_cons.1 ha with ea|ha'<;>rcases List.mem_cons.1 hb with eb|hb'
  · rw[←ea] at eb;exact(Prod.mk.inj eb).2.symm
  · subst ea;exact absurd (hp.1 o (List.mem_map.2 ⟨_,hb',rfl⟩)) (List.lt_irrefl o)
  · subst eb;exact absurd (hp.1 o (List.mem_map.2 ⟨_,ha',rfl⟩)) (List.lt_irrefl o)
  · exact ih hp.2 ha' hb'
def yu{l:List Pr}{w:Str}(hs:Cy l)(h:(o,w)∈l):pT l o=(w,true):=by
 unfold pT;cases hf:l.find? (fun x=>x.1==o) with
 |none=>have:=List.find?_eq_none.1 hf _ h;simp at this
 |some y=>
  have h1:=List.mem_of_find?_eq_some hf;have h2:=List.find?_some hf;obtain⟨y1,y2⟩:=y;have h2:y1=o:=eq_of_beq h2;subst h2;simp only[Hy hs h1 h]
def KO{l:List Pr}(h: ∀w,(o,w)∉l):pT l o=([],false):=by
 rw[pT,sG (fun x hx=> ?_)];cases e:x.1==o with
 |false=>rfl
 |true=>have e:=eq_of_beq e;subst e;exact absurd hx (h x.2)
def JP(h: ∀p∈ps,Dm p):Ez ps≤4*ps.length:=by
 rw[rV h];exact yt (fun p hp=>(h p hp).2.1)
def bc{l:List α}(h:l[i]?=none):l.take i=l:=tL (gO h)
end
end Go.Proofs.Y
namespace Go.Proofs.Y
open Go.Abs Go.Proofs.Tryz
attribute [local irreducible] L Code.wp bodyPost Exit.then Exit.inBlock
structure Col where
 n:Str
 t:Int
 m:Bool
def Col.c(x:Col):List IV:= [S x.n,I x.t,.im (.bool x.m)]
structure Tab where
 n:Str
 cols:List Col
def Tab.c(x:Tab):List IV:= [S x.n,.sl (x.cols.map Col.c)]
structure Idx where
 n:Str
 tb:Str
 co:Str
def Idx.c(x:Idx):List IV:= [S x.n,S x.tb,S x.co]
structure Cat where
 ts:List Tab
 is:List Idx
def Cat.c(x:Cat):List IV:= [.sl (x.ts.map Tab.c),.sl (x.is.map Idx.c)]
def dF{a b:Prop}[Decidable a][Decidable b](h:decide a=false)(hab:b→a):decide b=false:=decide_eq_false (fun hb=>of_decide_eq_false h (hab hb))
def dT{a b:Prop}[Decidable a][Decidable b](h:decide a=true)(hab:a→b):decide b=true:=decide_eq_true (hab (of_decide_eq_true h))
def iB{α:Type}(p:α→Bool)(l:List α):Int:=match l.findIdx? p with|some i=>(i:Int)|none=> -1
def gC{α:Type}{p:α→Bool}{l:List α}{i:Nat}{x:α}(h: ∀y∈l.take i,p y=false)(hx:l[i]?=some x)(hp:p x=true):iB p l=i:=by
 have hi:=(gS hx).1;have e:l.findIdx? p=some i:=by
  rw[List.findIdx?_eq_some_iff_getElem];refine⟨hi,by rw[(gS hx).2];exact hp,fun j hj=> ?_⟩;rw[h l[j] (List.mem_take_iff_getElem.2 ⟨j,by omega,rfl⟩)];simp
 rw[iB,e]
def jG{α:Type}{p:α→Bool}{l:List α}(h: ∀y∈l,p y=false):iB p l= -1:=by
 rw[iB,List.findIdx?_eq_none_iff.2 h]
def su{α:Type}(p:α→Bool)(l:List α):decide (0≤iB p l)=l.any p:=by
 unfold iB;cases h:l.findIdx? p with
 |none=>
  rw[List.findIdx?_eq_none_iff] at h;have:l.any p=false:=List.any_eq_false.2 (fun x hx=>by simp[h x hx]);rw[this];decide
 |some i=>
  have hi:=List.findIdx?_eq_some_iff_getElem.1 h;obtain⟨h1,h2,_⟩:=hi;have:l.any p=true:=List.any_eq_true.2 ⟨_,List.getElem_mem h1,h2⟩;rw[this];simp
def Mm{α:Type}{p:α→Bool}{l:List α}{i:Nat}(h:iB p l=(i:Int)): ∃x,l[i]?=some x∧p x=true∧ ∀y∈l.take i,p y=false:=by
 unfold iB at h;cases hf:l.findIdx? p with
 |none=>rw[hf] at h;simp only at h;omega
 |some j=>
  rw[hf] at h;have:j=i:=by simp only at h;omega
  subst this;obtain⟨h1,h2,h3⟩:=List.findIdx?_eq_some_iff_getElem.1 hf;refine⟨l[j],gG h1,h2,fun y hy=> ?_⟩;obtain⟨k,hk,rfl⟩:=List.mem_take_iff_getElem.1 hy;have:=h3 k C;simpa using this
def zG{α:Type}(p:α→Bool)(l:List α): -1≤iB p l∧iB p l<(l.length:Int)+1∧iB p l≤l.length:=by
 unfold iB;cases h:l.findIdx? p with
 |none=>simp;omega
 |some i=>have:=(List.findIdx?_eq_some_iff_getElem.1 h).1;simp;omega
def gN{α:Type}{p:α→Bool}{l:List α}{i:Nat}{x:α}(h: ∀y∈l.take i,p y=false)(hx:l[i]?=some x)(hp:p x=false): ∀y∈l.take (i+1),p y=false:=fun y hy=>by
 rw[List.take_add_one,hx] at hy;rcases mA hy with hy|hy
 · exact h y hy
 · simp at hy;subst hy;exact hp
def fK{α:Type}{p:α→Bool}{l:List α}{i:Nat}(h: ∀y∈l.take i,p y=false)(hx:l[i]?=none): ∀y∈l,p y=false:=by
 rw[tL (gO hx)] at h;exact h
def Dw(l:List Str)(x:Str)(hl:l.length≤140737488355328):
 CallA prog 82 [.iv (.sl (l.map Str.c)),aS x] [] [] [] (aI (iB (fun y=>x==y) l)):=by
 refine iA func82 ntmps82 (fun w0 E0=> ?_);refine wz ?_;refine ae (ι:=Nat) (fun i=>⟨[(8,aI (i:Int)),(7,aI ((l.map Str.c).length:Int)),(0,.iv (.sl (l.map Str.c))),(1,aS x)],[],[]⟩) (fun i=>l.length - i) (fun i=> ∀y∈l.take i,(x==y)=false) (i0:=0) ?_ sP ?_
 · exact df
 intro i hI K hK;cases hx:l[i]? with
 |none=>
  have hlt:=fa (l:=l.map Str.c) (bf hx);refine wz ?_;all_goals refine bn ?_
  rw[jG (fK hI hx)]
 |some y=>
  have hlt:=eZ (l:=l.map Str.c) (cq (f:=Str.c) hx);have hlt':=eP hx;have g1:(l.map Str.c)[((i:Nat):Int).toNat]?=some [S y]:=by rw[iN,gP,hx];rfl
  cases hq:(x==y) with
  |true=>
   refine wz ?_;all_goals refine bn ?_
   rw[gC hI hx hq]
  |false=>
   refine wz ?_;refine hK _ (i+1) (gN hI hx hq) C ?_;exact df
def pV(l:List Str)(x:Str)(hl:l.length≤140737488355328):
 CallA prog 45 [.iv (.sl (l.map Str.c)),aS x] [] [] [] (aB (l.any (fun y=>x==y))):=by
 have k:=Dw l x hl;refine iA func45 ntmps45 (fun w0 E0=> ?_);rw[←su];refine wz ?_;all_goals refine bn ?_
 all_goals(simp[decide_eq_decide];done)
def iQ(b:UInt8):Bool:=97≤b.toNat && b.toNat≤122
def bG(s:Str):Bool:=s.all iQ && (decide (1≤s.length) && (decide (s.length≤8) && !words.any (fun y=>s==y)))
def je(s:Str)(hl:s.length≤140737488355328):
 CallG tV prog 18 [aS s] [] [] [] (aB (bG s)):=by
 have k:=(pV words s (by rw[xh];decide)).toG (gs:=tV);refine iG func18 ntmps18 (fun w0 E0 hG=> ?_);refine wz ?_;refine ae (ι:=Nat) (fun i=>⟨[(6,aI (i:Int)),(5,aI (s.length:Int)),(0,aS s)],[],[]⟩) (fun i=>s.length - i) (fun i=>s.all iQ=(s.drop i).all iQ) (i0:=0) ?_ U ?_
 · exact df
 intro i hI K hK;cases hx:s[i]? with
 |none=>
  have hlt:=fa hx;rw[oN hx] at hI;have hI:s.all iQ=true:=hI;cases h1:decide ((1:Int)≤(s.length:Int)) with
  |false=>
   refine wz ?_;all_goals refine bn ?_
   have:decide (1≤s.length)=false:=dF h1 (fun h=>by omega);simp[bG,this]
  |true=>
   have e1:decide (1≤s.length)=true:=dT h1 (fun h=>by omega);cases h2:decide ((s.length:Int)≤8) with
   |false=>
    refine wz ?_;all_goals refine bn ?_
    have:decide (s.length≤8)=false:=dF h2 (fun h=>by omega);simp[bG,this]
   |true=>
    have e2:decide (s.length≤8)=true:=dT h2 (fun h=>by omega);(repeat' first|intro hb hp|refine LW.is (ag U (JI hG Iw) ?_)|refine am ?_|refine ak ?_ ?_|fail)
    all_goals refine bn ?_
    rw[bG,hI,e1,e2];rfl
 |some b=>
  have hlt:=eZ hx;have hlt':=eP hx;rw[eS hx,List.all_cons] at hI;(repeat' first|intro hb hp|refine am ?_|refine ak ?_ ?_|fail)
  all_goals try refine bn ?_
  all_goals try (simp[bG,hI,iQ, *];done)
  all_goals try (simp[bG,hI,iQ];omega)
  refine hK _ (i+1) ?_ C ?_
  · have h1:iQ b=true:=by
     simp[iQ];omega
    rw[hI,h1];rfl
  · exact df
def ss{gs:au}{f:FuncId}{caps:List AV}{bxi:List (Nat×Box)}[CallTy prog f](p:Col→Bool)(l:List Col)(hl:l.length≤140737488355328)(hc: ∀y∈l,CallG gs prog f (.agg ((Col.c y).map .iv)::caps) bxi bxi [] (aB (p y)))
 (hw:WkB bxi bxi) (hmb:bxi.all (fun p=> !p.2.cs.isEmpty && AV.mentsIn (keys bxi) p.2.cs)=true):
 CallG gs prog 64 [.iv (.sl (l.map Col.c)),.fn f caps] bxi bxi [] (aI (iB p l)):=by
 refine iG func64 ntmps64 (fun w0 E0 hG=> ?_);refine wz ?_;refine ae (ι:=Nat) (fun i=>⟨[(8,aI (i:Int)),(7,aI ((l.map Col.c).length:Int)),(0,.iv (.sl (l.map Col.c))),(1,.fn f caps)],bxi,[]⟩) (fun i=>l.length - i) (fun i=> ∀y∈l.take i,p y=false) (i0:=0) ?_ sP ?_
 · exact Wk.mkX ay F4 (fun s v h=>h) .nil
 intro i hI K hK;cases hx:l[i]? with
 |none=>
  have hlt:=fa (l:=l.map Col.c) (bf hx);rw[jG (fK hI hx)];refine wz ?_;apply L.ends;rfl;rfl;exact fR;exact Wk.mkX ay .nil (fun s v h=>h) .nil
 |some y=>
  have hlt:=eZ (l:=l.map Col.c) (cq (f:=Col.c) hx);have hlt':=eP hx;have hcy:=hc y (gE hx);have g1:(l.map Col.c)[((i:Nat):Int).toNat]?=some [S y.n,I y.t,.im (.bool y.m)]:=by rw[iN,gP,hx];rfl
  cases hq:p y with
  |true=>
   rw[hq] at hcy;have hcz:CallG gs prog f ([.agg ((Col.c y).map .iv)] ++caps) bxi bxi [] _:=hcy;rw[gC hI hx hq];(repeat' first|intro hb hp|refine aY (f:=f) U hG U hcz U hw hmb U ?_|refine am ?_|refine ak ?_ ?_|fail)
   apply L.ends;rfl;rfl;exact fR;exact Wk.mkX ay .nil (fun s v h=>ee h) .nil
  |false=>
   rw[hq] at hcy;have hcz:CallG gs prog f ([.agg ((Col.c y).map .iv)] ++caps) bxi bxi [] _:=hcy;(repeat' first|intro hb hp|refine aY (f:=f) U hG U hcz U hw hmb U ?_|refine am ?_|refine ak ?_ ?_|fail)
   refine hK _ (i+1) (gN hI hx hq) C ?_;exact Wk.mkX ay F4 (fun s v h=>ee h) .nil
end Go.Proofs.Y
