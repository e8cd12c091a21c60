/- Lemmas towards the law. Conditions: each one says its own. -/
import Derived.Test.YtnhmohbhgocbjaaGreatDoorZT7
import Derived.Shelf.SlSortCmp.Whole1
set_option linter.all false
set_option maxHeartbeats 64000000
set_option maxRecDepth 100000
namespace Go.Abs
open Go.RowKit (Below)
inductive WkE (bx:List (Nat×Box)):List (Nat×Box)→Prop
 |nil:WkE bx []
 |cons {id:Nat} {b:Box} {r:List (Nat×Box)} (h:bx.lookup id=some b) (t:WkE bx r):WkE bx ((id,b)::r)
def WkE.b{bx l:List (Nat×Box)}(h:WkE bx l):WkB bx l:=by
 induction h with
 |nil=>exact .nil
 |cons h _ ih=>exact .cons h U fS ih
def WkE.get{bx l:List (Nat×Box)}(h:WkE bx l): ∀id b,l.lookup id=some b→bx.lookup id=some b:=by
 induction h with
 |nil=>intro id b hb;cases hb
 | @cons i b' r h _ ih=>
   intro id b hb;by_cases e:id=i
   · subst e;rw[aj] at hb;cases hb;exact h
   · rw[aa e] at hb;exact ih id b hb
def WkE.of{bx bx' l:List (Nat×Box)}(h:WkE bx l)(k: ∀id∈keys l,bx'.lookup id=bx.lookup id):WkE bx' l:=by
 induction h with
 |nil=>exact .nil
 |cons h _ ih=>exact .cons ((k _ (by simp[keys])).trans h) (ih (fun id hid=>k id (by simp only[keys,List.map_cons,List.mem_cons] at hid⊢;exact .inr hid)))
section
variable {P:Program}{c:Ctx}{ops:Array Oper}{Q:Exit→Act→World→Prop}{rest:List Oper}
 {fr:List (Nat×AV)} {bx:List (Nat×Box)} {tk:List (Nat×Tok)} {d:Nat} {ty:TypeId} {pos:String} {aft:Array Edge}
def ja{gs:au}{f:FuncId}{x:Operand}{args:Array Operand}{ats:Array TypeId}{avs caps:List AV}{bxi:List (Nat×Box)}{res:AV}(hlt:Nat.ble (d+1) c.nt=true)(hG:Glob gs c.E0 c.w0)(hx:St.ev ⟨fr,bx,tk⟩ x= .fn f caps)[hok:CallTy P f]
 (hc:CallG gs P f (avs++caps) bxi bxi [] res) (ha:AV.pub.pubs (args.toList.map (St.ev ⟨fr,bx,tk⟩))=avs) (hbi:WkE bx bxi) (hbo:dW [] bxi bxi=true) (hmb:bxi.all (fun p=>AV.mentsIn ([] ++keys bxi) p.2.cs)=true) (hmr:AV.mentIn ([] ++keys bxi) res=true)
 (h:LW P c ⟨(d,res)::fr,bx,tk⟩ ops Q rest):
 LW P c ⟨fr,bx,tk⟩ ops Q (⟨some d,.call {callee:= .value x,args:=args,argTypes:=ats},ty,pos,aft,none⟩::rest):=by
 refine .mk (fun a w hr=> ?_);obtain⟨E,hi⟩:=id hr;refine yL [] (st:=⟨fr,bx,tk⟩) U U hlt hG U hx hok.h hc (.of_pub ha) hbi.b U hbo hmb hmr (L.wk (st':=⟨(d,res)::fr,bx,tk⟩) ⟨fun id hid=>(hi.heap.ins id hid).2.2,fun s v hv=>⟨v,hv,Sub.refl _⟩,fun id b hb=> ?_,fun id t ht=>ht⟩ (LW.out h)) a w hr;cases hl:bxi.lookup id with
 |none=>exact⟨b,by show(bxi++bx).lookup id=some b;rw[List.lookup_append,hl];exact hb,rfl,Subs.refl _⟩
 |some b'=>
  have:=hbi.get id b' hl;rw[this] at hb;cases hb;exact⟨b,by show(bxi++bx).lookup id=some b;rw[List.lookup_append,hl];rfl,rfl,Subs.refl _⟩
def eH{st0:St}{done:List Eff}{gs:au}{f:FuncId}{x:Operand}{args:Array Operand}{ats:Array TypeId}{avs caps:List AV}{bxi:List (Nat×Box)}{res:AV}(hlt:Nat.ble (d+1) c.nt=true)(hG:Glob gs c.E0 c.w0)(hx:St.ev ⟨fr,bx,tk⟩ x= .fn f caps)[hok:CallTy P f]
 (hc:CallG gs P f (avs++caps) bxi bxi [] res) (ha:AV.pub.pubs (args.toList.map (St.ev ⟨fr,bx,tk⟩))=avs) (hbi:WkE bx bxi) (hbo:dW [] bxi bxi=true) (hmb:bxi.all (fun p=>AV.mentsIn ([] ++keys bxi) p.2.cs)=true) (hmr:AV.mentIn ([] ++keys bxi) res=true)
 (h:DR P c ops Q st0 (⟨some (d,res),[],[],[],keys bxi,[],[]⟩::done) ⟨(d,res)::fr,bx,tk⟩ rest):DR P c ops Q st0 done ⟨fr,bx,tk⟩ (⟨some d,.call {callee:= .value x,args:=args,argTypes:=ats},ty,pos,aft,none⟩::rest):=
 DR.cons (e:=⟨some (d,res),[],[],[],keys bxi,[],[]⟩) (fun st' hag Q' hL=>LW.out (ja (fr:=st'.fr) (bx:=st'.bx) (tk:=st'.tk) hlt hG ((hag.ev x oO).trans hx) hc ((by rw[Jx hag.ev (fun x hx=>by simp[Op.operands,Call.operands,hx])];exact ha)) (hbi.of (fun id hid=>hag.bx id hid)) hbo hmb hmr (EF hL))) h
end
end Go.Abs
namespace Go.Abs
open Go.RowKit (Below)
open Go.Sort Go.Proofs Go.Shelf
def wO[hD:Dr]{M:Nat→Prop}{w w':World}(h:KeptBut M w w')(hM: ∀k,¬M k)(hp:Dr.p): ∃q os,w'=Go.Sort.grow (w.drewN q) os:=by
 obtain⟨h1,h2,h3,h4,h5,h6⟩:=h;have h6:=h6 hp;refine⟨w'.drawn - w.drawn,w'.heap.extract w.heap.size w'.heap.size,?_⟩;obtain⟨hp1,tp1,dr1,os1,ou1⟩:=w;obtain⟨hp2,tp2,dr2,os2,ou2⟩:=w';simp only at h1 h2 h3 h4 h5 h6;subst h1 h2 h3;have e1:dr1+(dr2 - dr1)=dr2:=C;have e2:hp1++hp2.extract hp1.size hp2.size=hp2:=by
  apply Array.ext
  · simp;omega
  · intro i hi1 hi2;rw[Array.getElem_append];split
    · rename_i hlt;have:=h5 i hlt (hM i);rw[Array.getElem?_eq_getElem hi2,Array.getElem?_eq_getElem hlt] at this;exact(Option.some.inj this).symm
    · rename_i hlt;rw[Array.getElem_extract];congr 1;omega
 simp[Go.Sort.grow,World.drewN,e1,e2]
def nJ{α:Type}[Inhabited α](enc:α→Value)(w:World)(blk m:Nat)(d:Array α)(os:Array Obj){b:Nat}(hb:b<w.heap.size)(hne:b≠blk):(sortWorld enc w blk 0 m d os).heap[b]?=w.heap[b]?:=by
 unfold sortWorld;simp only[Go.Sort.grow,Go.Sort.putRow,Go.Sort.mapBlock,Go.Sort.ahead];rw[Array.getElem?_append_left (by simpa using hb),Array.getElem?_modify,if_neg (fun e=>hne e.symm)]
def wP{α:Type}[Inhabited α](enc:α→Value)(w:World)(blk m:Nat)(d:Array α)(os:Array Obj){arr:Array Value}{ty:TypeId}{fr:Nat×Nat}(ha:w.heap[blk]?=some (.cells arr ty fr)):(sortWorld enc w blk 0 m d os).heap[blk]?=some (.cells (putCells enc 0 d arr) ty fr):=by
 have hb:=(Array.getElem?_eq_some_iff.1 ha).1;unfold sortWorld;simp only[Go.Sort.grow,Go.Sort.putRow,Go.Sort.mapBlock,Go.Sort.ahead];rw[Array.getElem?_append_left (by simpa using hb),Array.getElem?_modify,if_pos U,ha];rfl
def kI{α:Type}[Inhabited α](enc:α→Value)(w:World)(blk m:Nat)(d:Array α)(os:Array Obj):w.heap.size≤(sortWorld enc w blk 0 m d os).heap.size:=by
 unfold sortWorld;simp[Go.Sort.grow,Go.Sort.putRow,Go.Sort.mapBlock,Go.Sort.ahead]
def CallA.sortFunc{P:Program}{ρ:Ren}(LL:SlLaysF.n6 P ρ){g:FuncId}(hg:dQ P g=true){β:Type}(cell:β→IV)(cf:β→β→Int)(hO:SWO (ltOf cf)){ty:TypeId}(l s:List β)(hne:l≠ [])(hsz:l.length≤140737488355328)
 (hcmp: ∀x∈l,∀y∈l,@CallA ⟨True⟩ P g [.iv (cell x),.iv (cell y)] [] [] [] (aI (cf x y))) (huniq: ∀l':List β,l'.Perm l→l'.Pairwise (fun a b=> ¬cf b a<0)→l'=s):
 CallA P (ρ.f 6) [.bsh 1000 0 l.length 1,.fn g []] [(1000,⟨ty,.r (l.map cell) 0⟩)] [(1000,⟨ty,.r (s.map cell) 0⟩)] [] (.tup []):=by
 intro E w us hrel hh;obtain⟨hlen,hr⟩:=hrel
 match us,hlen with
 | [u0,u1],_=>
 have h0:=hr 0 _ u0 U U;have h1:=hr 1 _ u1 U U;have hpos:0<l.length:=gU hne;obtain⟨cap,o,rfl,hn,hm,he,ho⟩:=h0.bsh_inv;have ho:o=0:=by rw[ho C]
 subst ho;have hu1:u1= .func (.func g) #[] #[]:=by
  cases h1 with
  | @fn _ _ us hl _=>have:us= []:=by simpa using hl
                     rw[this]
 subst hu1;have hbne:(Box.mk ty (.r (l.map cell) 0)).cs≠ []:=by simp[hne]
 obtain⟨hφ,arr,ha,hla,h1c,hra,hη⟩:=hh.box 1000 _ U hbne;simp only[Box.cs_r,List.replicate_zero,List.append_nil,lM] at hla hra;have hrep: ∀i (h:i<l.length),RepI E.φ w (cell l[i]) (arr[i]'C):=fun i h=>by
  have:=hra i (.iv (cell l[i])) (arr[i]'C) (by simp[h]) (gG _);cases this with|iv h=>exact h
 have hblk:E.ρ 1000<w.heap.size:=(Array.getElem?_eq_some_iff.1 ha).1;let α:Type:={p:β×Value // p.1∈l∧RepI E.φ w (cell p.1) p.2}
 let enc:α→Value:=fun p=>p.1.2
 let d:Array α:=Array.ofFn (n:=l.length) fun i=>⟨(l[i],arr[i.1]'C),List.getElem_mem _,hrep i i.2⟩
 have hds:d.size=l.length:=by simp[d]
 haveI:Inhabited α:=⟨d[0]'C⟩
 have hdg: ∀j (h:j<l.length),d[j]! =⟨(l[j],arr[j]'C),List.getElem_mem _,hrep j h⟩:=fun j h=>by
  rw[getElem!_pos d j C];simp[d]
 have hdl:d.toList.map (fun p=>p.1.1)=l:=by
  apply List.ext_getElem
  · simp[d]
  · intro i h1 h2;simp[d]
 have hkW: ∀(m:Nat) (dk:Array α) (os:Array Obj),Keeps E.φ w (sortWorld enc w (E.ρ 1000) 0 m dk os):=fun m dk os b off hb=>by
  have hbne:b≠E.ρ 1000:=fun e=>by rw[e,hφ] at hb;omega
  have hbl:b<w.heap.size:=Nat.lt_of_not_le (fun hle=>by rw[hh.new b hle] at hb;omega);exact World.cell?_of_block (nJ enc w _ m dk os hbl hbne)
 have hnew:=hh.new;have hcl:CmpLays1 P g #[] enc (fun x y=>cf x.1.1 y.1.1) (E.ρ 1000) 0 d.size w:=by
  intro m os dk hdk x y;have hc:=hcmp x.1.1 x.2.1 y.1.1 y.2.1 E (sortWorld enc w (E.ρ 1000) 0 m dk os) [x.1.2,y.1.2] ⟨rfl,fun i c u hc hu=>by
   match i with
   |0=>simp at hc hu;subst hc;subst hu;exact .iv (x.2.2.mono (hkW m dk os) (fun _=>Nat.le_refl _))
   |1=>simp at hc hu;subst hc;subst hu;exact .iv (y.2.2.mono (hkW m dk os) (fun _=>Nat.le_refl _))
   |i+2=>simp at hc⟩ (by letI:Dr:=⟨True⟩;exact⟨fun id b h=>by simp at h,fun id t h=>by simp at h,fun i j b b' h=>by simp at h,fun i j t t' g h=>by simp at h,fun i j b t h=>by simp at h,fun i b h=>by simp at h,fun i t g h=>by simp at h,
    fun b hb'=>hnew b (Nat.le_trans (kI enc w _ m dk os) hb'),fun b _=>rfl,fun id h=>by simp[keys] at h,KeptBut.refl _ _⟩)
  refine hc.mono ?_;rintro e w' ⟨u,E',rfl,hu,hinv⟩;have hv:=hu.iv_im;subst hv;refine⟨rfl,?_⟩;exact @wO ⟨True⟩ _ _ _ (@HInv.kept ⟨True⟩ _ _ _ _ _ hinv) (fun k ⟨id,hid,_⟩=>by simp[keys] at hid) trivial
 have hO':SWO (ltOf fun(x y:α)=>cf x.1.1 y.1.1):=⟨fun x=>hO.irrefl x.1.1,fun x y z=>hO.trans x.1.1 y.1.1 z.1.1,fun x y z=>hO.ntrans x.1.1 y.1.1 z.1.1⟩
 have hH:Holds enc w (E.ρ 1000) 0 d:=fun j hj=>by
  rw[hds] at hj;rw[hdg j hj];refine⟨?_,?_⟩
  · simp only[World.cell?,ha];simp[enc]
  · simp[World.frozen?,ha]
 have hcall:=Any.slices_SortFunc LL enc (fun x=>x.2.2.oneCell) (fun x y=>cf x.1.1 y.1.1) hO' g #[] (E.ρ 1000) 0 (cap - 0) d w (fun args w=>eK hg args w) hcl hH hblk C;rw[hds] at hcall;refine hcall.mono ?_;rintro e w' ⟨rfl,d',n,os,hp,hs,rfl⟩;obtain⟨hp1,_,hp3⟩:=hp;have hd's:d'.size=l.length:=by rw[hp1,hds]
 have hperm:(d'.toList.map (fun p=>p.1.1)).Perm l:=by
  have e1:d'.extract 0 l.length=d':=by rw[←hd's];simp
  have e2:d.extract 0 l.length=d:=by rw[←hds];simp
  rw[e1,e2] at hp3;have:=hp3.map (fun p:α=>p.1.1)
  rwa [hdl] at this
 have hg': ∀i (h:i<l.length),d'[i]! =d'[i]'C:=fun i h=>getElem!_pos d' i C
 have hsort:(d'.toList.map (fun p=>p.1.1)).Pairwise (fun a b=> ¬cf b a<0):=by
  rw[List.pairwise_map,List.pairwise_iff_getElem];intro i j hi hj hij;have:=hs i j (Nat.zero_le _) hij (by simpa[hd's] using hj);simp only[Array.length_toList] at hi hj;rw[hg' i C,hg' j C] at this;simpa[ltOf] using this
 have hs':=huniq _ hperm hsort;refine⟨.tuple #[],E,rfl,.tup (us:= []) U (fun i c u h=>by simp at h),?_⟩;have hls:s.length=l.length:=by rw[←hs'];simp[hd's]
 refine⟨fun id b hb hn'=> ?_,fun id t h=>by simp at h,fun i j b b' hi hj _ _ _=> ?_,fun i j t t' g h=>by simp at h,fun i j b t h hn hj=>by simp at hj,fun i b hi hn'=> ?_,fun i t g h=>by simp at h,
  fun b hb'=>hh.new b (Nat.le_trans (kI enc w _ n d' os) hb'),fun b _=>rfl,fun id hid=>⟨rfl,rfl,?_⟩,⟨rfl,rfl,rfl,kI enc w _ n d' os,fun k hk hM=> ?_,fun h=>h.elim⟩⟩
 · by_cases e:id=1000
   · subst e;simp at hb;subst hb;refine⟨hφ,(putCells enc 0 d' arr.toArray).toList,by rw[wP enc w _ n d' os ha],?_,?_,?_,fun k cap hc=> ?_⟩
     · simp[putCells,hls];omega
     · intro u hu;simp only[putCells,Array.toList_mapIdx,List.mem_mapIdx] at hu;obtain⟨i,hi,rfl⟩:=hu;split
       · exact(d'[i - 0]!).2.2.oneCell
       · exact h1c _ (List.getElem_mem _)
     · intro i c u hc hu;simp only[Box.cs_r,List.replicate_zero,List.append_nil,List.map_map,gP,Option.map_eq_some_iff] at hc;obtain⟨b,hb,rfl⟩:=hc;have hi:=(gS hb).1;rw[hls] at hi;have hbe:b=(d'[i]'C).1.1:=by
        rw[←hs'] at hb;simp[hd's,hi] at hb;exact hb.symm
       have hue:u=(d'[i]'C).1.2:=by
        simp only[putCells,Array.toList_mapIdx,List.getElem?_mapIdx,Option.map_eq_some_iff] at hu;obtain⟨v,hv,rfl⟩:=hu;rw[if_pos ⟨Nat.zero_le _,by omega⟩,Nat.sub_zero,hg' i hi]
       subst hbe hue;exact .iv ((d'[i]'C).2.2.mono (hkW n d' os) (fun _=>Nat.le_refl _))
     · have:=hη k cap hc;simpa[putCells] using this
   · have e':(id==1000)=false:=by simpa using e
     simp[List.lookup,e'] at hb
 · have f: ∀i b,List.lookup i [(1000,(⟨ty,.r (s.map cell) 0⟩:Box))] =some b→i=1000:=fun i b h=>by
    by_cases e:i=1000
    · exact e
    · have e':(i==1000)=false:=by simpa using e
      simp[List.lookup,e'] at h
   rw[f i b hi,f j b' hj]
 · have f:i=1000:=by
    by_cases e:i=1000
    · exact e
    · have e':(i==1000)=false:=by simpa using e
      simp[List.lookup,e'] at hi
   subst f;exact .inr ⟨1000,by simp[keys],rfl,hφ⟩
 · simp[keys] at hid;subst hid;rfl
 · exact nJ enc w _ n d' os hk (fun e=>hM ⟨1000,by simp[keys],e.symm,by rw[e];exact hφ⟩)
end Go.Abs
namespace Go.Proofs.Y
open Go.Abs Go.Proofs.Tryz
attribute [local irreducible] L Code.wp bodyPost Exit.then Exit.inBlock
def Io(m:Str)(b:UInt8):CallA prog 102 [aS m,.iv (.im (.int .u8 b.toNat))] [] [] [] (aI (Lib.indexByte m b)):=by
 refine iA func102 ntmps102 (fun w0 E0=> ?_);refine wz ?_;all_goals refine bn ?_
 all_goals simp[resOf]
def EX(m:Str)(b:UInt8):CallA prog 68 [aS m,.iv (.im (.int .u8 b.toNat))] [] [] [] (aI (Lib.indexByte m b)):=by
 have k:=Io m b;refine iA func68 ntmps68 (fun w0 E0=> ?_);refine wz ?_;all_goals refine bn ?_
 all_goals rfl
def lh(b:UInt8):Bool:=48≤b.toNat && b.toNat≤57
def EA:Str:= [40,41,44,59,46,61,60,43,45,42]
def fh(c:UInt8)(r:Str):Option Nat:=
 if iQ c then some (1+(r.takeWhile iQ).length)
 else if lh c then some (1+(r.takeWhile lh).length)
 else if c=39 then(if Lib.indexByte r 39<0 then none else some ((Lib.indexByte r 39).toNat+2))
 else if 0≤Lib.indexByte EA c then some 1 else none
def yW{c:UInt8}{r:Str}{n:Nat}(h:fh c r=some n):1≤n:=by
 unfold fh at h;repeat' split at h
 all_goals first|(cases h;done)|(cases h;omega)
def cW(s:Str):Option (List Str):=
 match s with
 | [] =>some []
 |c::r=>if c=32∨c=10 then cW r else match h:fh c r with
  |none=>none
  |some n=>(cW ((c::r).drop n)).map ((c::r).take n:: ·)
 termination_by s.length
 decreasing_by
  all_goals first|(simp;done)|(have:=yW h;simp[lD];omega)
def rU:cW [] =some []:=by rw[cW]
def tg{c:UInt8}{r:Str}(h:c=32∨c=10):cW (c::r)=cW r:=by rw[cW,if_pos h]
def uE{c:UInt8}{r:Str}(h: ¬(c=32∨c=10))(ht:fh c r=none):cW (c::r)=none:=by
 rw[cW,if_neg h];split
 · rfl
 · rename_i h';rw[ht] at h';cases h'
def uC{c:UInt8}{r:Str}{n:Nat}(h: ¬(c=32∨c=10))(ht:fh c r=some n):cW (c::r)=(cW ((c::r).drop n)).map ((c::r).take n:: ·):=by
 rw[cW,if_neg h];split
 · rename_i h';rw[ht] at h';cases h'
 · rename_i h';rw[ht] at h';cases h';rfl
def yU{p:UInt8→Bool}: ∀{r:Str} {j:Nat} {c:UInt8},r[j]?=some c→p c=true→j≤(r.takeWhile p).length→j+1≤(r.takeWhile p).length
 | [],j,c,h,_,_=>by simp at h
 |b::r,0,c,h,hc,_=>by simp at h;subst h;simp[hc]
 |b::r,j+1,c,h,hc,hj=>by
  cases hb:p b with
  |false=>simp[hb] at hj
  |true=>
   rw[List.takeWhile_cons,if_pos hb] at hj⊢;simp only[lC] at hj⊢;have:=yU (r:=r) (j:=j) (c:=c) (by simpa using h) hc C;omega
def qH{p:UInt8→Bool}: ∀{r:Str} {j:Nat} {c:UInt8},r[j]?=some c→p c=false→j≤(r.takeWhile p).length→(r.takeWhile p).length=j
 | [],j,c,h,_,_=>by simp at h
 |b::r,0,c,h,hc,_=>by simp at h;subst h;simp[hc]
 |b::r,j+1,c,h,hc,hj=>by
  cases hb:p b with
  |false=>simp[hb] at hj
  |true=>
   rw[List.takeWhile_cons,if_pos hb] at hj⊢;simp only[lC] at hj⊢;rw[qH (r:=r) (j:=j) (c:=c) (by simpa using h) hc C]
def Lw(p:UInt8→Bool)(r:Str):(r.takeWhile p).length≤r.length:=(List.takeWhile_prefix _).length_le
def ma(s:Str):List Str×Bool:=match cW s with|some l=>(l,true)|none=>([],false)
def LP{c:UInt8}{n:Nat}(hn:n<256)(h: ¬c=UInt8.ofNat n):((c.toNat:Int)==(n:Int))=false:=by
 rw[beq_eq_false_iff_ne];intro e;exact h (UInt8.toNat_inj.1 (by rw[UInt8.toNat_ofNat'];omega))
def Ds: ∀(r:Str) (b:UInt8),Lib.indexByte r b<(r.length:Int)
 | [],b=>by simp[Lib.indexByte]
 |x::r,b=>by
  have:=Ds r b;unfold Lib.indexByte;simp only[lC];split
  · omega
  · split<;>omega
def FD(s:Str)(hs:s.length≤1000000):CallA prog 42 [aS s] [] [] [] (.tup [.iv (.sl ((ma s).1.map Str.c)),.iv (B (ma s).2)]):=by
 refine iA func42 ntmps42 (fun w0 E0=> ?_);refine wz ?_;refine L.adopt 4 (s:=4) (t:=9) (k:=1) rfl rfl rfl ?_;refine ae (ι:=List Str×Str) (fun i=>⟨[(4,.row 4 (i.1.map Str.c)),(0,aS i.2)],[],[(4,⟨9,1⟩)]⟩) (fun i=>i.2.length) (fun i=>cW s=(cW i.2).map (i.1++ ·)∧i.1.length+i.2.length≤s.length) (i0:=([],s)) ?_ ⟨by cases cW s<;>simp,by simp⟩ ?_
 · exact df
 rintro ⟨l,s'⟩ ⟨hi,hl⟩ K hK;dsimp only at hi hl hK⊢;cases s' with
 |nil=>
  have hne:(!(([]:List UInt8)== []))=false:=rfl;refine wz ?_;all_goals refine bn ?_
  rw[rU] at hi;simp[ma,hi]
 |cons c r=>
  have hne:(!(c::r==([]:List UInt8)))=true:=by simp
  simp only[lC] at hl;have hrl:r.length≤1000000:=C;have hll:l.length≤1000000:=C;have cb:=c.toNat_lt;by_cases hb:c=32∨c=10
  · rw[tg hb] at hi;rcases hb with rfl|rfl
    · (repeat' first|intro hb hp|(refine LW.is ?_;first|apply ag;rfl;apply bF;rfl;rfl;decide;rfl|apply ag;rfl;apply bq;rfl;rfl;decide;(simp<;>omega);(show _=r;rfl))|refine am ?_|refine ak ?_ ?_|fail)
      refine hK _ (l,r) ⟨hi,by dsimp only;omega⟩ (by dsimp only;simp) ?_;exact df
    · (repeat' first|intro hb hp|(refine LW.is ?_;first|apply ag;rfl;apply bF;rfl;rfl;decide;rfl|apply ag;rfl;apply bq;rfl;rfl;decide;(simp<;>omega);(show _=r;rfl))|refine am ?_|refine ak ?_ ?_|fail)
      refine hK _ (l,r) ⟨hi,by dsimp only;omega⟩ (by dsimp only;simp) ?_;exact df
  have q32:((c.toNat:Int)==32)=false:=LP (n:=32) dD (fun e=>hb (.inl e));have q10:((c.toNat:Int)==10)=false:=LP (n:=10) dD (fun e=>hb (.inr e));have next: ∀n,fh c r=some n→cW s=(cW ((c::r).drop n)).map ((l++ [(c::r).take n])++ ·):=fun n hn=>by
   rw[hi,uC hb hn,Option.map_map];congr 1;funext x;simp
  have bad:fh c r=none→ma s=([],false):=fun hn=>by
   have:cW s=none:=by rw[hi,uE hb hn];rfl
   simp[ma,this]
  have bm:(l.map Str.c).length+1≤maxLen:=by rw[lM];simp only[maxLen];omega
  have bb:((l.map Str.c).length+1)*16≤225000000000000:=by rw[lM];omega
  clear hi;cases hp:iQ c with
  |true=>
   have hlo:decide ((97:Int)≤(c.toNat:Int))=true:=by simp[iQ] at hp;simp;omega
   have hhi:decide ((c.toNat:Int)≤122)=true:=by simp[iQ] at hp;simp;omega
   have htk:fh c r=some (1+(r.takeWhile iQ).length):=by simp[fh,hp]
   have nx: ∀j,(r.takeWhile iQ).length=j→cW s=(cW ((c::r).drop (j+1))).map ((l++ [(c::r).take (j+1)])++ ·):=fun j e=>next (j+1) (by rw[htk,e,Nat.add_comm])
   have hwl:=Lw iQ r;clear next bad htk;(repeat' first|intro hb hp|(refine LW.is ?_;first|apply ag;rfl;apply bF;rfl;rfl;decide;rfl)|refine am ?_|refine ak ?_ ?_|fail)
   refine ae (ι:=Nat) (fun n=>⟨[(6,aI ((n+1:Nat):Int)),(4,.row 4 (l.map Str.c)),(0,aS (c::r))],[],[(4,⟨9,1⟩)]⟩) (fun n=>r.length+1 - n) (fun n=>n≤(r.takeWhile iQ).length) (i0:=0) ?_ (Nat.zero_le _) ?_
   · exact df
   intro j hj K2 hK2;have d0:(0:Int)≤((j+1:Nat):Int):=C;have d1:((j+1:Nat):Int)≤((c::r).length:Int):=by simp only[lC];omega
   cases hx:r[j]? with
   |none=>
    have hjl:=gO hx;have hlt:decide (((j+1:Nat):Int)<((c::r).length:Int))=false:=by simp only[lC];simp;omega
    have hnx:=nx j C;clear nx hK2;(repeat' first|intro hb hp|(refine LW.is ?_;first|apply ag;rfl;apply eU;rfl;rfl;exact d0;exact d1;rfl|apply ag;rfl;apply bq;rfl;rfl;exact d0;exact d1;rfl)|refine am ?_|refine ak ?_ ?_|fail)
    refine L.only [4,0] ?_;refine L.retok 4 90 4 rfl rfl rfl rfl ?_;refine hK _ (l++ [(c::r).take (j+1)],(c::r).drop (j+1)) ⟨hnx,by dsimp only;rw[gV,lD];simp only[lC,List.length_nil];omega⟩ (by dsimp only;rw[lD];simp only[lC];omega) (Wk.mk' kK (.cons rfl (Sub.of_eq (congrArg (AV.row 4) (by rw[pA];rfl))) F1) .nil (.cons rfl .nil))
   |some b=>
    have hjl:=(gS hx).1;have hlt:decide (((j+1:Nat):Int)<((c::r).length:Int))=true:=by simp only[lC];simp;omega
    have gx:(c::r)[((j+1:Nat):Int).toNat]?=some b:=by rw[iN,List.getElem?_cons_succ];exact hx
    by_cases b1:97≤b.toNat
    · have z1:decide ((97:Int)≤(b.toNat:Int))=true:=by simp;omega
      by_cases b2:b.toNat≤122
      · have z2:decide ((b.toNat:Int)≤122)=true:=by simp;omega
        have hnext:=yU (p:=iQ) hx (by simp[iQ,b1,b2]) hj;clear nx;(repeat' first|intro hb hp|(refine LW.is ?_;first|apply ag;rfl;apply bF;rfl;rfl;exact d0;exact gx)|refine am ?_|refine ak ?_ ?_|fail)
        refine hK2 _ (j+1) hnext C ?_;exact df
      · have z2:decide ((b.toNat:Int)≤122)=false:=by simp;omega
        have hnx:=nx j (qH (p:=iQ) hx (by simp[iQ,b2]) hj);clear nx hK2;(repeat' first|intro hb hp|(refine LW.is ?_;first|apply ag;rfl;apply bF;rfl;rfl;exact d0;exact gx|apply ag;rfl;apply eU;rfl;rfl;exact d0;exact d1;rfl|apply ag;rfl;apply bq;rfl;rfl;exact d0;exact d1;rfl)|refine am ?_|refine ak ?_ ?_|fail)
        refine L.only [4,0] ?_;refine L.retok 4 90 4 rfl rfl rfl rfl ?_;refine hK _ (l++ [(c::r).take (j+1)],(c::r).drop (j+1)) ⟨hnx,by dsimp only;rw[gV,lD];simp only[lC,List.length_nil];omega⟩ (by dsimp only;rw[lD];simp only[lC];omega) (Wk.mk' kK (.cons rfl (Sub.of_eq (congrArg (AV.row 4) (by rw[pA];rfl))) F1) .nil (.cons rfl .nil))
    · have z1:decide ((97:Int)≤(b.toNat:Int))=false:=by simp;omega
      have hnx:=nx j (qH (p:=iQ) hx (by simp[iQ,b1]) hj);clear nx hK2;(repeat' first|intro hb hp|(refine LW.is ?_;first|apply ag;rfl;apply bF;rfl;rfl;exact d0;exact gx|apply ag;rfl;apply eU;rfl;rfl;exact d0;exact d1;rfl|apply ag;rfl;apply bq;rfl;rfl;exact d0;exact d1;rfl)|refine am ?_|refine ak ?_ ?_|fail)
      refine L.only [4,0] ?_;refine L.retok 4 90 4 rfl rfl rfl rfl ?_;refine hK _ (l++ [(c::r).take (j+1)],(c::r).drop (j+1)) ⟨hnx,by dsimp only;rw[gV,lD];simp only[lC,List.length_nil];omega⟩ (by dsimp only;rw[lD];simp only[lC];omega) (Wk.mk' kK (.cons rfl (Sub.of_eq (congrArg (AV.row 4) (by rw[pA];rfl))) F1) .nil (.cons rfl .nil))
  |false=>
  have hp0:=hp;have hlow:decide ((97:Int)≤(c.toNat:Int))=false∨(decide ((97:Int)≤(c.toNat:Int))=true∧decide ((c.toNat:Int)≤122)=false):=by
   by_cases b1:97≤c.toNat
   · right;simp[iQ,b1] at hp;constructor
     · simp;omega
     · simp;omega
   · left;simp;omega
  clear hp;rcases hlow with q1|⟨q1,q2⟩
  all_goals
   cases hp:lh c with
   |true=>
    have hlo:decide ((48:Int)≤(c.toNat:Int))=true:=by simp[lh] at hp;simp;omega
    have hhi:decide ((c.toNat:Int)≤57)=true:=by simp[lh] at hp;simp;omega
    have htk:fh c r=some (1+(r.takeWhile lh).length):=by simp[fh,hp0,hp]
    have nx: ∀j,(r.takeWhile lh).length=j→cW s=(cW ((c::r).drop (j+1))).map ((l++ [(c::r).take (j+1)])++ ·):=fun j e=>next (j+1) (by rw[htk,e,Nat.add_comm])
    have hwl:=Lw lh r;clear next bad htk;(repeat' first|intro hb hp|(refine LW.is ?_;first|apply ag;rfl;apply bF;rfl;rfl;decide;rfl)|refine am ?_|refine ak ?_ ?_|fail)
    refine ae (ι:=Nat) (fun n=>⟨[(6,aI ((n+1:Nat):Int)),(4,.row 4 (l.map Str.c)),(0,aS (c::r))],[],[(4,⟨9,1⟩)]⟩) (fun n=>r.length+1 - n) (fun n=>n≤(r.takeWhile lh).length) (i0:=0) ?_ (Nat.zero_le _) ?_
    · exact df
    intro j hj K2 hK2;have d0:(0:Int)≤((j+1:Nat):Int):=C;have d1:((j+1:Nat):Int)≤((c::r).length:Int):=by simp only[lC];omega
    cases hx:r[j]? with
    |none=>
     have hjl:=gO hx;have hlt:decide (((j+1:Nat):Int)<((c::r).length:Int))=false:=by simp only[lC];simp;omega
     have hnx:=nx j C;clear nx hK2;(repeat' first|intro hb hp|(refine LW.is ?_;first|apply ag;rfl;apply eU;rfl;rfl;exact d0;exact d1;rfl|apply ag;rfl;apply bq;rfl;rfl;exact d0;exact d1;rfl)|refine am ?_|refine ak ?_ ?_|fail)
     refine L.only [4,0] ?_;refine L.retok 4 90 4 rfl rfl rfl rfl ?_;refine hK _ (l++ [(c::r).take (j+1)],(c::r).drop (j+1)) ⟨hnx,by dsimp only;rw[gV,lD];simp only[lC,List.length_nil];omega⟩ (by dsimp only;rw[lD];simp only[lC];omega) (Wk.mk' kK (.cons rfl (Sub.of_eq (congrArg (AV.row 4) (by rw[pA];rfl))) F1) .nil (.cons rfl .nil))
    |some b=>
     have hjl:=(gS hx).1;have hlt:decide (((j+1:Nat):Int)<((c::r).length:Int))=true:=by simp only[lC];simp;omega
     have gx:(c::r)[((j+1:Nat):Int).toNat]?=some b:=by rw[iN,List.getElem?_cons_succ];exact hx
     by_cases b1:48≤b.toNat
     · have z1:decide ((48:Int)≤(b.toNat:Int))=true:=by simp;omega
       by_cases b2:b.toNat≤57
       · have z2:decide ((b.toNat:Int)≤57)=true:=by simp;omega
         have hnext:=yU (p:=lh) hx (by simp[lh,b1,b2]) hj;clear nx;(repeat' first|intro hb hp|(refine LW.is ?_;first|apply ag;rfl;apply bF;rfl;rfl;exact d0;exact gx)|refine am ?_|refine ak ?_ ?_|fail)
         refine hK2 _ (j+1) hnext C ?_;exact df
       · have z2:decide ((b.toNat:Int)≤57)=false:=by simp;omega
         have hnx:=nx j (qH (p:=lh) hx (by simp[lh,b2]) hj);clear nx hK2;(repeat' first|intro hb hp|(refine LW.is ?_;first|apply ag;rfl;apply bF;rfl;rfl;exact d0;exact gx|apply ag;rfl;apply eU;rfl;rfl;exact d0;exact d1;rfl|apply ag;rfl;apply bq;rfl;rfl;exact d0;exact d1;rfl)|refine am ?_|refine ak ?_ ?_|fail)
         refine L.only [4,0] ?_;refine L.retok 4 90 4 rfl rfl rfl rfl ?_;refine hK _ (l++ [(c::r).take (j+1)],(c::r).drop (j+1)) ⟨hnx,by dsimp only;rw[gV,lD];simp only[lC,List.length_nil];omega⟩ (by dsimp only;rw[lD];simp only[lC];omega) (Wk.mk' kK (.cons rfl (Sub.of_eq (congrArg (AV.row 4) (by rw[pA];rfl))) F1) .nil (.cons rfl .nil))
     · have z1:decide ((48:Int)≤(b.toNat:Int))=false:=by simp;omega
       have hnx:=nx j (qH (p:=lh) hx (by simp[lh,b1]) hj);clear nx hK2;(repeat' first|intro hb hp|(refine LW.is ?_;first|apply ag;rfl;apply bF;rfl;rfl;exact d0;exact gx|apply ag;rfl;apply eU;rfl;rfl;exact d0;exact d1;rfl|apply ag;rfl;apply bq;rfl;rfl;exact d0;exact d1;rfl)|refine am ?_|refine ak ?_ ?_|fail)
       refine L.only [4,0] ?_;refine L.retok 4 90 4 rfl rfl rfl rfl ?_;refine hK _ (l++ [(c::r).take (j+1)],(c::r).drop (j+1)) ⟨hnx,by dsimp only;rw[gV,lD];simp only[lC,List.length_nil];omega⟩ (by dsimp only;rw[lD];simp only[lC];omega) (Wk.mk' kK (.cons rfl (Sub.of_eq (congrArg (AV.row 4) (by rw[pA];rfl))) F1) .nil (.cons rfl .nil))
   |false=>
   have hdig:decide ((48:Int)≤(c.toNat:Int))=false∨(decide ((48:Int)≤(c.toNat:Int))=true∧decide ((c.toNat:Int)≤57)=false):=by
    by_cases b1:48≤c.toNat
    · right;simp[lh,b1] at hp;constructor
      · simp;omega
      · simp;omega
    · left;simp;omega
   rcases hdig with q3|⟨q3,q4⟩
   all_goals
    by_cases h39:c=39
    · have q5:((c.toNat:Int)==39)=true:=by rw[h39];rfl
      have i1:=EX r 39;have hge:=Lib.indexByte_ge r 39;have hil:=Ds r 39;have htk:fh c r=(if Lib.indexByte r 39<0 then none else some ((Lib.indexByte r 39).toNat+2)):=by rw[fh,hp0,hp,if_neg dD,if_neg dD,if_pos h39]
      generalize Lib.indexByte r 39=i at*
      by_cases hi0:i<0
      · have qi:decide (i<0)=true:=decide_eq_true hi0;rw[bad (by rw[htk,if_pos hi0])];clear next bad;(repeat' first|intro hb hp|(refine LW.is ?_;first|apply ag;rfl;apply bF;rfl;rfl;decide;rfl|apply ag;rfl;apply bq;rfl;rfl;decide;(simp<;>omega);(show _=r;rfl))|refine am ?_|refine ak ?_ ?_|fail)
        all_goals refine bn ?_
        all_goals rfl
      · have qi:decide (i<0)=false:=decide_eq_false hi0;have hnx:=next (i+2).toNat (by rw[htk,if_neg hi0];congr 1;omega);have d0:(0:Int)≤i+2:=C;have d1:i+2≤((c::r).length:Int):=by simp only[lC];omega
        clear next bad;(repeat' first|intro hb hp|(refine LW.is ?_;first|apply ag;rfl;apply bF;rfl;rfl;decide;rfl|apply ag;rfl;apply bq;rfl;rfl;decide;(simp<;>omega);(show _=r;rfl)|apply ag;rfl;apply eU;rfl;rfl;exact d0;exact d1;rfl|apply ag;rfl;apply bq;rfl;rfl;exact d0;exact d1;rfl)|refine am ?_|refine ak ?_ ?_|fail)
        refine L.only [4,0] ?_;refine L.retok 4 90 4 rfl rfl rfl rfl ?_;refine hK _ (l++ [(c::r).take (i+2).toNat],(c::r).drop (i+2).toNat) ⟨hnx,by dsimp only;rw[gV,lD];simp only[lC,List.length_nil];omega⟩ (by dsimp only;rw[lD];simp only[lC];omega) (Wk.mk' kK (.cons rfl (Sub.of_eq (congrArg (AV.row 4) (by rw[pA];rfl))) F1) .nil (.cons rfl .nil))
    · have q5:((c.toNat:Int)==39)=false:=LP (n:=39) dD h39;have i2:=EX EA c;have htk:fh c r=(if 0≤Lib.indexByte EA c then some 1 else none):=by rw[fh,hp0,hp,if_neg dD,if_neg dD,if_neg h39]
      generalize Lib.indexByte EA c=i at*
      by_cases hi0:0≤i
      · have qi:decide (0≤i)=true:=decide_eq_true hi0;have hnx:=next 1 (by rw[htk,if_pos hi0]);have d0:(0:Int)≤1:=C;have d1:(1:Int)≤((c::r).length:Int):=by simp only[lC];omega
        clear next bad;(repeat' first|intro hb hp|(refine LW.is ?_;first|apply ag;rfl;apply bF;rfl;rfl;decide;rfl|apply ag;rfl;apply eU;rfl;rfl;exact d0;exact d1;rfl|apply ag;rfl;apply bq;rfl;rfl;exact d0;exact d1;rfl)|refine am ?_|refine ak ?_ ?_|fail)
        refine L.only [4,0] ?_;refine L.retok 4 90 4 rfl rfl rfl rfl ?_;refine hK _ (l++ [(c::r).take 1],(c::r).drop 1) ⟨hnx,by dsimp only;rw[gV,lD];simp only[lC,List.length_nil];omega⟩ (by dsimp only;rw[lD];simp only[lC];omega) (Wk.mk' kK (.cons rfl (Sub.of_eq (congrArg (AV.row 4) (by rw[pA];rfl))) F1) .nil (.cons rfl .nil))
      · have qi:decide (0≤i)=false:=decide_eq_false hi0;rw[bad (by rw[htk,if_neg hi0])];clear next bad;(repeat' first|intro hb hp|(refine LW.is ?_;first|apply ag;rfl;apply bF;rfl;rfl;decide;rfl)|refine am ?_|refine ak ?_ ?_|fail)
        all_goals refine bn ?_
        all_goals rfl
end Go.Proofs.Y
namespace Go.Abs
section
variable {P:Program}{c:Ctx}{st:St}{fn:Func}{res:AV}{rs:List ResultVar}{y z u:IV}{cs:List AV}
def L.endQ{bx':List (Nat×Box)}{vs:List AV}(hfn:fn.results=rs.toArray)(hv:(st.ress P rs).map AV.pub.pubs=some vs)(hw:Wk c st ⟨[],bx',[]⟩)(he:resOf vs=res):
 L c st (bodyPost P fn (lp c bx' [] res) .ret):=by
 cases h:st.ress P rs with
 |none=>rw[h] at hv;cases hv
 |some us=>rw[h] at hv;cases hv;exact L.ends hfn h (he▸Sub.resOf) hw
def Lp{bx':List (Nat×Box)}{vs:List AV}(hfn:fn.results=rs.toArray)(hv:(st.ress P rs).map AV.pub.pubs=some vs)(hw:Wk c st ⟨[],bx',[]⟩)(he:resOf vs=res):
 L c st (bodyPost P fn (lp c bx' [] res) .normal):=by
 cases h:st.ress P rs with
 |none=>rw[h] at hv;cases hv
 |some us=>rw[h] at hv;cases hv;exact Fr hfn h (he▸Sub.resOf) hw
variable {bx':List (Nat×Box)}
def L.endQ0(hfn:fn.results=rs.toArray)(hv:(st.ress P rs).map AV.pub.pubs=some [])(hw:Wk c st ⟨[],bx',[]⟩)(he:AV.tup [] =res):L c st (bodyPost P fn (lp c bx' [] res) .ret):=L.endQ hfn hv hw he
def aM(hfn:fn.results=rs.toArray)(hv:(st.ress P rs).map AV.pub.pubs=some [])(hw:Wk c st ⟨[],bx',[]⟩)(he:AV.tup [] =res):L c st (bodyPost P fn (lp c bx' [] res) .normal):=Lp hfn hv hw he
def L.endQ1(hfn:fn.results=rs.toArray)(hv:(st.ress P rs).map AV.pub.pubs=some [.iv y])(hw:Wk c st ⟨[],bx',[]⟩)(he:AV.iv y=res):L c st (bodyPost P fn (lp c bx' [] res) .ret):=L.endQ hfn hv hw he
def L.endQA(hfn:fn.results=rs.toArray)(hv:(st.ress P rs).map AV.pub.pubs=some [.agg cs])(hw:Wk c st ⟨[],bx',[]⟩)(he:AV.agg cs=res):L c st (bodyPost P fn (lp c bx' [] res) .ret):=L.endQ hfn hv hw he
def L.endQAI(hfn:fn.results=rs.toArray)(hv:(st.ress P rs).map AV.pub.pubs=some [.agg cs,.iv y])(hw:Wk c st ⟨[],bx',[]⟩)(he:AV.tup [.agg cs,.iv y] =res):L c st (bodyPost P fn (lp c bx' [] res) .ret):=L.endQ hfn hv hw he
end
def gM{X1 X2 Y:Prop}(h1:X1)(h2:X2)(hs:X1→X2→Y:=by(intro q1 q2;first|(apply L.endQ1;exact rfl;exact rfl;exact Wk.mk' (by intro id h;simp[keys] at h;subst h;rfl) .nil (.cons rfl rfl (Subs.of_eq q2) .nil) .nil;exact q1)|(apply L.endQ0;exact rfl;exact rfl;exact Wk.mk' (by intro id h;simp[keys] at h;subst h;rfl) .nil (.cons rfl rfl (Subs.of_eq q2) .nil) .nil;exact q1)|(apply aM;exact rfl;exact rfl;exact Wk.mk' (by intro id h;simp[keys] at h;subst h;rfl) .nil (.cons rfl rfl (Subs.of_eq q2) .nil) .nil;exact q1)|(apply L.endQA;exact rfl;exact rfl;exact Wk.mk' (by intro id h;simp[keys] at h;subst h;rfl) .nil (.cons rfl rfl (Subs.of_eq q2) .nil) .nil;exact q1)|(apply L.endQAI;exact rfl;exact rfl;exact Wk.mk' (by intro id h;simp[keys] at h;subst h;rfl) .nil (.cons rfl rfl (Subs.of_eq q2) .nil) .nil;exact q1)|fail)):Y:=hs h1 h2
end Go.Abs
namespace Go.Proofs.Y
open Go.Abs Go.Proofs.Tryz
attribute [local irreducible] L Code.wp bodyPost Exit.then Exit.inBlock
def wY:List Str→List Str→Bool
 | [],[] =>true
 |a::l,b::m=>a==b && wY l m
 |_,_=>false
def BL: ∀{l m:List Str},l.length≠m.length→wY l m=false
 | [],[],h=>absurd U h
 | [],_::_,_=>rfl
 |_::_,[],_=>rfl
 |a::l,b::m,h=>by rw[wY,BL (by simpa using h),Bool.and_false]
def DH{gs:au}(a b:List Str)(ha:a.length≤1000000):CallG gs prog 103 [.iv (.sl (a.map Str.c)),.iv (.sl (b.map Str.c))] [] [] [] (aB (wY a b)):=by
 refine iG func103 ntmps103 (fun w0 E0 hG=> ?_);by_cases hl:a.length=b.length
 case neg=>
  have q:(((a.map Str.c).length:Int) !=((b.map Str.c).length:Int))=true:=by rw[lM,lM];simp;omega
  rw[BL hl];refine wz ?_;all_goals refine bn ?_
  all_goals rfl
 have q:(((a.map Str.c).length:Int) !=((b.map Str.c).length:Int))=false:=by rw[lM,lM];simp;omega
 refine wz ?_;refine ae (ι:=Nat) (fun i=>⟨[(13,aI (i:Int)),(12,aI ((a.map Str.c).length:Int)),(0,.iv (.sl (a.map Str.c))),(1,.iv (.sl (b.map Str.c)))],[],[]⟩) (fun i=>a.length - i) (fun i=>wY a b=wY (a.drop i) (b.drop i)) (i0:=0) ?_ U ?_
 · exact df
 intro i hi K hK;cases hx:a[i]? with
 |none=>
  have hlt:=fa (l:=a.map Str.c) (bf hx);have h1:=gO hx;rw[hi,dL h1,dL C];refine wz ?_;all_goals refine bn ?_
  all_goals rfl
 |some x=>
  have hlt:=eZ (l:=a.map Str.c) (cq (f:=Str.c) hx);have hlt':=eP hx;obtain⟨y,hy⟩: ∃y,b[i]?=some y:=⟨_,gG C⟩
  have g1:(a.map Str.c)[((i:Nat):Int).toNat]?=some [S x]:=by rw[iN,gP,hx];rfl
  have g2:(b.map Str.c)[((i:Nat):Int).toNat]?=some [S y]:=by rw[iN,gP,hy];rfl
  rw[eS hx,eS hy,wY] at hi;cases he:(x==y) with
  |true=>
   have hq:(!(x==y))=false:=by rw[he];rfl
   rw[he,Bool.true_and] at hi;refine wz ?_;refine hK _ (i+1) hi C ?_;exact df
  |false=>
   have hq:(!(x==y))=true:=by rw[he];rfl
   rw[hi,he,Bool.false_and];refine wz ?_;all_goals refine bn ?_
   all_goals rfl
structure Rd where
 l:List Str
 bad:Bool
abbrev ep(r:Rd):Box:=⟨103,.l [.iv (.sl (r.l.map Str.c)),aB r.bad]⟩
def TokOk(s:Str):Prop:=s.length≤1000000∧(s.head?=some 39→2≤s.length)∧(s.head?=some 45→s.length=1)
structure RdOk (r:Rd):Prop where
 n:r.l.length≤1000000
 w: ∀s∈r.l,TokOk s
def Rd.front(r:Rd):Str:=r.l.headD []
def yn{gs:au}(r:Rd):CallG gs prog 148 [.ptr 1000 0] [(1000,ep r)] [(1000,ep r)] [] (aS r.front):=by
 refine iG func148 ntmps148 (fun w0 E0 hG=> ?_);obtain⟨l,bad⟩:=r;cases l with
 |nil=>
  refine wz ?_;all_goals refine gM ?_ ?_
  all_goals rfl
 |cons s l=>
  have q:((((s::l).map Str.c).length:Int)==0)=false:=by simp;omega
  have g:((s::l).map Str.c)[(0:Int).toNat]?=some [S s]:=rfl;refine wz ?_;all_goals refine gM ?_ ?_
  all_goals rfl
def eB(r:Rd):Str×Rd:=if r.front= [] then([],⟨r.l,true⟩) else(r.front,⟨r.l.drop 1,r.bad⟩)
def vv{gs:au}(r:Rd):CallG gs prog 104 [.ptr 1000 0] [(1000,ep r)] [(1000,ep (eB r).2)] [] (aS (eB r).1):=by
 have kf:=yn (gs:=gs) r;refine iG func104 ntmps104 (fun w0 E0 hG=> ?_);by_cases h:r.front= []
 · rw[show eB r=([],⟨r.l,true⟩) from if_pos h];have q:(r.front==([]:Str))=true:=by rw[h];rfl
   (repeat' first|intro hb hp|refine LW.is (s_Q ?_)|refine am ?_|refine ak ?_ ?_|fail)
   all_goals refine gM ?_ ?_
   all_goals rfl
 · rw[show eB r=(r.front,⟨r.l.drop 1,r.bad⟩) from if_neg h];have q:(r.front==([]:Str))=false:=by simpa using h
   obtain⟨l,bad⟩:=r;cases l with
   |nil=>exact absurd U h
   |cons s l=>
    have d0:(0:Int)≤1:=by decide
    have d1:(1:Int)≤(((s::l).map Str.c).length:Int):=by simp;omega
    (repeat' first|intro hb hp|(refine LW.is ?_;first|refine s_Q ?_|refine ag U (jT U U (cU _) d0 d1 U) ?_)|refine am ?_|refine ak ?_ ?_|fail)
    all_goals refine gM ?_ ?_
    all_goals rfl
def al(r:Rd)(ws:List Str):Bool×Rd:=if r.l.length<ws.length then(false,r) else if wY (r.l.take ws.length) ws then(true,⟨r.l.drop ws.length,r.bad⟩) else(false,r)
def aQ{gs:au}(r:Rd)(ws:List Str)(hr:RdOk r)(hw:ws.length≤1000000):CallG gs prog 69 [.ptr 1000 0,.iv (.sl (ws.map Str.c))] [(1000,ep r)] [(1000,ep (al r ws).2)] [] (aB (al r ws).1):=by
 refine iG func69 ntmps69 (fun w0 E0 hG=> ?_);obtain⟨l,bad⟩:=r;have hn:=hr.n;dsimp only at hn;by_cases h:l.length<ws.length
 · rw[show al ⟨l,bad⟩ ws=(false,⟨l,bad⟩) from if_pos h];have q:decide (((l.map Str.c).length:Int)<((ws.map Str.c).length:Int))=true:=decide_eq_true (by rw[lM,lM];omega);refine wz ?_;all_goals refine gM ?_ ?_
   all_goals rfl
 have q:decide (((l.map Str.c).length:Int)<((ws.map Str.c).length:Int))=false:=decide_eq_false (by rw[lM,lM];omega);have ke:=DH (gs:=gs) (l.take ws.length) ws (by rw[lT];omega);have d0:(0:Int)≤((ws.map Str.c).length:Int):=C;have d1:((ws.map Str.c).length:Int)≤((l.map Str.c).length:Int):=by rw[lM,lM];omega
 have e1:(l.map Str.c).take ((ws.map Str.c).length:Int).toNat=(l.take ws.length).map Str.c:=by rw[iN,lM,List.map_take]
 have e2:(l.map Str.c).drop ((ws.map Str.c).length:Int).toNat=(l.drop ws.length).map Str.c:=by rw[iN,lM,List.map_drop]
 rw[show al ⟨l,bad⟩ ws=if wY (l.take ws.length) ws then(true,⟨l.drop ws.length,bad⟩) else(false,⟨l,bad⟩) from if_neg h];cases he:wY (l.take ws.length) ws with
 |true=>
  rw[he] at ke;(repeat' first|intro hb hp|(refine LW.is ?_;first|refine ag U (eA U U (cU _) d0 d1 e1) ?_|refine ag U (jT U U (cU _) d0 d1 e2) ?_)|refine am ?_|refine ak ?_ ?_|fail)
  all_goals refine gM ?_ ?_
  all_goals rfl
 |false=>
  rw[he] at ke;(repeat' first|intro hb hp|refine LW.is (ag U (eA U U (cU _) d0 d1 e1) ?_)|refine am ?_|refine ak ?_ ?_|fail)
  all_goals refine gM ?_ ?_
  all_goals rfl
def aL(r:Rd)(ws:List Str):Rd:=if(al r ws).1 then(al r ws).2 else⟨(al r ws).2.l,true⟩
def dv{gs:au}(r:Rd)(ws:List Str)(hr:RdOk r)(hw:ws.length≤1000000):CallG gs prog 44 [.ptr 1000 0,.iv (.sl (ws.map Str.c))] [(1000,ep r)] [(1000,ep (aL r ws))] [] (.tup []):=by
 have ka:=aQ (gs:=gs) r ws hr hw;unfold aL;generalize al r ws=p at*
 obtain⟨b,l,bad⟩:=p;refine iG func44 ntmps44 (fun w0 E0 hG=> ?_);cases b with
 |true=>
  (repeat' first|intro hb hp|refine LW.is (s_Q ?_)|refine am ?_|refine ak ?_ ?_|fail)
  all_goals refine gM ?_ ?_
  all_goals rfl
 |false=>
  (repeat' first|intro hb hp|refine LW.is (s_Q ?_)|refine am ?_|refine ak ?_ ?_|fail)
  all_goals refine gM ?_ ?_
  all_goals rfl
def RdOk.front{r:Rd}(h:RdOk r):r.front.length≤1000000:=by
 unfold Rd.front;cases hl:r.l with
 |nil=>simp
 |cons s l=>exact(h.w s (by rw[hl];simp)).1
def RdOk.drop{r:Rd}(h:RdOk r)(n:Nat)(b:Bool):RdOk ⟨r.l.drop n,b⟩:=⟨by have:=h.n;simp only[lD];omega,fun s hs=>h.w s (mD hs)⟩
def RdOk.mark{r:Rd}(h:RdOk r)(b:Bool):RdOk ⟨r.l,b⟩:=⟨h.n,h.w⟩
def RdOk.next{r:Rd}(h:RdOk r):RdOk (eB r).2:=by
 unfold eB;split
 · exact h.mark true
 · exact h.drop 1 r.bad
def vu{r:Rd}(h:RdOk r):(eB r).1.length≤1000000:=by
 unfold eB;split
 · simp
 · exact h.front
def RdOk.at{r:Rd}(h:RdOk r)(ws:List Str):RdOk (al r ws).2:=by
 unfold al;split
 · exact h
 · split
   · exact h.drop _ _
   · exact h
def aq(r:Rd):Str×Rd:=((eB r).1,⟨(eB r).2.l,(eB r).2.bad|| !bG (eB r).1⟩)
def RdOk.name{r:Rd}(h:RdOk r):RdOk (aq r).2:=h.next.mark _
def dI(r:Rd)(hr:RdOk r):CallG tV prog 70 [.ptr 1000 0] [(1000,ep r)] [(1000,ep (aq r).2)] [] (aS (aq r).1):=by
 have kn:=vv (gs:=tV) r;have kN:=je (eB r).1 (by have:=vu hr;omega);unfold aq;generalize eB r=p at*
 obtain⟨s,l,bad⟩:=p;refine iG func70 ntmps70 (fun w0 E0 hG=> ?_);cases bad with
 |true=>
  (repeat' first|intro hb hp|refine LW.is (s_Q ?_)|refine am ?_|refine ak ?_ ?_|fail)
  all_goals refine gM ?_ ?_
  all_goals rfl
 |false=>
  (repeat' first|intro hb hp|refine LW.is (s_Q ?_)|refine am ?_|refine ak ?_ ?_|fail)
  all_goals refine gM ?_ ?_
  all_goals rfl
end Go.Proofs.Y
