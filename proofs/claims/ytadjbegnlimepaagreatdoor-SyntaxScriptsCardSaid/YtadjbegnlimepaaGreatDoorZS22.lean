/- Several texts in one, each with its own sentence ahead of it. Conditions: each one says its own. -/
import Derived.Test.YtadjbegnlimepaaGreatDoorZS19
import Derived.Test.YtadjbegnlimepaaGreatDoorZS21
set_option linter.all false
namespace Go.Proofs.YtadjbegnlimepaaGreatDoor
open Go.Abs
set_option maxRecDepth 100000
attribute [local irreducible] L Code.wp bodyPost Exit.then Exit.inBlock
set_option linter.unusedVariables false
set_option linter.unusedSimpArgs false
structure Col where
 n:Str
 t:Int
 m:Bool
def Col.c(x:Col):List IV:= [S x.n,I x.t,.im (.bool x.m)]
theorem dF{a b:Prop}[Decidable a][Decidable b](h:decide a=false)(hab:b→a):decide b=false:=decide_eq_false (fun hb=>of_decide_eq_false h (hab hb))
theorem dT{a b:Prop}[Decidable a][Decidable b](h:decide a=true)(hab:a→b):decide b=true:=decide_eq_true (hab (of_decide_eq_true h))
def idxM{α:Type}(p:α→Bool)(l:List α):Int:=match l.findIdx? p with|some i=>(i:Int)|none=> -1
theorem idx_at{α:Type}{p:α→Bool}{l:List α}{i:Nat}{x:α}(h: ∀y∈l.take i,p y=false)(hx:l[i]?=some x)(hp:p x=true):idxM p l=i:=by
 have hi:=(List.getElem?_eq_some_iff.1 hx).1
 have e:l.findIdx? p=some i:=by
  rw[List.findIdx?_eq_some_iff_getElem]
  refine⟨hi,by rw[(List.getElem?_eq_some_iff.1 hx).2];exact hp,fun j hj=> ?_⟩
  rw[h l[j] (List.mem_take_iff_getElem.2 ⟨j,by omega,rfl⟩)];simp
 rw[idxM,e]
theorem idx_no{α:Type}{p:α→Bool}{l:List α}(h: ∀y∈l,p y=false):idxM p l= -1:=by
 rw[idxM,List.findIdx?_eq_none_iff.2 h]
theorem idx_ge{α:Type}(p:α→Bool)(l:List α):decide (0≤idxM p l)=l.any p:=by
 unfold idxM
 cases h:l.findIdx? p with
 |none=>
  rw[List.findIdx?_eq_none_iff] at h
  have:l.any p=false:=List.any_eq_false.2 (fun x hx=>by simp[h x hx])
  rw[this];decide
 |some i=>
  have hi:=List.findIdx?_eq_some_iff_getElem.1 h
  obtain⟨h1,h2,_⟩:=hi
  have:l.any p=true:=List.any_eq_true.2 ⟨_,List.getElem_mem h1,h2⟩
  rw[this];simp
theorem idx_lt{α:Type}{p:α→Bool}{l:List α}{i:Nat}(h:idxM p l=(i:Int)): ∃x,l[i]?=some x∧p x=true∧ ∀y∈l.take i,p y=false:=by
 unfold idxM at h
 cases hf:l.findIdx? p with
 |none=>rw[hf] at h;simp only at h;omega
 |some j=>
  rw[hf] at h
  have:j=i:=by simp only at h;omega
  subst this
  obtain⟨h1,h2,h3⟩:=List.findIdx?_eq_some_iff_getElem.1 hf
  refine⟨l[j],List.getElem?_eq_getElem h1,h2,fun y hy=> ?_⟩
  obtain⟨k,hk,rfl⟩:=List.mem_take_iff_getElem.1 hy
  have:=h3 k (by omega);simpa using this
theorem take_snoc{α:Type}{p:α→Bool}{l:List α}{i:Nat}{x:α}(h: ∀y∈l.take i,p y=false)(hx:l[i]?=some x)(hp:p x=false): ∀y∈l.take (i+1),p y=false:=fun y hy=>by
 rw[List.take_add_one,hx] at hy
 rcases List.mem_append.1 hy with hy|hy
 · exact h y hy
 · simp at hy;subst hy;exact hp
theorem take_full{α:Type}{p:α→Bool}{l:List α}{i:Nat}(h: ∀y∈l.take i,p y=false)(hx:l[i]?=none): ∀y∈l,p y=false:=by
 rw[List.take_of_length_le (List.getElem?_eq_none_iff.1 hx)] at h;exact h
set_option maxRecDepth 100000 in
set_option maxHeartbeats 4000000 in
theorem indexS_any(l:List Str)(x:Str)(hl:l.length≤140737488355328):
 CallA Tryz.prog 45 [.iv (.sl (l.map Str.c)),aS x] [] [] [] (aI (idxM (fun y=>x==y) l)):=by
 refine CallA.intro _ Tryz.func45 rfl Tryz.ntmps45 rfl (fun w0 E0=> ?_)
 (repeat' (first|refine wk1 ?_|refine wk2 (fun hb hp=> ?_) (fun hb hp=> ?_)|fail))
 refine L.loopP (ι:=Nat) (fun i=>⟨[(8,aI (i:Int)),(7,aI ((l.map Str.c).length:Int)),(0,.iv (.sl (l.map Str.c))),(1,aS x)],[],[]⟩) (fun i=>l.length - i) (fun i=> ∀y∈l.take i,(x==y)=false) (i0:=0) ?_ (by simp) ?_
 · exact wkk
 intro i hI K hK
 cases hx:l[i]? with
 |none=>
  have hlt:=ltF (l:=l.map Str.c) (getFN hx)
  (repeat' (first|refine wk1 ?_|refine wk2 (fun hb hp=> ?_) (fun hb hp=> ?_)|fail))
  all_goals refine wkf ?_
  rw[idx_no (take_full hI hx)]
 |some y=>
  have hlt:=ltT (l:=l.map Str.c) (getF (f:=Str.c) hx)
  have hlt':=ltN hx
  have g1:(l.map Str.c)[((i:Nat):Int).toNat]?=some [S y]:=by rw[Int.toNat_natCast,List.getElem?_map,hx];rfl
  cases hq:(x==y) with
  |true=>
   (repeat' (first|refine wk1 ?_|refine wk2 (fun hb hp=> ?_) (fun hb hp=> ?_)|fail))
   all_goals refine wkf ?_
   rw[idx_at hI hx hq]
  |false=>
   (repeat' (first|refine wk1 ?_|refine wk2 (fun hb hp=> ?_) (fun hb hp=> ?_)|fail))
   refine hK _ (i+1) (take_snoc hI hx hq) (by omega) ?_
   exact wkk
theorem containsS_any(l:List Str)(x:Str)(hl:l.length≤140737488355328):
 CallA Tryz.prog 15 [.iv (.sl (l.map Str.c)),aS x] [] [] [] (aB (l.any (fun y=>x==y))):=by
 have k:=indexS_any l x hl
 refine CallA.intro _ Tryz.func15 rfl Tryz.ntmps15 rfl (fun w0 E0=> ?_)
 rw[←idx_ge]
 (repeat' (first|refine wk1 ?_|refine wk2 (fun hb hp=> ?_) (fun hb hp=> ?_)|fail))
 all_goals refine wkf ?_
 all_goals(simp[decide_eq_decide];done)
def lowC(b:UInt8):Bool:=97≤b.toNat && b.toNat≤122
def namedM(s:Str):Bool:=s.all lowC && (decide (1≤s.length) && (decide (s.length≤8) && !words.any (fun y=>s==y)))
set_option maxRecDepth 100000 in
set_option maxHeartbeats 4000000 in
theorem named_any(s:Str)(hl:s.length≤140737488355328):
 CallG gs0 Tryz.prog 6 [aS s] [] [] [] (aB (namedM s)):=by
 have k:=(containsS_any words s (by rw[words_len];decide)).toG (gs:=gs0)
 refine CallG.intro _ Tryz.func6 rfl Tryz.ntmps6 rfl (fun w0 E0 hG=> ?_)
 (repeat' (first|refine wk1 ?_|refine wk2 (fun hb hp=> ?_) (fun hb hp=> ?_)|fail))
 refine L.loopP (ι:=Nat) (fun i=>⟨[(6,aI (i:Int)),(5,aI (s.length:Int)),(0,aS s)],[],[]⟩) (fun i=>s.length - i) (fun i=>s.all lowC=(s.drop i).all lowC) (i0:=0) ?_ rfl ?_
 · exact wkk
 intro i hI K hK
 cases hx:s[i]? with
 |none=>
  have hlt:=ltF hx
  rw[dropN hx] at hI
  have hI:s.all lowC=true:=hI
  cases h1:decide ((1:Int)≤(s.length:Int)) with
  |false=>
   (repeat' (first|refine wk1 ?_|refine wk2 (fun hb hp=> ?_) (fun hb hp=> ?_)|fail))
   all_goals refine wkf ?_
   have:decide (1≤s.length)=false:=dF h1 (fun h=>by omega)
   simp[namedM,this]
  |true=>
   have e1:decide (1≤s.length)=true:=dT h1 (fun h=>by omega)
   cases h2:decide ((s.length:Int)≤8) with
   |false=>
    (repeat' (first|refine wk1 ?_|refine wk2 (fun hb hp=> ?_) (fun hb hp=> ?_)|fail))
    all_goals refine wkf ?_
    have:decide (s.length≤8)=false:=dF h2 (fun h=>by omega)
    simp[namedM,this]
   |true=>
    have e2:decide (s.length≤8)=true:=dT h2 (fun h=>by omega)
    (repeat' (first|(refine LW.is ?_;first|(apply s_vr;exact rfl;apply v_loadG;exact hG;exact gs_words))|(refine DR.is ?_;first|(apply d_vr;exact rfl;apply v_loadG;exact hG;exact gs_words))|refine wk1 ?_|refine wk2 (fun hb hp=> ?_) (fun hb hp=> ?_)|fail))
    all_goals refine wkf ?_
    rw[namedM,hI,e1,e2];rfl
 |some b=>
  have hlt:=ltT hx
  have hlt':=ltN hx
  rw[dropC hx,List.all_cons] at hI
  (repeat' (first|refine wk1 ?_|refine wk2 (fun hb hp=> ?_) (fun hb hp=> ?_)|fail))
  all_goals try refine wkf ?_
  all_goals try (simp[namedM,hI,lowC, *];done)
  all_goals try (simp[namedM,hI,lowC];omega)
  refine hK _ (i+1) ?_ (by omega) ?_
  · have h1:lowC b=true:=by
     simp[lowC];omega
    rw[hI,h1];rfl
  · exact wkk
end Go.Proofs.YtadjbegnlimepaaGreatDoor
namespace Go.Proofs.YtadjbegnlimepaaGreatDoor
open Go.Abs
set_option maxRecDepth 100000
attribute [local irreducible] L Code.wp bodyPost Exit.then Exit.inBlock
set_option linter.unusedVariables false
set_option linter.unusedSimpArgs false
theorem ixb3_any(m:Str)(b:UInt8):CallA Tryz.prog 54 [aS m,.iv (.im (.int .u8 b.toNat))] [] [] [] (aI (Lib.indexByte m b)):=by
 refine CallA.intro _ Tryz.func54 rfl Tryz.ntmps54 rfl (fun w0 E0=> ?_)
 (repeat' (first|refine wk1 ?_|refine wk2 (fun hb hp=> ?_) (fun hb hp=> ?_)|fail))
 all_goals refine wkf ?_
 all_goals simp[resOf]
theorem ixb_any(m:Str)(b:UInt8):CallA Tryz.prog 20 [aS m,.iv (.im (.int .u8 b.toNat))] [] [] [] (aI (Lib.indexByte m b)):=by
 have k:=ixb3_any m b
 refine CallA.intro _ Tryz.func20 rfl Tryz.ntmps20 rfl (fun w0 E0=> ?_)
 (repeat' (first|refine wk1 ?_|refine wk2 (fun hb hp=> ?_) (fun hb hp=> ?_)|fail))
 all_goals refine wkf ?_
 all_goals rfl
def digC(b:UInt8):Bool:=48≤b.toNat && b.toNat≤57
def signs:Str:= [40,41,44,59,46,61,60,43,45,42]
def tokLen(c:UInt8)(r:Str):Option Nat:=
 if lowC c then some (1+(r.takeWhile lowC).length)
 else if digC c then some (1+(r.takeWhile digC).length)
 else if c=39 then(if Lib.indexByte r 39<0 then none else some ((Lib.indexByte r 39).toNat+2))
 else if 0≤Lib.indexByte signs c then some 1 else none
theorem tok_pos{c:UInt8}{r:Str}{n:Nat}(h:tokLen c r=some n):1≤n:=by
 unfold tokLen at h
 repeat' split at h
 all_goals first|(cases h;done)|(cases h;omega)
def splitM(s:Str):Option (List Str):=
 match s with
 | [] =>some []
 |c::r=>if c=32∨c=10 then splitM r else match h:tokLen c r with
  |none=>none
  |some n=>(splitM ((c::r).drop n)).map ((c::r).take n:: ·)
 termination_by s.length
 decreasing_by
  all_goals first|(simp;done)|(have:=tok_pos h;simp[List.length_drop];omega)
theorem split_nil:splitM [] =some []:=by rw[splitM]
theorem split_blank{c:UInt8}{r:Str}(h:c=32∨c=10):splitM (c::r)=splitM r:=by rw[splitM,if_pos h]
theorem split_none{c:UInt8}{r:Str}(h: ¬(c=32∨c=10))(ht:tokLen c r=none):splitM (c::r)=none:=by
 rw[splitM,if_neg h];split
 · rfl
 · rename_i h';rw[ht] at h';cases h'
theorem split_some{c:UInt8}{r:Str}{n:Nat}(h: ¬(c=32∨c=10))(ht:tokLen c r=some n):splitM (c::r)=(splitM ((c::r).drop n)).map ((c::r).take n:: ·):=by
 rw[splitM,if_neg h];split
 · rename_i h';rw[ht] at h';cases h'
 · rename_i h';rw[ht] at h';cases h';rfl
theorem tw_next{p:UInt8→Bool}: ∀{r:Str} {j:Nat} {c:UInt8},r[j]?=some c→p c=true→j≤(r.takeWhile p).length→j+1≤(r.takeWhile p).length
 | [],j,c,h,_,_=>by simp at h
 |b::r,0,c,h,hc,_=>by simp at h;subst h;simp[hc]
 |b::r,j+1,c,h,hc,hj=>by
  cases hb:p b with
  |false=>simp[hb] at hj
  |true=>
   rw[List.takeWhile_cons,if_pos hb] at hj⊢
   simp only[List.length_cons] at hj⊢
   have:=tw_next (r:=r) (j:=j) (c:=c) (by simpa using h) hc (by omega)
   omega
theorem tw_stop{p:UInt8→Bool}: ∀{r:Str} {j:Nat} {c:UInt8},r[j]?=some c→p c=false→j≤(r.takeWhile p).length→(r.takeWhile p).length=j
 | [],j,c,h,_,_=>by simp at h
 |b::r,0,c,h,hc,_=>by simp at h;subst h;simp[hc]
 |b::r,j+1,c,h,hc,hj=>by
  cases hb:p b with
  |false=>simp[hb] at hj
  |true=>
   rw[List.takeWhile_cons,if_pos hb] at hj⊢
   simp only[List.length_cons] at hj⊢
   rw[tw_stop (r:=r) (j:=j) (c:=c) (by simpa using h) hc (by omega)]
theorem tw_le(p:UInt8→Bool)(r:Str):(r.takeWhile p).length≤r.length:=(List.takeWhile_prefix _).length_le
end Go.Proofs.YtadjbegnlimepaaGreatDoor
