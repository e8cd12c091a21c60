/- Several texts in one, each with its own sentence ahead of it. Conditions: each one says its own. -/
import Derived.Test.YtadjbegnlimepaaGreatDoorZS21
import Derived.Test.YtadjbegnlimepaaGreatDoorZS39
set_option linter.all false
namespace Go.Proofs.YtadjbegnlimepaaGreatDoor
open Go.Abs
set_option linter.unusedVariables false
theorem TokA.take{l:List Str}(h:TokA l)(i:Nat):TokA (l.take i):=h.sub (fun w hw=>List.mem_of_mem_take hw)
theorem TokA.drop{l:List Str}(h:TokA l)(i:Nat):TokA (l.drop i):=h.sub (fun w hw=>List.mem_of_mem_drop hw)
theorem rc_all{gs:Globs}(m:Int)(hgm:maxG m∈gs): ∀n:Nat,
 (∀l k,5*l.length+4<n→TokA l→l.length≤1000000→k≤1000→RC gs 41 refO l k)∧(∀l k,5*l.length+3<n→TokA l→l.length≤1000000→k≤1000→RC gs 67 refA l k)∧
 (∀l k,5*l.length+2<n→TokA l→l.length≤1000000→k≤1000→RC gs 82 refT l k)∧(∀l k,5*l.length+1<n→TokA l→l.length≤1000000→k≤1000→RC gs 100 refS l k)∧
 (∀l k,5*l.length<n→TokA l→l.length≤1000000→k≤1000→RC gs 111 refN l k)
 |0=>⟨fun l k h=>absurd h (Nat.not_lt_zero _),fun l k h=>absurd h (Nat.not_lt_zero _),fun l k h=>absurd h (Nat.not_lt_zero _),fun l k h=>absurd h (Nat.not_lt_zero _),fun l k h=>absurd h (Nat.not_lt_zero _)⟩
 |n+1=>by
  obtain⟨iO,iA,iT,iS,iN⟩:=rc_all m hgm n
  have tl: ∀(l:List Str) (i:Nat),(l.take i).length=min i l.length:=fun l i=>List.length_take
  have dl: ∀(l:List Str) (i:Nat),(l.drop i).length=l.length - i:=fun l i=>List.length_drop
  refine⟨fun l k hn ht hl hk=> ?_,fun l k hn ht hl hk=> ?_,fun l k hn ht hl hk=> ?_,fun l k hn ht hl hk=> ?_,fun l k hn ht hl hk=> ?_⟩
  · exact dcO_any hl (fun i hi=>iO _ k (by rw[tl];omega) (ht.take i) (by rw[tl];omega) hk) (fun i hi=>iA _ k (by rw[dl];omega) (ht.drop _) (by rw[dl];omega) hk) (iA l k (by omega) ht hl hk)
  · exact dcA_any hl (fun i hi=>iA _ k (by rw[tl];omega) (ht.take i) (by rw[tl];omega) hk) (fun i hi=>iT _ k (by rw[dl];omega) (ht.drop _) (by rw[dl];omega) hk) (iT l k (by omega) ht hl hk)
  · refine dcT_any hl hk (fun h0 hk0=>iT _ _ (by have:=List.length_pos_iff.2 h0;rw[dl];omega) (ht.drop 1) (by rw[dl];omega) (by omega)) (fun h0=>iS _ k (by have:=h0.1;rw[tl];omega) (ht.take _) (by rw[tl];omega) hk)
     (fun i hi=>⟨iS _ k (by rw[tl];omega) (ht.take i) (by rw[tl];omega) hk,iS _ k (by rw[dl];omega) (ht.drop _) (by rw[dl];omega) hk⟩) (iS l k (by omega) ht hl hk)
  · exact dcS_any hl (fun i hi=>⟨iS _ k (by rw[tl];omega) (ht.take i) (by rw[tl];omega) hk,iN _ k (by rw[dl];omega) (ht.drop _) (by rw[dl];omega) hk⟩) (iN l k (by omega) ht hl hk)
  · refine dcN_any m hgm ht hl hk (fun hb hk0=>iO _ _ ?_ ((ht.drop 1).take _) (by rw[tl,dl];omega) (by omega))
    have:=hb.2.2
    rw[tl,dl]
    omega
theorem expr_rc{gs:Globs}(m:Int)(hgm:maxG m∈gs){l:List Str}{k:Nat}(ht:TokA l)(hl:l.length≤1000000)(hk:k≤1000):RC gs 41 refO l k:=
 (rc_all m hgm _).1 l k (Nat.lt_succ_self _) ht hl hk
end Go.Proofs.YtadjbegnlimepaaGreatDoor
namespace Go.Proofs.YtadjbegnlimepaaGreatDoor
open Go.Abs
set_option maxRecDepth 100000
open Go.Shelf
open Go.RowKit (Below)
attribute [local irreducible] L Code.wp bodyPost Exit.then Exit.inBlock
set_option linter.unusedVariables false
set_option linter.unusedSimpArgs false
theorem extraJ:Builder.Extra Tryz.prog Tryz.laysJoin_ren where
 sizeBuilder:=by kernel_rfl
 liesBuilder:=by kernel_rfl
 t5:=by kernel_rfl
 a5:=Tryz.isAgg5
 z5:=Tryz.sizeOf5
 v5:=Tryz.zeroValue5
 infoByte:=by kernel_rfl
 cellsByte:=by kernel_rfl
 sizeByte:=by kernel_rfl
 neB5:=by decide
theorem cell_lt{w:World}{b o:Nat}{v:Value}(h:w.cell? ⟨b,o,none⟩=some v):b<w.heap.size:=by
 unfold World.cell? at h
 dsimp only at h
 cases e:w.heap[b]? with
 |none=>rw[e] at h;cases h
 |some x=>exact(Array.getElem?_eq_some_iff.1 e).1
theorem join_any{gs:Globs}(ws:List Str)(sep:Str)(h1:ws.length≤1000000)(h2:(Lib.join ws sep).length≤140737488355328):
 CallG gs Tryz.prog 38 [.iv (.sl (ws.map Str.c)),aS sep] [] [] [] (aS (Lib.join ws sep)):=by
 refine CallG.below (v:= .string ⟨(Lib.join ws sep).toArray⟩) rfl ?_
 intro E w us hr hG
 obtain⟨hl,hr⟩:=hr
 match us,hl with
 | [u,v],_=>
   have e2:=(hr 1 _ v rfl rfl).iv_im
   subst e2
   have e1:RepI E.φ w (.sl (ws.map Str.c)) u:=by
    have:=hr 0 _ u rfl rfl
    cases this with
    |iv h=>exact h
   have hm:(ws.map fun x=>(⟨x.toArray⟩:ByteArray)).map (·.data.toList)=ws:=by simp[List.map_map,Function.comp_def]
   have hn:ws= [] →Lib.join ws sep= []:=fun h=>by rw[h];rfl
   rcases e1.sl_inv with⟨rfl,e⟩|⟨ad,cap,rfl,_,_,e⟩|⟨b,o,cap,k,f,rfl,hc,hm2,hk,hcell⟩
   · have e:=List.map_eq_nil_iff.1 e
     rw[hn e]
     exact(Any.strings_Join_none Tryz.laysJoin extraJ none 0 ⟨sep.toArray⟩ w).mono (by rintro e w' ⟨rfl,rfl⟩;exact⟨rfl,Below.same⟩)
   · have e:=List.map_eq_nil_iff.1 e
     rw[hn e]
     exact(Any.strings_Join_none Tryz.laysJoin extraJ (some ad) cap ⟨sep.toArray⟩ w).mono (by rintro e w' ⟨rfl,rfl⟩;exact⟨rfl,Below.same⟩)
   · rw[List.length_map] at hc⊢
     by_cases h0:ws= []
     · subst h0
       exact(Any.strings_Join_none Tryz.laysJoin extraJ (some ⟨b,o,none⟩) cap ⟨sep.toArray⟩ w).mono (by rintro e w' ⟨rfl,rfl⟩;exact⟨rfl,Below.same⟩)
     · have k1:k=1:=by
        cases ws with
        |nil=>exact absurd rfl h0
        |cons x r=>exact(hk 0 _ rfl).symm
       subst k1
       have cells: ∀(j:Nat) x,(ws.map fun x=>(⟨x.toArray⟩:ByteArray))[j]?=some x→w.cell? ⟨b,o+j,none⟩=some (.string x):=fun j x hx=>by
        rw[List.getElem?_map,Option.map_eq_some_iff] at hx
        obtain⟨s,hs,rfl⟩:=hx
        obtain⟨_,c2,c3⟩:=hcell j [S s] 0 (S s) (by rw[List.getElem?_map,hs];rfl) rfl
        have:=c3.im_eq
        rw[Nat.mul_one,Nat.add_zero] at c2
        rw[c2,this]
       have hlt:b<w.heap.size:=by
        cases ws with
        |nil=>exact absurd rfl h0
        |cons x r=>exact cell_lt (cells 0 _ rfl)
       have:=Any.strings_Join Tryz.laysJoin extraJ b o cap (ws.map fun x=>(⟨x.toArray⟩:ByteArray)) ⟨sep.toArray⟩ w cells hlt (by rw[List.length_map];omega) (by rw[List.length_map];exact hc) (by rw[hm];exact h2)
       rw[hm,List.length_map] at this
       exact this
def spTab:List IV:=Lib.asciiSpaceTab.map fun z=> .im (.int .u8 z)
theorem below_alloc(w:World)(b:Obj):Below w.heap.size w (w.alloc b):=
 ⟨rfl,rfl,rfl,by show w.heap.size≤(w.heap.push b).size;rw[Array.size_push];omega,fun k hk=>by show(w.heap.push b)[k]?=w.heap[k]?;rw[Array.getElem?_push,if_neg (by omega)]⟩
theorem fields_any{gs:Globs}(hsp:(1,spTab)∈gs)(s:Str)(hs:s.length<4294967281)(ha: ∀b∈s,b.toNat<128)(hcap:(Lib.fields s).length≤maxLen):
 CallG gs Tryz.prog 37 [aS s] [] [] [] (.iv (.sl ((Lib.fields s).map Str.c))):=by
 intro E w us hr hh hG
 rw[hr.im1]
 have ht:Lib.TabIs Tryz.prog w "strings.asciiSpace" .u8 Lib.asciiSpaceTab:=by
  obtain⟨cs,ty,sp,e1,e2⟩:=hG.1.2 _ _ hsp (fun e=>by have:=congrArg List.length e;simp[spTab,Lib.asciiSpaceTab_length] at this)
  have hg:Program.globalNamed Tryz.prog "strings.asciiSpace" =some 1:=by kernel_rfl
  have:cs=(Lib.asciiSpaceTab.map fun z=>Value.int .u8 z).toArray:=by
   apply Array.ext
   · rw[e2];simp[spTab]
   · intro i h1 h2
     have hi:i<Lib.asciiSpaceTab.length:=by simpa using h2
     obtain⟨_,v,c1,c2⟩:=hG.2 _ _ hsp i _ (by rw[spTab,List.getElem?_map,List.getElem?_eq_getElem hi];rfl)
     have:=c2.im_eq
     subst this
     simp only[World.cell?,e1] at c1
     simp at c1
     obtain⟨_,c1⟩:=Array.getElem?_eq_some_iff.1 c1
     simpa using c1
  subst this
  simp[Lib.TabIs,World.var?,hg,e1]
 have hasc: ∀(j:Nat) b,(⟨s.toArray⟩:ByteArray).data.toList[j]?=some b→b.toNat<128:=fun j b hb=>ha b (List.mem_of_getElem? hb)
 refine(Any.strings_Fields Tryz.laysFields (by kernel_rfl) (by kernel_rfl) ⟨s.toArray⟩ w hs hasc ht).mono ?_
 rintro e w' ⟨rfl,rfl⟩
 have hb:=below_alloc w (.cells ((Lib.fields s).map fun l=>Value.string ⟨l.toArray⟩).toArray (Tryz.laysFields_ren.t 9))
 generalize hf:Lib.fields s=fs at*
 refine⟨_,{E with φ:=fun g=>if g=w.heap.size then fs.length else E.φ g},rfl,.iv ?_,⟨fun id b h=>by simp at h,fun id t h=>by simp at h,fun i j b b' h=>by simp at h,fun i j t t' g h=>by simp at h,fun i j b t h=>by simp at h,fun i b h=>by simp at h,fun i t g h=>by simp at h,
  fun b hb'=> ?_,fun b hb'=> ?_,fun id h=>by simp[keys] at h,KeptBut.ofBelow hb⟩⟩
 · have hlen:(fs.map Str.c).length=fs.length:=List.length_map _
   have at_e: ∀(i:Nat) (e:List IV) (j:Nat) (x:IV),(fs.map Str.c)[i]?=some e→e[j]?=some x→ ∃y,fs[i]?=some y∧i<fs.length∧j=0∧x=S y:=fun i e j x h1 h2=>by
    rw[List.getElem?_map,Option.map_eq_some_iff] at h1
    obtain⟨y,hy,rfl⟩:=h1
    cases j with
    |zero=>exact⟨y,hy,ltN hy,rfl,by injection h2 with h2;exact h2.symm⟩
    |succ j=>simp[Str.c] at h2
   have:=RepI.sl (φ:=fun g=>if g=w.heap.size then fs.length else E.φ g) (w:=w.alloc (.cells (fs.map fun l=>Value.string ⟨l.toArray⟩).toArray (Tryz.laysFields_ren.t 9))) (es:=fs.map Str.c) (b:=w.heap.size) (o:=0) (cap:=fs.length) (k:=1) (fun i _=>Value.string ⟨(fs.getD i []).toArray⟩)
    (by rw[hlen];exact Nat.le_refl _) hcap (fun i e h=>lenS1 fs e (List.mem_of_getElem? h))
    (fun i e j x h1 h2=>by obtain⟨y,hy,h3,rfl,rfl⟩:=at_e i e j x h1 h2;rw[if_pos rfl];omega)
    (fun i e j x h1 h2=>by
      obtain⟨y,hy,h3,rfl,rfl⟩:=at_e i e j x h1 h2
      have e1:(w.alloc (.cells (fs.map fun l=>Value.string ⟨l.toArray⟩).toArray (Tryz.laysFields_ren.t 9))).heap[w.heap.size]?=some (.cells (fs.map fun l=>Value.string ⟨l.toArray⟩).toArray (Tryz.laysFields_ren.t 9) (0,0)):=by
       show(w.heap.push _)[w.heap.size]?=_
       rw[Array.getElem?_push,if_pos rfl]
      unfold World.cell?
      dsimp only
      rw[e1]
      simp only[Option.isSome_none,Bool.false_eq_true,if_false]
      rw[List.getElem?_toArray,show 0+i*1+0=i by omega,List.getElem?_map,hy,List.getD_eq_getElem?_getD,hy]
      rfl)
    (fun i e j x h1 h2=>by
      obtain⟨y,hy,h3,rfl,rfl⟩:=at_e i e j x h1 h2
      rw[List.getD_eq_getElem?_getD,hy]
      exact .im rfl)
   rw[hlen] at this
   exact this
 · have hsz:(w.alloc (.cells (fs.map fun l=>Value.string ⟨l.toArray⟩).toArray (Tryz.laysFields_ren.t 9))).heap.size=w.heap.size+1:=by show(w.heap.push _).size=_;rw[Array.size_push]
   rw[hsz] at hb'
   show(if b=w.heap.size then fs.length else E.φ b)=0
   rw[if_neg (by omega)]
   exact hh.new b (by omega)
 · show(if b=w.heap.size then fs.length else E.φ b)=E.φ b
   rw[if_neg (fun e=>by subst e;exact absurd hb' (Nat.lt_irrefl _))]
end Go.Proofs.YtadjbegnlimepaaGreatDoor
namespace Go.Proofs.YtadjbegnlimepaaGreatDoor
open Go.Abs
set_option maxRecDepth 100000
attribute [local irreducible] L Code.wp bodyPost Exit.then Exit.inBlock
set_option linter.unusedVariables false
set_option linter.unusedSimpArgs false
theorem sp_inj: ∀{a u b v:Str},(32:UInt8)∉u→(32:UInt8)∉v→a++32::b=u++32::v→a=u∧b=v
 | [],[],b,v,_,_,h=>by injection h with _ h;exact⟨rfl,h⟩
 | [],x::u,b,v,hu,_,h=>by injection h with h _;exact absurd (by simp[h]) hu
 |x::a,[],b,v,_,hv,h=>by injection h with _ h;exact absurd (by rw[←h];simp) hv
 |x::a,y::u,b,v,hu,hv,h=>by
  injection h with h1 h2
  obtain⟨h3,h4⟩:=sp_inj (fun k=>hu (List.mem_cons_of_mem _ k)) hv h2
  exact⟨by rw[h1,h3],h4⟩
structure HeadT (txt:Str) (ws:List Str):Prop where
 f:Lib.fields txt=ws
 n:ws.length≤2
 l:txt.length≤100
 a: ∀b∈txt,b.toNat<128
 j: ∀l:List Str,ws.length≤l.length→(Lib.join (l.take ws.length) [32] ==txt)=hdW ws l
theorem head1{w:Str}(hf:Lib.fields w= [w])(hl:w.length≤100)(ha:w.all (fun b=>decide (b.toNat<128))=true):HeadT w [w] where
 f:=hf
 n:=by simp
 l:=hl
 a:=fun b hb=>of_decide_eq_true (List.all_eq_true.1 ha b hb)
 j:=fun l h=>by
  match l,h with
  |x::r,_=>
   show(Lib.join [x] [32] ==w)=decide ([x] = [w])
   rw[Lib.join_one]
   by_cases h:x=w
   · rw[h];simp
   · rw[beqF h];simp[h]
  | [],h=>simp at h
theorem head2{u v:Str}(hf:Lib.fields (u++32::v)= [u,v])(hl:(u++32::v).length≤100)(ha:(u++32::v).all (fun b=>decide (b.toNat<128))=true)(hu:u.contains 32=false)(hv:v.contains 32=false):HeadT (u++32::v) [u,v] where
 f:=hf
 n:=by simp
 l:=hl
 a:=fun b hb=>of_decide_eq_true (List.all_eq_true.1 ha b hb)
 j:=fun l h=>by
  match l,h with
  |x::y::r,_=>
   show(Lib.join [x,y] [32] ==u++32::v)=decide ([x,y] = [u,v])
   rw[Lib.join_cons,show Lib.joinTail [32] [y] =32::y by simp[Lib.joinTail]]
   by_cases h:x=u∧y=v
   · rw[h.1,h.2];simp
   · rw[beqF (fun e=>h (sp_inj (by simpa using hu) (by simpa using hv) e))]
     simp only[List.cons.injEq,and_true,h,decide_false]
  | [],h=>simp at h
  | [_],h=>simp at h
abbrev rowB(l:List Str):Box:=⟨32,.l [.iv (.sl (l.map Str.c))]⟩
set_option maxHeartbeats 8000000 in
theorem head_any{gs:Globs}(hsp:(1,spTab)∈gs){txt:Str}{ws:List Str}(hw:HeadT txt ws)(l:List Str)(hl:l.length≤1000000)(ht:TokA l):
 CallG gs Tryz.prog 36 [aS txt,.ptr 1000 0] [(1000,rowB l)] [(1000,rowB (if hdW ws l=true then l.drop ws.length else l))] [] (aB (hdW ws l)):=by
 have em:(l.map Str.c).length=l.length:=List.length_map _
 have ew:(ws.map Str.c).length=ws.length:=List.length_map _
 have wn:=hw.n
 have wl:=hw.l
 have kf:=fields_any hsp txt (by omega) hw.a (by rw[hw.f];simp only[maxLen];omega)
 rw[hw.f] at kf
 refine CallG.intro _ Tryz.func36 rfl Tryz.ntmps36 rfl (fun w0 E0 hG=> ?_)
 by_cases h1:l.length<ws.length
 · have q1:decide (((l.map Str.c).length:Int)<((ws.map Str.c).length:Int))=true:=decide_eq_true (by rw[em,ew];omega)
   have hh:hdW ws l=false:=by
    unfold hdW
    refine decide_eq_false (fun e=> ?_)
    have:=congrArg List.length e
    rw[List.length_take] at this
    omega
   rw[hh,if_neg Bool.false_ne_true]
   (repeat' (first|refine wk1 ?_|refine wk2 (fun hb hp=> ?_) (fun hb hp=> ?_)|fail))
   all_goals refine wkq ?_ ?_
   all_goals rfl
 have q1:decide (((l.map Str.c).length:Int)<((ws.map Str.c).length:Int))=false:=decide_eq_false (by rw[em,ew];omega)
 have b1:((ws.map Str.c).length:Int)≤((l.map Str.c).length:Int):=by rw[em,ew];omega
 have s1:(l.map Str.c).take (((ws.map Str.c).length:Nat):Int).toNat=(l.take ws.length).map Str.c:=by rw[Int.toNat_natCast,ew,List.map_take]
 have s2:(l.map Str.c).drop (((ws.map Str.c).length:Nat):Int).toNat=(l.drop ws.length).map Str.c:=by rw[Int.toNat_natCast,ew,List.map_drop]
 have hj:=hw.j l (by omega)
 have jl:(Lib.join (l.take ws.length) [32]).length≤140737488355328:=by
  match hq:l.take ws.length with
  | [] =>simp[Lib.join_nil]
  | [a] =>
    have:=(ht a (List.mem_of_mem_take (by rw[hq];simp:a∈l.take ws.length))).1.1
    rw[Lib.join_one];omega
  | [a,b] =>
    have h1:=(ht a (List.mem_of_mem_take (by rw[hq];simp:a∈l.take ws.length))).1.1
    have h2:=(ht b (List.mem_of_mem_take (by rw[hq];simp:b∈l.take ws.length))).1.1
    rw[Lib.join_cons,show Lib.joinTail [32] [b] =32::b by simp[Lib.joinTail],List.length_append,List.length_cons]
    omega
  |a::b::c::r=>
   have:=congrArg List.length hq
   rw[List.length_take] at this
   simp only[List.length_cons] at this
   omega
 have kj:=join_any (gs:=gs) (l.take ws.length) [32] (by rw[List.length_take];omega) jl
 cases hh:hdW ws l with
 |false=>
  have q2:(!(Lib.join (l.take ws.length) [32] ==txt))=true:=by rw[hj,hh];rfl
  rw[if_neg Bool.false_ne_true]
  (repeat' (first|(refine LW.is ?_;first|(apply s_vr;exact rfl;apply v_sliceVh;exact rfl;exact rfl;exact lenS1 _;omega;exact b1;exact s1))|(refine DR.is ?_;first|(apply d_vr;exact rfl;apply v_sliceVh;exact rfl;exact rfl;exact lenS1 _;omega;exact b1;exact s1))|refine wk1 ?_|refine wk2 (fun hb hp=> ?_) (fun hb hp=> ?_)|fail))
  all_goals refine wkq ?_ ?_
  all_goals rfl
 |true=>
  have q2:(!(Lib.join (l.take ws.length) [32] ==txt))=false:=by rw[hj,hh];rfl
  rw[if_pos rfl]
  (repeat' (first|(refine LW.is ?_;first|(apply s_vr;exact rfl;apply v_sliceVh;exact rfl;exact rfl;exact lenS1 _;omega;exact b1;exact s1)|(apply s_vr;exact rfl;apply v_sliceVl;exact rfl;exact rfl;exact lenS1 _;omega;exact b1;exact s2))|(refine DR.is ?_;first|(apply d_vr;exact rfl;apply v_sliceVh;exact rfl;exact rfl;exact lenS1 _;omega;exact b1;exact s1)|(apply d_vr;exact rfl;apply v_sliceVl;exact rfl;exact rfl;exact lenS1 _;omega;exact b1;exact s2))|refine wk1 ?_|refine wk2 (fun hb hp=> ?_) (fun hb hp=> ?_)|fail))
  all_goals refine wkq ?_ ?_
  all_goals rfl
abbrev stmB(s:Stm):Box:=⟨39,.l (s.cs.map .iv)⟩
set_option maxHeartbeats 8000000 in
theorem where_any{gs:Globs}(m:Int)(hgm:maxG m∈gs)(l:List Str)(hl:l.length≤1000000)(ht:TokA l)(s:Stm):
 CallG gs Tryz.prog 39 [.ptr 1000 0,.ptr 1001 0] [(1000,rowB l),(1001,stmB s)] [(1000,rowB (dcWh l).1),(1001,stmB (if cutM l [wWHERE] =none then s else{s with wh:=(dcWh l).2.1}))] [] (aB (dcWh l).2.2):=by
 have kc:=cut_any l [wWHERE] hl (by simp)
 refine CallG.intro _ Tryz.func39 rfl Tryz.ntmps39 rfl (fun w0 E0 hG=> ?_)
 cases hc:cutM l [wWHERE] with
 |none=>
  have e1:dcWh l=(l,nilE,true):=by unfold dcWh;rw[hc]
  have ec:cutR l [wWHERE] =(l,[],-1):=by unfold cutR;rw[hc]
  rw[ec] at kc
  rw[e1,if_pos rfl]
  (repeat' (first|refine wk1 ?_|refine wk2 (fun hb hp=> ?_) (fun hb hp=> ?_)|fail))
  all_goals(apply L.endQ1;exact rfl;exact rfl;exact Wk.mk' (by intro id h;simp[keys] at h;rcases h with rfl|rfl<;>rfl) .nil (.cons rfl rfl (Subs.of_eq rfl) (.cons rfl rfl (Subs.of_eq rfl) .nil)) .nil;exact rfl)
 |some p=>
  have e1:dcWh l=(l.take p.1,refO (l.drop (p.1+1)) 6):=by unfold dcWh;rw[hc]
  have ec:cutR l [wWHERE] =(l.take p.1,l.drop (p.1+1),(p.2:Int)):=by unfold cutR;rw[hc]
  have ke:=expr_rc m hgm (k:=6) (ht.drop (p.1+1)) (by rw[List.length_drop];omega) (by decide)
  have q1:decide ((p.2:Int)<0)=false:=decide_eq_false (by omega)
  unfold RC at ke
  rw[ec] at kc
  rw[e1,if_neg (by simp)]
  generalize refO (l.drop (p.1+1)) 6=r at*
  obtain⟨x,b⟩:=r
  dsimp only at ke⊢
  (repeat' (first|refine wk1 ?_|refine wk2 (fun hb hp=> ?_) (fun hb hp=> ?_)|fail))
  all_goals(apply L.endQ1;exact rfl;exact rfl;exact Wk.mk' (by intro id h;simp[keys] at h;rcases h with rfl|rfl<;>rfl) .nil (.cons rfl rfl (Subs.of_eq rfl) (.cons rfl rfl (Subs.of_eq rfl) .nil)) .nil;exact rfl)
end Go.Proofs.YtadjbegnlimepaaGreatDoor
namespace Go.Proofs.YtadjbegnlimepaaGreatDoor
open Go.Abs
set_option maxRecDepth 100000
attribute [local irreducible] L Code.wp bodyPost Exit.then Exit.inBlock
set_option linter.unusedVariables false
set_option linter.unusedSimpArgs false
theorem hCT:HeadT (wCREATE++32::wTABLE) [wCREATE,wTABLE]:=head2 (by kernel_rfl) (by decide) (by decide) (by decide) (by decide)
theorem hCI:HeadT (wCREATE++32::wINDEX) [wCREATE,wINDEX]:=head2 (by kernel_rfl) (by decide) (by decide) (by decide) (by decide)
theorem hDT:HeadT (wDROP++32::wTABLE) [wDROP,wTABLE]:=head2 (by kernel_rfl) (by decide) (by decide) (by decide) (by decide)
theorem hII:HeadT (wINSERT++32::wINTO) [wINSERT,wINTO]:=head2 (by kernel_rfl) (by decide) (by decide) (by decide) (by decide)
theorem hDF:HeadT (wDELETE++32::wFROM) [wDELETE,wFROM]:=head2 (by kernel_rfl) (by decide) (by decide) (by decide) (by decide)
theorem hUP:HeadT wUPDATE [wUPDATE]:=head1 (by kernel_rfl) (by decide) (by decide)
theorem hSE:HeadT wSELECT [wSELECT]:=head1 (by kernel_rfl) (by decide) (by decide)
theorem head_no{gs:Globs}(hsp:(1,spTab)∈gs){txt:Str}{ws:List Str}(hw:HeadT txt ws){l:List Str}(hl:l.length≤1000000)(ht:TokA l)(h:hdW ws l=false):
 CallG gs Tryz.prog 36 ([aS txt] ++ [.ptr 1 0]) [(1,rowB l)] [(1,rowB l)] [] (aB false):=by
 have:=head_any hsp hw l hl ht
 rw[h,if_neg Bool.false_ne_true] at this
 exact this.sws [(1000,1)] (args2:= [aS txt,.ptr 1 0]) (bx2:= [(1,rowB l)]) (bx2':= [(1,rowB l)]) (tk2':= []) (res2:=aB false) rfl rfl rfl rfl rfl
theorem head_yes{gs:Globs}(hsp:(1,spTab)∈gs){txt:Str}{ws:List Str}(hw:HeadT txt ws){l:List Str}(hl:l.length≤1000000)(ht:TokA l)(h:hdW ws l=true):
 CallG gs Tryz.prog 36 ([aS txt] ++ [.ptr 1 0]) [(1,rowB l)] [(1,rowB (l.drop ws.length))] [] (aB true):=by
 have:=head_any hsp hw l hl ht
 rw[h,if_pos rfl] at this
 exact this.sws [(1000,1)] (args2:= [aS txt,.ptr 1 0]) (bx2:= [(1,rowB l)]) (bx2':= [(1,rowB (l.drop ws.length))]) (tk2':= []) (res2:=aB true) rfl rfl rfl rfl rfl
def SR:Option Stm→AV
 |some s=> .tup [.agg (s.cs.map .iv),aB true]
 |none=> .tup [.agg [.any,.any,.any,.any,.any,.any,.any,.any,.any,.any,.any,.any,.any,.any,.any,.any,.any,.any,.any,.any],aB false]
theorem anyS{a0 a1 a2 a3 a4 a5 a6 a7 a8 a9 b0 b1 b2 b3 b4 b5 b6 b7 b8 b9:AV}:Subs [a0,a1,a2,a3,a4,a5,a6,a7,a8,a9,b0,b1,b2,b3,b4,b5,b6,b7,b8,b9] [.any,.any,.any,.any,.any,.any,.any,.any,.any,.any,.any,.any,.any,.any,.any,.any,.any,.any,.any,.any]:=
 .cons (Sub.any _) (.cons (Sub.any _) (.cons (Sub.any _) (.cons (Sub.any _) (.cons (Sub.any _) (.cons (Sub.any _) (.cons (Sub.any _) (.cons (Sub.any _) (.cons (Sub.any _) (.cons (Sub.any _) (.cons (Sub.any _) (.cons (Sub.any _) (.cons (Sub.any _) (.cons (Sub.any _) (.cons (Sub.any _) (.cons (Sub.any _) (.cons (Sub.any _) (.cons (Sub.any _) (.cons (Sub.any _) (.cons (Sub.any _) (.nil))))))))))))))))))))
set_option maxHeartbeats 16000000 in
theorem doc_none{gs:Globs}(m:Int)(hgm:maxG m∈gs)(hsp:(1,spTab)∈gs){l:List Str}(hl:l.length≤1000000)(ht:TokA l)(n0:hdW [wCREATE,wTABLE] l=false)(n1:hdW [wCREATE,wINDEX] l=false)(n2:hdW [wDROP,wTABLE] l=false)(n3:hdW [wINSERT,wINTO] l=false)(n4:hdW [wDELETE,wFROM] l=false)(n5:hdW [wUPDATE] l=false)(n6:hdW [wSELECT] l=false):CallG gs Tryz.prog 14 [.iv (.sl (l.map Str.c))] [] [] [] (SR none):=by
 have k0:=head_no hsp hCT (l:=l) hl ht n0
 have k1:=head_no hsp hCI (l:=l) hl ht n1
 have k2:=head_no hsp hDT (l:=l) hl ht n2
 have k3:=head_no hsp hII (l:=l) hl ht n3
 have k4:=head_no hsp hDF (l:=l) hl ht n4
 have k5:=head_no hsp hUP (l:=l) hl ht n5
 have k6:=head_no hsp hSE (l:=l) hl ht n6
 refine CallG.intro _ Tryz.func14 rfl Tryz.ntmps14 rfl (fun w0 E0 hG=> ?_)
 (repeat' (first|(apply s_callFnW [] (f:=36) (avs:= [aS (wCREATE++32::wTABLE)]) (caps:= [.ptr 1 0]) (bxi:= [(1,rowB l)]);exact rfl;exact hG;exact rfl;exact k0;exact Subs.of_eq rfl;exact .cons rfl rfl (Subs.of_eq rfl) .nil;exact rfl;exact rfl;exact rfl;exact rfl)|(apply s_callFnW [] (f:=36) (avs:= [aS (wCREATE++32::wINDEX)]) (caps:= [.ptr 1 0]) (bxi:= [(1,rowB l)]);exact rfl;exact hG;exact rfl;exact k1;exact Subs.of_eq rfl;exact .cons rfl rfl (Subs.of_eq rfl) .nil;exact rfl;exact rfl;exact rfl;exact rfl)|(apply s_callFnW [] (f:=36) (avs:= [aS (wDROP++32::wTABLE)]) (caps:= [.ptr 1 0]) (bxi:= [(1,rowB l)]);exact rfl;exact hG;exact rfl;exact k2;exact Subs.of_eq rfl;exact .cons rfl rfl (Subs.of_eq rfl) .nil;exact rfl;exact rfl;exact rfl;exact rfl)|(apply s_callFnW [] (f:=36) (avs:= [aS (wINSERT++32::wINTO)]) (caps:= [.ptr 1 0]) (bxi:= [(1,rowB l)]);exact rfl;exact hG;exact rfl;exact k3;exact Subs.of_eq rfl;exact .cons rfl rfl (Subs.of_eq rfl) .nil;exact rfl;exact rfl;exact rfl;exact rfl)|(apply s_callFnW [] (f:=36) (avs:= [aS (wDELETE++32::wFROM)]) (caps:= [.ptr 1 0]) (bxi:= [(1,rowB l)]);exact rfl;exact hG;exact rfl;exact k4;exact Subs.of_eq rfl;exact .cons rfl rfl (Subs.of_eq rfl) .nil;exact rfl;exact rfl;exact rfl;exact rfl)|(apply s_callFnW [] (f:=36) (avs:= [aS wUPDATE]) (caps:= [.ptr 1 0]) (bxi:= [(1,rowB l)]);exact rfl;exact hG;exact rfl;exact k5;exact Subs.of_eq rfl;exact .cons rfl rfl (Subs.of_eq rfl) .nil;exact rfl;exact rfl;exact rfl;exact rfl)|(apply s_callFnW [] (f:=36) (avs:= [aS wSELECT]) (caps:= [.ptr 1 0]) (bxi:= [(1,rowB l)]);exact rfl;exact hG;exact rfl;exact k6;exact Subs.of_eq rfl;exact .cons rfl rfl (Subs.of_eq rfl) .nil;exact rfl;exact rfl;exact rfl;exact rfl)|refine wk1 ?_|refine wk2 (fun hb hp=> ?_) (fun hb hp=> ?_)|fail))
 all_goals(apply L.ends;exact rfl;exact rfl;exact Sub.tup (.cons (Sub.agg anyS) (.cons (Sub.of_eq rfl) .nil));exact Wk.mk' (by intro id h;cases h) .nil .nil .nil)
set_option maxHeartbeats 16000000 in
theorem doc_drop{gs:Globs}(m:Int)(hgm:maxG m∈gs)(hsp:(1,spTab)∈gs){l:List Str}(hl:l.length≤1000000)(ht:TokA l)(n0:hdW [wCREATE,wTABLE] l=false)(n1:hdW [wCREATE,wINDEX] l=false)(hy:hdW [wDROP,wTABLE] l=true):CallG gs Tryz.prog 14 [.iv (.sl (l.map Str.c))] [] [] [] (SR (dcDro (l.drop 2))):=by
 have k0:=head_no hsp hCT (l:=l) hl ht n0
 have k1:=head_no hsp hCI (l:=l) hl ht n1
 have k2:=head_yes hsp hDT (l:=l) hl ht hy
 have t2:=ht.drop 2
 have hl2:(l.drop 2).length≤1000000:=by rw[List.length_drop];omega
 dsimp only[List.length_cons,List.length_nil] at k2
 refine CallG.intro _ Tryz.func14 rfl Tryz.ntmps14 rfl (fun w0 E0 hG=> ?_)
 generalize hq:l.drop 2=q at*
 have em:(q.map Str.c).length=q.length:=List.length_map _
 by_cases h1:q.length=1
 · match q,h1,t2 with
   | [n],_,t2=>
     have ki:=isName_any m hgm n (by have:=(t2 n (by simp)).1.1;omega)
     have g0:([n].map Str.c)[(0:Int).toNat]?=some [S n]:=rfl
     cases hn:namedM n with
     |true=>
      rw[hn] at ki
      have e:dcDro [n] =some {stm0 with kind:=3,name:=n}:=by unfold dcDro;rw[if_pos ⟨rfl,hn⟩];rfl
      rw[e]
      (repeat' (first|(apply s_callFnW [] (f:=36) (avs:= [aS (wCREATE++32::wTABLE)]) (caps:= [.ptr 1 0]) (bxi:= [(1,rowB l)]);exact rfl;exact hG;exact rfl;exact k0;exact Subs.of_eq rfl;exact .cons rfl rfl (Subs.of_eq rfl) .nil;exact rfl;exact rfl;exact rfl;exact rfl)|(apply s_callFnW [] (f:=36) (avs:= [aS (wCREATE++32::wINDEX)]) (caps:= [.ptr 1 0]) (bxi:= [(1,rowB l)]);exact rfl;exact hG;exact rfl;exact k1;exact Subs.of_eq rfl;exact .cons rfl rfl (Subs.of_eq rfl) .nil;exact rfl;exact rfl;exact rfl;exact rfl)|(apply s_callFnW [] (f:=36) (avs:= [aS (wDROP++32::wTABLE)]) (caps:= [.ptr 1 0]) (bxi:= [(1,rowB l)]);exact rfl;exact hG;exact rfl;exact k2;exact Subs.of_eq rfl;exact .cons rfl rfl (Subs.of_eq rfl) .nil;exact rfl;exact rfl;exact rfl;exact rfl)|refine wk1 ?_|refine wk2 (fun hb hp=> ?_) (fun hb hp=> ?_)|fail))
      all_goals refine wkf ?_
      all_goals rfl
     |false=>
      rw[hn] at ki
      have e:dcDro [n] =none:=by unfold dcDro;rw[if_neg (fun k=>by have:=k.2;rw[show([n]:List Str).headD [] =n from rfl,hn] at this;cases this)]
      rw[e]
      (repeat' (first|(apply s_callFnW [] (f:=36) (avs:= [aS (wCREATE++32::wTABLE)]) (caps:= [.ptr 1 0]) (bxi:= [(1,rowB l)]);exact rfl;exact hG;exact rfl;exact k0;exact Subs.of_eq rfl;exact .cons rfl rfl (Subs.of_eq rfl) .nil;exact rfl;exact rfl;exact rfl;exact rfl)|(apply s_callFnW [] (f:=36) (avs:= [aS (wCREATE++32::wINDEX)]) (caps:= [.ptr 1 0]) (bxi:= [(1,rowB l)]);exact rfl;exact hG;exact rfl;exact k1;exact Subs.of_eq rfl;exact .cons rfl rfl (Subs.of_eq rfl) .nil;exact rfl;exact rfl;exact rfl;exact rfl)|(apply s_callFnW [] (f:=36) (avs:= [aS (wDROP++32::wTABLE)]) (caps:= [.ptr 1 0]) (bxi:= [(1,rowB l)]);exact rfl;exact hG;exact rfl;exact k2;exact Subs.of_eq rfl;exact .cons rfl rfl (Subs.of_eq rfl) .nil;exact rfl;exact rfl;exact rfl;exact rfl)|refine wk1 ?_|refine wk2 (fun hb hp=> ?_) (fun hb hp=> ?_)|fail))
      all_goals(apply L.ends;exact rfl;exact rfl;exact Sub.tup (.cons (Sub.agg anyS) (.cons (Sub.of_eq rfl) .nil));exact Wk.mk' (by intro id h;cases h) .nil .nil .nil)
 · have e:dcDro q=none:=by unfold dcDro;rw[if_neg (fun k=>h1 k.1)]
   have q1:(!(((q.map Str.c).length:Int)==1))=true:=by rw[beqF (by rw[em];omega)];rfl
   rw[e]
   (repeat' (first|(apply s_callFnW [] (f:=36) (avs:= [aS (wCREATE++32::wTABLE)]) (caps:= [.ptr 1 0]) (bxi:= [(1,rowB l)]);exact rfl;exact hG;exact rfl;exact k0;exact Subs.of_eq rfl;exact .cons rfl rfl (Subs.of_eq rfl) .nil;exact rfl;exact rfl;exact rfl;exact rfl)|(apply s_callFnW [] (f:=36) (avs:= [aS (wCREATE++32::wINDEX)]) (caps:= [.ptr 1 0]) (bxi:= [(1,rowB l)]);exact rfl;exact hG;exact rfl;exact k1;exact Subs.of_eq rfl;exact .cons rfl rfl (Subs.of_eq rfl) .nil;exact rfl;exact rfl;exact rfl;exact rfl)|(apply s_callFnW [] (f:=36) (avs:= [aS (wDROP++32::wTABLE)]) (caps:= [.ptr 1 0]) (bxi:= [(1,rowB l)]);exact rfl;exact hG;exact rfl;exact k2;exact Subs.of_eq rfl;exact .cons rfl rfl (Subs.of_eq rfl) .nil;exact rfl;exact rfl;exact rfl;exact rfl)|refine wk1 ?_|refine wk2 (fun hb hp=> ?_) (fun hb hp=> ?_)|fail))
   all_goals(apply L.ends;exact rfl;exact rfl;exact Sub.tup (.cons (Sub.agg anyS) (.cons (Sub.of_eq rfl) .nil));exact Wk.mk' (by intro id h;cases h) .nil .nil .nil)
end Go.Proofs.YtadjbegnlimepaaGreatDoor
