/- Several texts in one, each with its own sentence ahead of it. Conditions: each one says its own. -/
import Derived.Test.YthcjohcakdnmmaaGreatDoorZS4
set_option linter.all false
namespace Go.Abs
variable [Dr]
set_option linter.unusedSectionVars false
open Go.RowKit (Below)
set_option linter.unusedVariables false
mutual
def AV.mentIn(l:List Nat):AV→Bool
 | .any| .iv _| .nils| .emp| .el _=>true
 | .row i _=>l.contains i
 | .ptr i _=>l.contains i
 | .bsl i _ _ _=>l.contains i
 | .bsh i _ _ _=>l.contains i
 | .agg cs=>AV.mentsIn l cs
 | .tup cs=>AV.mentsIn l cs
 | .fn _ cs=>AV.mentsIn l cs
 | .opt _ v=>AV.mentIn l v
def AV.mentsIn(l:List Nat):List AV→Bool
 | [] =>true
 |c::cs=>AV.mentIn l c && AV.mentsIn l cs
end
mutual
theorem AV.mentIn_mem{l:List Nat}{id:Nat}: ∀(v:AV),AV.mentIn l v=true→AV.ment id v=true→id∈l
 | .any,_,h=>by simp[AV.ment] at h
 | .iv _,_,h=>by simp[AV.ment] at h
 | .nils,_,h=>by simp[AV.ment] at h
 | .emp,_,h=>by simp[AV.ment] at h
 | .el _,_,h=>by simp[AV.ment] at h
 | .row i _,h1,h=>by simp[AV.ment] at h;subst h;simpa[AV.mentIn] using h1
 | .ptr i _,h1,h=>by simp[AV.ment] at h;subst h;simpa[AV.mentIn] using h1
 | .bsl i _ _ _,h1,h=>by simp[AV.ment] at h;subst h;simpa[AV.mentIn] using h1
 | .bsh i _ _ _,h1,h=>by simp[AV.ment] at h;subst h;simpa[AV.mentIn] using h1
 | .agg cs,h1,h=>AV.mentsIn_mem cs (by simpa[AV.mentIn] using h1) (by simpa[AV.ment] using h)
 | .tup cs,h1,h=>AV.mentsIn_mem cs (by simpa[AV.mentIn] using h1) (by simpa[AV.ment] using h)
 | .fn _ cs,h1,h=>AV.mentsIn_mem cs (by simpa[AV.mentIn] using h1) (by simpa[AV.ment] using h)
 | .opt _ v,h1,h=>AV.mentIn_mem v (by simpa[AV.mentIn] using h1) (by simpa[AV.ment] using h)
theorem AV.mentsIn_mem{l:List Nat}{id:Nat}: ∀(cs:List AV),AV.mentsIn l cs=true→AV.ments id cs=true→id∈l
 | [],_,h=>by simp[AV.ments] at h
 |c::cs,h1,h=>by
  simp only[AV.mentsIn,Bool.and_eq_true] at h1
  simp only[AV.ments,Bool.or_eq_true] at h
  rcases h with h|h
  · exact AV.mentIn_mem c h1.1 h
  · exact AV.mentsIn_mem cs h1.2 h
end
def keys{β:Type}(l:List (Nat×β)):List Nat:=l.map (·.1)
theorem mem_keys{β:Type}: ∀{l:List (Nat×β)} {id:Nat},id∈keys l→ ∃b,l.lookup id=some b
 | [],id,h=>by simp[keys] at h
 |(t,u)::l,id,h=>by
  by_cases e:id=t
  · exact⟨u,by rw[e];exact lookup_cons_eq⟩
  · rw[lookup_cons_ne e]
    exact mem_keys (by simp only[keys,List.map_cons,List.mem_cons] at h⊢;exact h.resolve_left e)
theorem keys_mem{β:Type}{l:List (Nat×β)}{id:Nat}{b:β}(h:l.lookup id=some b):id∈keys l:=List.mem_map.2 ⟨_,lookup_mem h,rfl⟩
def CallA(P:Program)(f:FuncId)(args:List AV)(bx bx':List (Nat×Box))(tk':List (Nat×Tok))(res:AV):Prop:=
 ∀(E:Env) (w:World) (us:List Value),RelL E w args us→HInv ⟨0,w,E,keys bx⟩ E bx [] w→
  Calls P f us.toArray w fun e w'=> ∃(u:Value) (E':Env),e= .returned u∧RepA E' w' res u∧HInv ⟨0,w,E,keys bx⟩ E' bx' tk' w'
def Post(c:Ctx)(bx':List (Nat×Box))(tk':List (Nat×Tok))(res:AV)(e:Ending)(w':World):Prop:=
 ∃(u:Value) (E':Env),e= .returned u∧RepA E' w' res u∧HInv c E' bx' tk' w'
theorem HInv.join{c:Ctx}{E E':Env}{st:St}{w w':World}{bxi bxo:List (Nat×Box)}{tko:List (Nat×Tok)}(h:HInv c E st.bx st.tk w)(h':HInv ⟨0,w,E,keys bxi⟩ E' bxo tko w')
 {N:List Nat} (hN: ∀id∈N,st.fresh id=true) (hbi: ∀id∈keys bxi,∃b,st.bx.lookup id=some b∧b.cs≠ []) (hbo: ∀id∈keys bxo,id∈N∨id∈keys bxi) (hto: ∀id∈keys tko,id∈N)
 (hm: ∀(id:Nat) (b:Box),bxo.lookup id=some b→AV.mentsIn (N++keys bxi) b.cs=true):
 HInv c ⟨E'.φ,fun i=>if i∈N then E'.ρ i else E.ρ i,fun i=>if i∈N then E'.η i else E.η i⟩ (bxo++st.bx) (tko++st.tk) w'∧
  (∀(x:AV) (u:Value),AV.mentIn (N++keys bxi) x=true→RepA E' w' x u→RepA ⟨E'.φ,fun i=>if i∈N then E'.ρ i else E.ρ i,fun i=>if i∈N then E'.η i else E.η i⟩ w' x u)∧
  (∀(x:AV) (u:Value),(∀id∈N,AV.ment id x=false)→RepA E w x u→RepA ⟨E'.φ,fun i=>if i∈N then E'.ρ i else E.ρ i,fun i=>if i∈N then E'.η i else E.η i⟩ w' x u):=by
 have hbN: ∀(i:Nat) (b:Box),st.bx.lookup i=some b→i∉N:=fun i b hb hi=>(St.fresh_bx (hN i hi) hb).1 rfl
 have htN: ∀(i:Nat) (t:Tok),st.tk.lookup i=some t→i∉N:=fun i t ht hi=>St.fresh_tk (hN i hi) ht rfl
 have hMi: ∀g,Ctx.M ⟨0,w,E,keys bxi⟩ g→ ∃(id:Nat) (b:Box),id∈keys bxi∧st.bx.lookup id=some b∧b.cs≠ [] ∧E.ρ id=g:=fun g ⟨id,hid,e,_⟩=>by
  obtain⟨b,hb,hn⟩:=hbi id hid;exact⟨id,b,hid,hb,hn,e⟩
 have hφM: ∀g,Ctx.M ⟨0,w,E,keys bxi⟩ g→E.φ g=0:=fun g hg=>by
  obtain⟨id,b,_,hb,hn,rfl⟩:=hMi g hg;exact(h.box id b hb hn).1
 have hkp:Keeps E.φ w w':=fun b o ho=>by
  have hlt:b<w.heap.size:=by
   rcases Nat.lt_or_ge b w.heap.size with h1|h1
   · exact h1
   · rw[h.new b h1] at ho;cases ho
  have hnM: ¬Ctx.M ⟨0,w,E,keys bxi⟩ b:=fun hM=>by rw[hφM b hM] at ho;cases ho
  exact World.cell?_of_block (h'.kept.block b hlt hnM)
 have hle: ∀b,E.φ b≤E'.φ b:=fun b=>by
  rcases Nat.lt_or_ge b w.heap.size with h1|h1
  · rw[h'.old b h1];exact Nat.le_refl _
  · rw[h.new b h1];exact Nat.zero_le _
 have monoC: ∀(x:AV) (u:Value),(∀id∈N,AV.ment id x=false)→RepA E w x u→RepA ⟨E'.φ,fun i=>if i∈N then E'.ρ i else E.ρ i,fun i=>if i∈N then E'.η i else E.η i⟩ w' x u:=fun x u hx hr=>
  RepA.mono (h:=hr) (E':=⟨E'.φ,fun i=>if i∈N then E'.ρ i else E.ρ i,fun i=>if i∈N then E'.η i else E.η i⟩) hkp hle (fun id hid=>by
   have:id∉N:=fun hin=>by rw[hx id hin] at hid;cases hid
   simp[this])
 have monoN: ∀(x:AV) (u:Value),AV.mentIn (N++keys bxi) x=true→RepA E' w' x u→RepA ⟨E'.φ,fun i=>if i∈N then E'.ρ i else E.ρ i,fun i=>if i∈N then E'.η i else E.η i⟩ w' x u:=fun x u hx hr=>
  RepA.mono (E:=E') (w:=w') (h:=hr) (E':=⟨E'.φ,fun i=>if i∈N then E'.ρ i else E.ρ i,fun i=>if i∈N then E'.η i else E.η i⟩) (fun _ _ _=>rfl) (fun _=>Nat.le_refl _) (fun id hid=>by
   by_cases hin:id∈N
   · simp[hin]
   · have hmem:=AV.mentIn_mem x hx hid
     have hk:id∈keys bxi:=(List.mem_append.1 hmem).resolve_left hin
     obtain⟨e1,e2,_⟩:=h'.ins id hk
     simp[hin,e1,e2])
 have hρo: ∀(i:Nat) (b:Box),bxo.lookup i=some b→(if i∈N then E'.ρ i else E.ρ i)=E'.ρ i:=fun i b hb=>by
  by_cases hin:i∈N
  · simp[hin]
  · have hk:=(hbo i (keys_mem hb)).resolve_left hin
    simp[hin,(h'.ins i hk).1]
 have hηob: ∀(i:Nat) (b:Box),bxo.lookup i=some b→(if i∈N then E'.η i else E.η i)=E'.η i:=fun i b hb=>by
  by_cases hin:i∈N
  · simp[hin]
  · have hk:=(hbo i (keys_mem hb)).resolve_left hin
    simp[hin,(h'.ins i hk).2.1]
 have hηo: ∀(i:Nat) (t:Tok),tko.lookup i=some t→(if i∈N then E'.η i else E.η i)=E'.η i:=fun i t ht=>by simp[hto i (keys_mem ht)]
 have hρc: ∀(i:Nat) (b:Box),st.bx.lookup i=some b→(if i∈N then E'.ρ i else E.ρ i)=E.ρ i:=fun i b hb=>by simp[hbN i b hb]
 have hηc: ∀(i:Nat) (t:Tok),st.tk.lookup i=some t→(if i∈N then E'.η i else E.η i)=E.η i:=fun i t ht=>by simp[htN i t ht]
 have splitB: ∀(i:Nat) (b:Box),(bxo++st.bx).lookup i=some b→bxo.lookup i=some b∨(bxo.lookup i=none∧st.bx.lookup i=some b):=fun i b hb=>by
  rw[List.lookup_append] at hb
  cases hq:bxo.lookup i with
  |none=>rw[hq] at hb;exact .inr ⟨rfl,by simpa using hb⟩
  |some b'=>rw[hq] at hb;exact .inl (by simpa using hb)
 have splitT: ∀(i:Nat) (t:Tok),(tko++st.tk).lookup i=some t→tko.lookup i=some t∨st.tk.lookup i=some t:=fun i t ht=>by
  rw[List.lookup_append] at ht
  cases hq:tko.lookup i with
  |none=>rw[hq] at ht;exact .inr (by simpa using ht)
  |some b'=>rw[hq] at ht;exact .inl (by simpa using ht)
 have notPassed: ∀(i:Nat),bxo.lookup i=none→i∉keys bxi:=fun i hn hk=>by
  have:=(h'.ins i hk).2.2;rw[hn] at this;cases this
 have blkB: ∀(i:Nat) (b:Box),bxo.lookup i=none→st.bx.lookup i=some b→b.cs≠ [] →E.ρ i<w.heap.size∧ ¬Ctx.M ⟨0,w,E,keys bxi⟩ (E.ρ i):=fun i b hn hb hc=>
  ⟨box_lt (h.box i b hb hc),fun hM=>by
    obtain⟨id,b',hid,hb',hc',e⟩:=hMi _ hM
    exact notPassed i hn (h.bb id i b' b hb' hb hc' hc e▸hid)⟩
 have blkT: ∀(i:Nat) (t:Tok) (g:Nat),st.tk.lookup i=some t→(E.η i).ownBlock=some g→g<w.heap.size∧ ¬Ctx.M ⟨0,w,E,keys bxi⟩ g:=fun i t g ht hg=>
  ⟨ownBlock_lt (h.tok i t ht) hg,fun hM=>by
    obtain⟨id,b',hid,hb',hc',e⟩:=hMi _ hM
    exact h.bt id i b' t hb' hc' ht (by rw[hg,e])⟩
 have blkO: ∀(i:Nat) (b:Box),bxo.lookup i=some b→b.cs≠ [] →w.heap.size≤E'.ρ i∨Ctx.M ⟨0,w,E,keys bxi⟩ (E'.ρ i):=fun i b hb hc=>h'.own i b hb hc
 have blkOT: ∀(i:Nat) (t:Tok) (g:Nat),tko.lookup i=some t→(E'.η i).ownBlock=some g→w.heap.size≤g:=fun i t g ht hg=>h'.ownt i t g ht hg
 refine⟨⟨fun i b hb hc=> ?_,fun i t ht=> ?_,fun i j b b' hi hj hc hc' he=> ?_,fun i j t t' g hi hj h1 h2=> ?_,fun i j b t hb hc ht hg=> ?_,fun i b hb hc=> ?_,fun j t g ht hg=> ?_,h'.new,fun b hb=> ?_,fun i hin=> ?_,?_⟩,monoN,monoC⟩
 · rcases splitB i b hb with hb|⟨hn,hb⟩
   · obtain⟨h0,arr,ha,hl,h1,hr,hq⟩:=h'.box i b hb hc
     refine⟨by simp only;rw[hρo i b hb];exact h0,arr,by simp only;rw[hρo i b hb];exact ha,hl,h1,fun k x u hx hu=>monoN x u ?_ (hr k x u hx hu),fun k cap he=>hq k cap (by simpa only[hηob i b hb] using he)⟩
     have hall:=hm i b hb
     clear ha hl h1 hr h0 hq
     have: ∀(cs:List AV) (k:Nat),AV.mentsIn (N++keys bxi) cs=true→cs[k]?=some x→AV.mentIn (N++keys bxi) x=true:=by
      intro cs
      induction cs with
      |nil=>intro k _ h;simp at h
      |cons y ys ih=>
       intro k hall hk
       simp only[AV.mentsIn,Bool.and_eq_true] at hall
       cases k with
       |zero=>simp at hk;subst hk;exact hall.1
       |succ k=>exact ih k hall.2 (by simpa using hk)
     exact this b.cs k hall hx
   · obtain⟨hlt,hnM⟩:=blkB i b hn hb hc
     obtain⟨h0,arr,ha,hl,h1,hr,hq⟩:=h.box i b hb hc
     refine⟨by simp only;rw[hρc i b hb,h'.old _ hlt];exact h0,arr,by simp only;rw[hρc i b hb,h'.kept.block _ hlt hnM];exact ha,hl,h1,fun k x u hx hu=>monoC x u (fun id hid=>AV.ments_false (St.fresh_bx (hN id hid) hb).2 k x hx) (hr k x u hx hu),fun k cap he=>hq k cap (by simpa only[if_neg (hbN i b hb)] using he)⟩
 · rcases splitT i t ht with ht|ht
   · rcases h'.tok i t ht with hn|⟨g,n,cap,cur,hv,rest⟩
     · exact .inl (by simp only;rw[hηo i t ht];exact hn)
     · exact .inr ⟨g,n,cap,cur,by simp only;rw[hηo i t ht];exact hv,rest⟩
   · rcases h.tok i t ht with hn|⟨g,n,cap,cur,hv,hg,r1,r2,r3,r4⟩
     · exact .inl (by simp only;rw[hηc i t ht];exact hn)
     · obtain⟨hlt,hnM⟩:=blkT i t g ht (by rw[hv];rfl)
       exact .inr ⟨g,n,cap,cur,by simp only;rw[hηc i t ht];exact hv,by rw[h'.kept.block _ hlt hnM];exact hg,r1,r2,r3,by rw[h'.old _ hlt];exact r4⟩
 · simp only at he
   rcases splitB i b hi with hi|⟨hn,hi⟩
   · rw[hρo i b hi] at he
     rcases splitB j b' hj with hj|⟨hn',hj⟩
     · rw[hρo j b' hj] at he;exact h'.bb i j b b' hi hj hc hc' he
     · rw[hρc j b' hj] at he
       obtain⟨hlt,hnM⟩:=blkB j b' hn' hj hc'
       rcases blkO i b hi hc with h1|h1
       · omega
       · rw[he] at h1;exact(hnM h1).elim
   · rw[hρc i b hi] at he
     obtain⟨hlt,hnM⟩:=blkB i b hn hi hc
     rcases splitB j b' hj with hj|⟨hn',hj⟩
     · rw[hρo j b' hj] at he
       rcases blkO j b' hj hc' with h1|h1
       · omega
       · rw[←he] at h1;exact(hnM h1).elim
     · rw[hρc j b' hj] at he;exact h.bb i j b b' hi hj hc hc' he
 · simp only at h1 h2
   rcases splitT i t hi with hi|hi
   · rw[hηo i t hi] at h1
     rcases splitT j t' hj with hj|hj
     · rw[hηo j t' hj] at h2;exact h'.tt i j t t' g hi hj h1 h2
     · rw[hηc j t' hj] at h2
       have:=blkOT i t g hi h1
       have:=(blkT j t' g hj h2).1
       omega
   · rw[hηc i t hi] at h1
     rcases splitT j t' hj with hj|hj
     · rw[hηo j t' hj] at h2
       have:=blkOT j t' g hj h2
       have:=(blkT i t g hi h1).1
       omega
     · rw[hηc j t' hj] at h2;exact h.tt i j t t' g hi hj h1 h2
 · simp only at hg
   rcases splitB i b hb with hb|⟨hn,hb⟩
   · rw[hρo i b hb] at hg
     rcases splitT j t ht with ht|ht
     · rw[hηo j t ht] at hg;exact h'.bt i j b t hb hc ht hg
     · rw[hηc j t ht] at hg
       obtain⟨hlt,hnM⟩:=blkT j t _ ht hg
       rcases blkO i b hb hc with h1|h1
       · omega
       · exact hnM h1
   · rw[hρc i b hb] at hg
     rcases splitT j t ht with ht|ht
     · rw[hηo j t ht] at hg
       have:=blkOT j t _ ht hg
       have:=(blkB i b hn hb hc).1
       omega
     · rw[hηc j t ht] at hg;exact h.bt i j b t hb hc ht hg
 · simp only
   rcases splitB i b hb with hb|⟨hn,hb⟩
   · rw[hρo i b hb]
     rcases blkO i b hb hc with h1|h1
     · exact .inl (Nat.le_trans h.kept.size h1)
     · obtain⟨id,b',hid,hb',hc',e⟩:=hMi _ h1
       rw[←e];exact h.own id b' hb' hc'
   · rw[hρc i b hb];exact h.own i b hb hc
 · simp only at hg
   rcases splitT j t ht with ht|ht
   · rw[hηo j t ht] at hg;exact Nat.le_trans h.kept.size (blkOT j t g ht hg)
   · rw[hηc j t ht] at hg;exact h.ownt j t g ht hg
 · simp only
   rw[h'.old b (Nat.lt_of_lt_of_le hb h.kept.size)];exact h.old b hb
 · obtain⟨e1,e2,e3⟩:=h.ins i hin
   obtain⟨b,hb⟩:=Option.isSome_iff_exists.1 e3
   have:=hbN i b hb
   refine⟨by simp[this,e1],by simp[this,e2],?_⟩
   rw[List.lookup_append]
   cases bxo.lookup i with
   |none=>simpa using e3
   |some _=>rfl
 · refine h.kept.next h'.kept.os h'.kept.tape h'.kept.output h'.kept.size (fun k hk hm'=>h'.kept.block k (Nat.lt_of_lt_of_le hk h.kept.size) (fun hM=> ?_)) h'.kept.drawn
   obtain⟨id,b',hid,hb',hc',e⟩:=hMi _ hM
   rcases h.own id b' hb' hc' with h1|h1
   · omega
   · rw[e] at h1;exact hm' h1
end Go.Abs
namespace Go.Abs
variable [Dr]
set_option linter.unusedSectionVars false
open Go.RowKit (Below)
set_option linter.unusedVariables false
def callOk(P:Program)(f:FuncId):Bool:=
 match P.funcs[f]? with
 |some fn=>fn.body.isSome && !(fn.name== "runtime.NumGoroutine")
 |none=>false
theorem run_callOk{P:Program}{f:FuncId}(h:callOk P f=true)(args:Array Value)(w:World):(callFunc f args).run P w= .ok (.enter f args) w:=by
 unfold callOk at h
 split at h
 · rename_i fn hf
   simp only[Bool.and_eq_true,Bool.not_eq_true',beq_eq_false_iff_ne] at h
   obtain⟨h1,h2⟩:=h
   have h3: ¬fn.body=none:=fun e=>by rw[e] at h1;cases h1
   simp[callFunc,hf,h2,h3]
 · cases h
theorem Subs.of_pub{l l':List AV}(h:AV.pub.pubs l=l'):Subs l l':=h▸Subs.pubs l
theorem RelL.sub{E:Env}{w:World}{l l':List AV}{us:List Value}(h:RelL E w l us)(hs:Subs l l'):RelL E w l' us:=
 ⟨by rw[h.1,hs.1],fun i c u hc hu=>by
   have hi:i<l.length:=by
    have:=(List.getElem?_eq_some_iff.1 hc).1
    rw[hs.1] at this;exact this
   exact hs.2 i _ _ (List.getElem?_eq_getElem hi) hc E w u (h.2 i _ u (List.getElem?_eq_getElem hi) hu)⟩
def boOk(N:List Nat)(bxi bxo:List (Nat×Box)):Bool:=bxi.all (fun p=> !p.2.cs.isEmpty) && (keys bxo).all (fun id=>N.contains id||(keys bxi).contains id)
theorem boOk_keys{N:List Nat}{bxi bxo:List (Nat×Box)}(h:boOk N bxi bxo=true){id:Nat}(hid:id∈keys bxo):id∈N∨id∈keys bxi:=by
 simp only[boOk,Bool.and_eq_true] at h
 have:=List.all_eq_true.1 h.2 id hid;simpa using this
theorem boOk_live{N:List Nat}{bxi bxo:List (Nat×Box)}(h:boOk N bxi bxo=true){id:Nat}{b:Box}(hb:bxi.lookup id=some b):b.cs≠ []:=by
 simp only[boOk,Bool.and_eq_true] at h
 have:=List.all_eq_true.1 h.1 _ (lookup_mem hb)
 intro e;simp[e] at this
section
variable {P:Program}{c:Ctx}{st:St}{ops:Array Oper}{Q:Exit→Act→World→Prop}{rest:List Oper}{o:Oper}
theorem Inv.evs{E:Env}{a:Act}{w:World}(hi:Inv c E st a w)(args:Array Operand):RelL E w (args.toList.map st.ev) (args.toList.map a.eval):=
 ⟨by simp,fun i x u hx hu=>by
   simp only[List.getElem?_map] at hx hu
   cases hq:args.toList[i]? with
   |none=>rw[hq] at hx;simp at hx
   |some y=>rw[hq] at hx hu;simp at hx hu;subst hx;subst hu;exact hi.ev y⟩
theorem HInv.hand{E:Env}{w:World}(h:HInv c E st.bx st.tk w){bxi:List (Nat×Box)}(hb:WkB st.bx bxi):HInv ⟨0,w,E,keys bxi⟩ E bxi [] w where
 box id b hl hn:=by obtain⟨b0,h0,ht,hs⟩:=hb.get id b hl;exact(h.box id b0 h0 (hs.ne hn)).sub ht hs
 tok id t hl:=by simp at hl
 bb i j b b' hi hj hn hn' he:=by
  obtain⟨b0,h0,_,hs⟩:=hb.get i b hi
  obtain⟨b1,h1,_,hs'⟩:=hb.get j b' hj
  exact h.bb i j b0 b1 h0 h1 (hs.ne hn) (hs'.ne hn') he
 tt i j t t' g hi:=by simp at hi
 bt i j b t hi hn hj:=by simp at hj
 own i b hi hn:=by
  obtain⟨b0,h0,_,hs⟩:=hb.get i b hi
  exact .inr ⟨i,keys_mem hi,rfl,(h.box i b0 h0 (hs.ne hn)).1⟩
 ownt j t g hj:=by simp at hj
 new:=h.new
 old b _:=rfl
 ins id hid:=⟨rfl,rfl,by obtain⟨b,hb'⟩:=mem_keys hid;rw[hb'];rfl⟩
 kept:= .refl _ _
theorem L.callN(N:List Nat){f:FuncId}{args:Array Operand}{ats:Array TypeId}{zas:List AV}{bxi bxo:List (Nat×Box)}{tko:List (Nat×Tok)}{res:AV}{d:Nat}(hg:o.guard=none)(hd:o.dst=some d)(hlt:Nat.ble (d+1) c.nt=true)
 (ho:o.op= .call {callee:= .value (.func f),args:=args,argTypes:=ats}) (hok:callOk P f=true) (hc:CallA P f zas bxi bxo tko res) (ha:Subs (args.toList.map st.ev) zas) (hbi:WkB st.bx bxi)
 (hN:N.all (fun id=>st.fresh id)=true) (hbo:boOk N bxi bxo=true) (hto:(keys tko).all (fun id=>N.contains id)=true)
 (hmb:bxo.all (fun p=>AV.mentsIn (N++keys bxi) p.2.cs)=true) (hmr:AV.mentIn (N++keys bxi) res=true)
 (h:L c ⟨(d,res)::st.fr,bxo++st.bx,tko++st.tk⟩ (wpList P ops Q rest)):L c st (wpList P ops Q (o::rest)):=by
 rintro a w ⟨E,hi⟩
 refine wpList_plain hg (fun K hK=> ?_)
 have hrun:(execOp a.eval o).run P w= .ok (.enter f (args.map a.eval)) w:=by
  simp[execOp,ho,resolve,Deferred.ofValue,Act.eval,invoke,run_callOk hok]
 unfold Oper.wp
 rw[hrun,Oper.upon_enter]
 have hcall:=hc E w (args.toList.map a.eval) ((hi.evs args).sub ha) (hi.heap.hand hbi)
 have hargs:(args.toList.map a.eval).toArray=args.map a.eval:=by apply Array.ext';simp
 rw[hargs] at hcall
 refine hcall.mono fun e w' ⟨u,E',he,hu,hh⟩=> ?_
 subst he
 obtain⟨hj,monoN,monoC⟩:=hi.heap.join hh (N:=N) (fun id hid=>List.all_eq_true.1 hN id hid) (fun id hid=>by
  obtain⟨b,hb⟩:=mem_keys hid
  obtain⟨b0,h0,_,hs⟩:=hbi.get id b hb
  exact⟨b0,h0,hs.ne (boOk_live hbo hb)⟩)
  (fun id hid=>boOk_keys hbo hid) (fun id hid=>by have:=List.all_eq_true.1 hto id hid;simpa using this)
  (fun id b hb=>List.all_eq_true.1 hmb _ (lookup_mem hb))
 refine hK _ _ ?_
 rw[hd]
 refine h _ _ ⟨_,Inv.put (st:=⟨st.fr,bxo++st.bx,tko++st.tk⟩) ⟨hi.defers,hi.size,fun s v hv=>monoC v _ (fun id hid=>St.fresh_fr (List.all_eq_true.1 hN id hid) hv) (hi.slot s v hv),hj⟩ (Nat.le_of_ble_eq_true hlt) (monoN res u hmr hu)⟩
theorem L.call0{f:FuncId}{args:Array Operand}{ats:Array TypeId}{zas:List AV}{res:AV}{d:Nat}(hg:o.guard=none)(hd:o.dst=some d)(hlt:Nat.ble (d+1) c.nt=true)
 (ho:o.op= .call {callee:= .value (.func f),args:=args,argTypes:=ats}) (hok:callOk P f=true) (hc:CallA P f zas [] [] [] res) (ha:Subs (args.toList.map st.ev) zas)
 (hmr:AV.mentIn [] res=true) (h:L c ⟨(d,res)::st.fr,st.bx,st.tk⟩ (wpList P ops Q rest)):L c st (wpList P ops Q (o::rest)):=
 L.callN [] hg hd hlt ho hok hc ha .nil rfl rfl rfl rfl hmr h
theorem L.seq{x y:Code}(h: ∀K:Act→World→Prop,(∀st',L c st' (y.wp P Q)→L c st' K)→L c st (x.wp P (Exit.then K Q))):L c st ((Code.seq x y).wp P Q):=
 fun a w hr=>wp_seq (h (y.wp P Q) (fun _ k=>k) a w hr)
theorem L.region{id:Nat}{l:List Oper}(h:L c st (wpList P l.toArray Q l)):L c st ((Code.region id l.toArray false).wp P Q):=fun a w hr=>wp_region_lit (h a w hr)
theorem L.skip(h:L c st (Q .normal)):L c st (Code.skip.wp P Q):=fun a w hr=>wp_skip (h a w hr)
theorem L.exit{id:Nat}(h:L c st (Q (.exit id))):L c st ((Code.exit id).wp P Q):=fun a w hr=>wp_exit (h a w hr)
theorem L.ret(h:L c st (Q .ret)):L c st (Code.ret.wp P Q):=fun a w hr=>wp_ret (h a w hr)
theorem L.block{id:Nat}{x:Code}(h:L c st (x.wp P (Exit.inBlock id Q))):L c st ((Code.block id x).wp P Q):=fun a w hr=>wp_block (h a w hr)
theorem L.cond{x:Operand}{t:Bool}{y z:Code}(hx:st.ev x=aB t)(ht:t=true→L c st (y.wp P Q))(hf:t=false→L c st (z.wp P Q)):L c st ((Code.cond x y z).wp P Q):=fun a w hr=>by
 obtain⟨E,hi⟩:=hr
 exact wp_cond_split (hi.im hx) (fun e=>ht e a w ⟨E,hi⟩) (fun e=>hf e a w ⟨E,hi⟩)
theorem L.condT{x:Operand}{y z:Code}(hx:st.ev x=aB true)(h:L c st (y.wp P Q)):L c st ((Code.cond x y z).wp P Q):=L.cond hx (fun _=>h) (fun e=>by cases e)
theorem L.condF{x:Operand}{y z:Code}(hx:st.ev x=aB false)(h:L c st (z.wp P Q)):L c st ((Code.cond x y z).wp P Q):=L.cond hx (fun e=>by cases e) (fun _=>h)
theorem L.thenN{K:Act→World→Prop}(h:L c st K):L c st (Exit.then K Q .normal):=h
theorem L.thenE{K:Act→World→Prop}{id:Nat}(h:L c st (Q (.exit id))):L c st (Exit.then K Q (.exit id)):=h
theorem L.thenR{K:Act→World→Prop}(h:L c st (Q .ret)):L c st (Exit.then K Q .ret):=h
theorem L.inN{id:Nat}(h:L c st (Q .normal)):L c st (Exit.inBlock id Q .normal):=h
theorem L.inR{id:Nat}(h:L c st (Q .ret)):L c st (Exit.inBlock id Q .ret):=h
theorem L.inE{id:Nat}(h:L c st (Q .normal)):L c st (Exit.inBlock id Q (.exit id)):=fun a w hr=>by simp only[Exit.inBlock,if_true];exact h a w hr
theorem L.inO{id id':Nat}(hne:(id'==id)=false)(h:L c st (Q (.exit id'))):L c st (Exit.inBlock id Q (.exit id')):=fun a w hr=>by
 have:id'≠id:=by simpa using hne
 simp only[Exit.inBlock,if_neg this];exact h a w hr
theorem L.loop{ι:Type}(inv:ι→St)(n:ι→Nat){i0:ι}(h0:Wk c st (inv i0)){x:Code}
 (h: ∀i,∀K:Act→World→Prop,(∀st' i',n i'<n i→Wk c st' (inv i')→L c st' K)→L c (inv i) (x.wp P (Exit.then K Q))):L c st ((Code.loop x).wp P Q):=by
 have key: ∀(m:Nat) (i:ι),n i=m→ ∀a w,R c (inv i) a w→ ∀(b:Frame) (k:List Item) (cs:List Frame),
  ∃e a' w',Q e a' w'∧Arrives P (lone (b.at a (.code x:: .inLoop x::k)) cs w) b k cs e a' w':=by
  intro m
  induction m using Nat.strongRecOn with
  |_ m ih=>
   intro i hn a w hr b k cs
   obtain⟨e,a₁,w₁,hq,harr⟩:=h i (fun a' w'=> ∃i',n i'<n i∧R c (inv i') a' w') (fun st' i' hlt hw a' w' hr'=>⟨i',hlt,hr'.wk hw⟩) a w hr b (.inLoop x::k) cs
   cases e with
   |normal=>
    obtain⟨i',hlt,hr'⟩:=hq
    obtain⟨e₂,a₂,w₂,hq₂,harr₂⟩:=ih (n i') (hn▸hlt) i' rfl a₁ w₁ hr' b k cs
    exact⟨e₂,a₂,w₂,hq₂,.of_steps (Steps.trans harr (.one step_inLoop)) harr₂⟩
   |exit id=>exact⟨_,a₁,w₁,hq,.pass (x:= .inLoop x) rfl (fun _ _=> .inl (by simp)) harr⟩
   |goto l=>exact⟨_,a₁,w₁,hq,.pass (x:= .inLoop x) rfl (fun _ _=> .inl (by simp)) harr⟩
   |ret=>exact⟨_,a₁,w₁,hq,.pass (x:= .inLoop x) rfl (fun _ _=> .inl (by simp)) harr⟩
   |panic ch=>exact⟨_,a₁,w₁,hq,.pass (x:= .inLoop x) rfl (fun _ _=> .inl (by simp)) harr⟩
   |outgrown=>exact⟨_,a₁,w₁,hq,.pass (x:= .inLoop x) rfl (fun _ _=> .inl (by simp)) harr⟩
 intro a w hr b k cs
 obtain⟨e,a',w',hq,harr⟩:=key _ i0 rfl a w (hr.wk h0) b k cs
 exact⟨e,a',w',hq,.of_steps (.one step_loop) harr⟩
def enter:Nat→List AV→List (Nat×AV)
 |_,[] => []
 |n,v::vs=>(n,v)::enter (n+1) vs
theorem enter_get: ∀(vs:List AV) (n s:Nat) (v:AV),(enter n vs).lookup s=some v→n≤s∧vs[s - n]?=some v
 | [],n,s,v,h=>by simp[enter] at h
 |x::vs,n,s,v,h=>by
  by_cases e:s=n
  · subst e;simp only[enter,lookup_cons_eq] at h;cases h;simp
  · simp only[enter] at h
    rw[lookup_cons_ne e] at h
    obtain⟨h1,h2⟩:=enter_get vs (n+1) s v h
    refine⟨by omega,?_⟩
    rw[show s - n=(s - (n+1))+1 by omega]
    simpa using h2
theorem CallA.intro{f:FuncId}{fn:Func}{code:Code}{args:List AV}{bx bx':List (Nat×Box)}{tk':List (Nat×Tok)}{res:AV}(nt:Nat)(hf:P.funcs[f]?=some fn)(hb:fn.body=some code)(hnt:fn.ntmps=nt)(hn:Nat.ble args.length nt=true)
 (h: ∀(w0:World) (E0:Env),L ⟨nt,w0,E0,keys bx⟩ ⟨enter 0 args,bx,[]⟩ (code.wp P (bodyPost P fn (Post ⟨nt,w0,E0,keys bx⟩ bx' tk' res)))):CallA P f args bx bx' tk' res:=by
 subst hnt
 have hn:=Nat.le_of_ble_eq_true hn
 intro E w us hrel hh
 have hl:=hrel.1
 refine calls_of_wp (R:=Post ⟨fn.ntmps,w,E,keys bx⟩ bx' tk' res) hf hb (h w E _ _ ⟨E,rfl,?_,fun s v hv=> ?_,?_⟩)|>.mono ?_
 · simp;omega
 · obtain⟨_,hv'⟩:=enter_get args 0 s v hv
   rw[Nat.sub_zero] at hv'
   have hlt:s<us.length:=by rw[hl];exact(List.getElem?_eq_some_iff.1 hv').1
   have:(us.toArray++Array.replicate (fn.ntmps - us.toArray.size) undef).getD s undef=us[s]:=by
    simp[Array.getElem?_append,hlt]
   rw[this]
   exact hrel.2 s v _ hv' (List.getElem?_eq_getElem hlt)
 · exact⟨hh.box,hh.tok,hh.bb,hh.tt,hh.bt,hh.own,hh.ownt,hh.new,hh.old,hh.ins,hh.kept⟩
 · rintro e w' ⟨u,E',he,hu,hh'⟩
   exact⟨u,E',he,hu,⟨hh'.box,hh'.tok,hh'.bb,hh'.tt,hh'.bt,hh'.own,hh'.ownt,hh'.new,hh'.old,hh'.ins,hh'.kept⟩⟩
def St.resv(P:Program)(st:St):ResultVar→Option AV
 | .tmp t=>some (st.ev (.tmp t))
 | .cell p ty=>match st.ev (.tmp p) with
   | .ptr id 0=>match st.bx.lookup id,P.info? ty,P.underlying ty with
     |some b,some i,some (.struct _)=>if i.size≤b.cs.length then some (.agg (b.cs.take i.size)) else none
     |_,_,_=>none
   |_=>none
theorem Inv.resv{E:Env}{a:Act}{w:World}(hi:Inv c E st a w){r:ResultVar}{v:AV}(hv:st.resv P r=some v):
 ∃u,((match r with| .tmp t=>pure (a.tmps.getD t undef)| .cell p t=>do loadVar t (←asAddr (a.tmps.getD p undef)):Sem Value).run P w)= .ok u w∧RepA E w v u:=by
 cases r with
 |tmp t=>
  simp only[St.resv,Option.some.injEq] at hv
  subst hv
  exact⟨_,rfl,hi.ev (.tmp t)⟩
 |cell p ty=>
  simp only[St.resv] at hv
  split at hv
  · rename_i id hp
    have hq:a.tmps.getD p undef= .pointer (some ⟨E.ρ id,0,none⟩):=hi.ptr hp
    split at hv
    · rename_i b i fs hb hin hu
      split at hv
      · rename_i hle
        simp only[Option.some.injEq] at hv
        subst hv
        obtain⟨arr,_,_,hr,h1,_,hc⟩:=hi.boxCell hb
        have hr':=hr.take i.size
        have hl:(arr.take i.size).length=i.size:=by rw[List.length_take,hr.1];omega
        have hrun:(loadCells ⟨E.ρ id,0,none⟩ (arr.take i.size).length).run P w= .ok (arr.take i.size).toArray w:=
         run_loadCells_list w _ _ (fun j v hv=>by
          rw[List.getElem?_take] at hv
          split at hv
          · rw[Addr.add_none,Nat.zero_add,hc _ (List.getElem?_eq_some_iff.1 hv).1];exact hv
          · cases hv)
        rw[hl] at hrun
        refine⟨_,?_,hr'.agg (fun u hu=>h1 u (List.mem_of_mem_take hu))⟩
        simp only[hq]
        simp[asAddr,loadVar,isAgg,run_underlying hu,sizeOf,typeInfo,hin,hrun]
      · cases hv
    · cases hv
  · cases hv
def St.ress(P:Program)(st:St):List ResultVar→Option (List AV)
 | [] =>some []
 |r::rs=>match st.resv P r,st.ress P rs with
  |some v,some vs=>some (v::vs)
  |_,_=>none
theorem Inv.ress{E:Env}{a:Act}{w:World}(hi:Inv c E st a w): ∀{rs:List ResultVar} {vs:List AV},st.ress P rs=some vs→
 ∃us:List Value,(rs.mapM (fun r=>(match r with| .tmp t=>pure (a.tmps.getD t undef)| .cell p t=>do loadVar t (←asAddr (a.tmps.getD p undef)):Sem Value))).run P w= .ok us w∧RelL E w vs us
 | [],vs,h=>by simp[St.ress] at h;subst h;exact⟨[],rfl,RelL.nil _ _⟩
 |r::rs,vs,h=>by
  simp only[St.ress] at h
  split at h
  · rename_i v vs' hv hvs
    cases h
    obtain⟨u,hu,hr⟩:=hi.resv (P:=P) hv
    obtain⟨us,hus,hrs⟩:=hi.ress hvs
    refine⟨u::us,?_,⟨by simp[hrs.1],fun i c' u' hc hu'=> ?_⟩⟩
    · rw[List.mapM_cons,Sem.run_bind,hu,Result.andThen_ok,Sem.run_bind,hus];rfl
    · cases i with
      |zero=>simp at hc hu';subst hc;subst hu';exact hr
      |succ i=>exact hrs.2 i c' u' (by simpa using hc) (by simpa using hu')
  · cases h
def resOf:List AV→AV
 | [v] =>v
 |vs=> .tup vs
theorem L.ends{fn:Func}{bx':List (Nat×Box)}{tk':List (Nat×Tok)}{res:AV}{rs:List ResultVar}{vs:List AV}(hfn:fn.results=rs.toArray)(hv:st.ress P rs=some vs)(hs:Sub (resOf vs) res)(hw:Wk c st ⟨[],bx',tk'⟩):
 L c st (bodyPost P fn (Post c bx' tk' res) .ret):=by
 rintro a w ⟨E,hi⟩
 obtain⟨us,hus,hr⟩:=hi.ress hv
 refine⟨hi.defers,if h:us.length=1 then us[0] else .tuple us.toArray,?_,_,E,rfl,hs E w _ ?_,hi.heap.wk hw⟩
 · have hmap:(rs.toArray.mapM (fun r=>(match r with| .tmp t=>pure (a.tmps.getD t undef)| .cell p t=>do loadVar t (←asAddr (a.tmps.getD p undef)):Sem Value))).run P w= .ok us.toArray w:=by
    rw[Array.mapM_eq_mapM_toList,Sem.run_map]
    simp only[hus];rfl
   unfold results
   rw[hfn,Sem.run_bind]
   erw [hmap]
   simp
 · match vs,us,hr with
   | [v],[u],hr=>exact hr.2 0 v u rfl rfl
   | [],[],hr=>exact .tup rfl (fun i c u h=>by simp at h)
   |v::v'::vs,u::u'::us,hr=>exact .tup hr.1 hr.2
   | [],u::us,hr=>have:=hr.1;simp at this
   | [v],[],hr=>have:=hr.1;simp at this
   | [v],u::u'::us,hr=>have:=hr.1;simp at this
   |v::v'::vs,[],hr=>have:=hr.1;simp at this
   |v::v'::vs,[u],hr=>have:=hr.1;simp at this
theorem L.endsN{fn:Func}{bx':List (Nat×Box)}{tk':List (Nat×Tok)}{res:AV}{rs:List ResultVar}{vs:List AV}(hfn:fn.results=rs.toArray)(hv:st.ress P rs=some vs)(hs:Sub (resOf vs) res)(hw:Wk c st ⟨[],bx',tk'⟩):
 L c st (bodyPost P fn (Post c bx' tk' res) .normal):=fun a w hr=>L.ends hfn hv hs hw a w hr
end
end Go.Abs
