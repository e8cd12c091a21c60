/- Several texts in one, each with its own sentence ahead of it. Conditions: each one says its own. -/
import Derived.Test.YthcjohcakdnmmaaGreatDoorZS24
import Derived.Test.YthcjohcakdnmmaaGreatDoorZS26
import Derived.Test.YthcjohcakdnmmaaGreatDoorZS29
import Derived.Test.YthcjohcakdnmmaaGreatDoorZS36
import Derived.Test.YthcjohcakdnmmaaGreatDoorZS38
import Derived.Test.YthcjohcakdnmmaaGreatDoorZS40
set_option linter.all false
namespace Go.Proofs.YthcjohcakdnmmaaGreatDoor
open Go.Abs
set_option linter.unusedVariables false
set_option linter.unusedSimpArgs false
theorem tblE_at{op k:Int}(h:lookM tblE op=some k):(1≤op∧op≤10)∧(op=2→k=0)∧k≤2:=by
 unfold lookM at h
 cases hf:tblE.find? (fun p=>op==p.1) with
 |none=>rw[hf] at h;cases h
 |some p=>
  rw[hf] at h
  have h1:=List.mem_of_find?_eq_some hf
  have h2:op=p.1:=by simpa using List.find?_some hf
  have h3:p.2=k:=by simpa using h
  subst h2;subst h3
  unfold tblE at h1
  simp only[List.mem_cons,List.not_mem_nil,or_false] at h1
  rcases h1 with rfl|rfl|rfl|rfl|rfl|rfl|rfl|rfl|rfl|rfl<;>exact⟨⟨by decide,by decide⟩,by decide,by decide⟩
theorem goodEx_bs: ∀(e:Ex) (d:Int),goodExM d e=true→e.BS
 | .mk op v s name n l,d,h=>by
   rw[goodExM_eq] at h
   cases hl:lookM tblE op with
   |none=>rw[hl] at h;cases h
   |some k=>
    rw[hl] at h
    obtain⟨h10,h2,hk⟩:=tblE_at hl
    simp only[Bool.and_eq_true,Bool.not_eq_true',Bool.or_eq_false_iff,bne_eq_false_iff_eq] at h
    obtain⟨⟨hlen,_⟩,hbad,hall⟩:=h
    refine .mk h10 (fun e=> ?_) (fun e=> ?_) (by omega) (fun x hx=> ?_)
    · have:=h2 e
      exact List.length_eq_zero_iff.1 (by omega)
    · subst e
      unfold bad2M at hbad
      simp only[Bool.or_eq_false_iff,Bool.and_eq_false_iff,beq_self_eq_true,Bool.not_eq_false',Bool.true_eq_false,false_or] at hbad
      have hg:=hbad.1
      unfold goodM at hg
      split at hg
      · omega
      split at hg
      · omega
      split at hg
      · omega
      · cases hg
    · have:=List.any_eq_false.1 hall x hx
      exact goodEx_bs x (d+1) (by simpa using this)
 termination_by e=>SizeOf.sizeOf e
 decreasing_by
  have:=List.sizeOf_lt_of_mem hx
  simp;omega
theorem form_bs{c:Cat}{s:Stm}(h:formM c s=true): ∀e∈exprsM s,e.BS:=fun e he=>by
 unfold formM at h
 simp only[Bool.not_eq_true',Bool.or_eq_false_iff] at h
 have:=List.any_eq_false.1 h.2 e he
 exact goodEx_bs e 1 (by simpa using this)
theorem form_good'{c:Cat}{s:Stm}(h:formM c s=true):goodCatM c=true:=by
 unfold formM at h
 simp only[Bool.not_eq_true',Bool.or_eq_false_iff,Bool.not_eq_false'] at h
 exact h.1.1.1
theorem findT_someU{c:Cat}{name:Str}(h:(findT c name).2=true):(findT c name).1∈c.ts∧(findT c name).1.n=name:=by
 unfold findT at*
 cases hf:c.ts.find? (fun t=>t.n==name) with
 |none=>rw[hf] at h;cases h
 |some t=>exact⟨List.mem_of_find?_eq_some hf,by simpa using List.find?_some hf⟩
theorem from_at{c:Cat}{s:Stm}(h:fromE c s=0){x:Str}{i:Nat}(hx:s.frm[i]?=some x):(findT c x).2=true∧ ∀y∈s.frm.take i,y≠x:=by
 have h0:=errM_z h ((fromOne c s.frm (x,i)).2) (List.mem_map.2 ⟨(x,i),List.mem_of_getElem? (zip_at hx),rfl⟩)
 unfold fromOne at h0
 split at h0
 · exact absurd h0 (by dsimp only;decide)
 rename_i h1
 split at h0
 · exact absurd h0 (by dsimp only;decide)
 rename_i h2
 refine⟨by simpa using h1,fun y hy e=>h2 (List.any_eq_true.2 ⟨y,hy,by simp[e]⟩)⟩
theorem fromT_eq(c:Cat)(s:Stm):fromT c s=s.frm.map (fun x=>(findT c x).1):=by
 unfold fromT
 refine List.ext_getElem? (fun i=> ?_)
 rw[List.getElem?_map,List.getElem?_map,List.getElem?_zipIdx]
 cases s.frm[i]? with
 |none=>rfl
 |some x=>exact congrArg some (fromOne_tab c s.frm (x,0+i))
theorem fromT_good{c:Cat}{s:Stm}(hg:goodCatM c=true)(h:fromE c s=0):(∀t∈fromT c s,goodTabM t=true)∧((fromT c s).map Tab.n).Nodup:=by
 rw[fromT_eq]
 refine⟨fun t ht=> ?_,?_⟩
 · obtain⟨x,hx,rfl⟩:=List.mem_map.1 ht
   obtain⟨i,hi⟩:=List.mem_iff_getElem?.1 hx
   exact goodCat_tab hg (findT_someU (from_at h hi).1).1
 · have e:(s.frm.map (fun x=>(findT c x).1)).map Tab.n=s.frm:=by
    rw[List.map_map]
    refine(List.map_congr_left (fun x hx=> ?_)).trans (List.map_id _)
    obtain⟨i,hi⟩:=List.mem_iff_getElem?.1 hx
    exact(findT_someU (from_at h hi).1).2
   rw[e,List.Nodup,List.pairwise_iff_getElem]
   intro i j hi hj hij e
   refine(from_at h (List.getElem?_eq_getElem hj)).2 s.frm[i] ?_ e
   rw[List.mem_take_iff_getElem]
   exact⟨i,by omega,rfl⟩
theorem goodTab_n{t:Tab}(h:goodTabM t=true):t.n≠ []:=fun e=>by
 unfold goodTabM namedM at h
 rw[e] at h
 simp at h
theorem cols_nodup: ∀{ts:List Tab},(∀t∈ts,Uniq t)→(ts.map Tab.n).Nodup→((dcCols ts).map fun x=>(x.1,x.2.n)).Nodup
 | [],_,_=>by simp[dcCols]
 |t::ts,hu,hn=>by
  rw[List.map_cons,List.nodup_cons] at hn
  have ih:=cols_nodup (ts:=ts) (fun t' h=>hu t' (by simp[h])) hn.2
  have hcs:dcCols (t::ts)=(t.cols.map fun c=>(t.n,c))++dcCols ts:=by unfold dcCols;rw[List.flatMap_cons]
  rw[hcs,List.map_append,List.nodup_append]
  refine⟨?_,ih,fun a ha b hb e=> ?_⟩
  · rw[List.map_map,List.Nodup,List.pairwise_iff_getElem]
    intro i j hi hj hij e
    rw[List.length_map] at hi hj
    simp only[List.getElem_map,Function.comp_apply,Prod.mk.injEq,true_and] at e
    have e1:=hu t (by simp) i _ (List.getElem?_eq_getElem hi)
    have e2:=hu t (by simp) j _ (List.getElem?_eq_getElem hj)
    rw[e] at e1
    rw[e1] at e2
    omega
  · subst e
    obtain⟨x,hx,rfl⟩:=List.mem_map.1 ha
    obtain⟨cx,_,rfl⟩:=List.mem_map.1 hx
    obtain⟨y,hy,e⟩:=List.mem_map.1 hb
    unfold dcCols at hy
    obtain⟨t',ht',hy⟩:=List.mem_flatMap.1 hy
    obtain⟨cy,_,rfl⟩:=List.mem_map.1 hy
    simp only[Prod.mk.injEq] at e
    exact hn.1 (by rw[←e.1];exact List.mem_map_of_mem ht')
theorem refs_at{ts:List Tab}(hu: ∀t∈ts,Uniq t)(hn:(ts.map Tab.n).Nodup)(h0: ∀t∈ts,t.n≠ []){i:Nat}{x:Str×Col}(hx:(dcCols ts)[i]?=some x):bindM ts (refX x)=(.mk 2 nilV x.1 x.2.n (i:Int) [],x.2.t,0):=by
 have hnd:=cols_nodup hu hn
 have hi:=(List.getElem?_eq_some_iff.1 hx).1
 have hsp:dcCols ts=(dcCols ts).take i++x::(dcCols ts).drop (i+1):=by
  rw[←(List.getElem?_eq_some_iff.1 hx).2,←List.drop_eq_getElem_cons hi,List.take_append_drop]
 have hx1:x.1≠ []:=by
  have hm:=List.mem_of_getElem? hx
  unfold dcCols at hm
  obtain⟨t,ht,hm⟩:=List.mem_flatMap.1 hm
  obtain⟨cx,_,rfl⟩:=List.mem_map.1 hm
  exact h0 t ht
 have hfind:dcFind (dcCols ts) x.1 x.2.n=((i:Int),x.2.t,0):=by
  rw[hsp,List.map_append,List.map_cons] at hnd
  have hnm:=(nodup_mid hnd).1
  rw[←List.map_append] at hnm
  have hother: ∀y∈(dcCols ts).take i++(dcCols ts).drop (i+1),dcHit x.1 x.2.n y=false:=fun y hy=>by
   cases hc:dcHit x.1 x.2.n y with
   |false=>rfl
   |true=>
    unfold dcHit at hc
    simp only[Bool.and_eq_true,Bool.or_eq_true,beq_iff_eq] at hc
    refine absurd (List.mem_map.2 ⟨y,hy,?_⟩) hnm
    rcases hc.2 with h|h
    · exact absurd h hx1
    · rw[←h,hc.1]
  have h1:dcFindL x.1 x.2.n (dcCols ts) 0 0 0=(i,1):=by
   rw[hsp,dcFindL_one 0 0 0 (fun y hy=>hother y (by simp[hy])) (fun y hy=>hother y (by simp[hy])) (by unfold dcHit;simp)]
   rw[List.length_take,Nat.min_eq_left (Nat.le_of_lt hi)];simp
  unfold dcFind
  rw[h1,if_pos rfl,List.getD_eq_getElem?_getD,hx];rfl
 rw[find_same ts hu] at hfind
 unfold refX
 rw[bindM_eq]
 unfold bindOne
 rw[if_neg (by rw[List.map_nil,errM_nil];decide),if_neg (by decide),if_pos rfl,hfind]
 rfl
theorem allOut_eq: ∀(ts:List Tab) (a:Nat),allOut ts a=((dcCols ts).zipIdx a).map (fun p=>Ex.mk 2 nilV p.1.1 p.1.2.n (p.2:Int) [])
 | [],a=>rfl
 |t::ts,a=>by
  have hcs:dcCols (t::ts)=(t.cols.map fun c=>(t.n,c))++dcCols ts:=by unfold dcCols;rw[List.flatMap_cons]
  rw[allOut,allOut_eq ts,hcs,List.zipIdx_append,List.map_append,List.length_map]
  congr 1
  refine List.ext_getElem? (fun i=> ?_)
  rw[List.getElem?_map,List.getElem?_map,List.getElem?_zipIdx,List.getElem?_zipIdx,List.getElem?_map]
  cases t.cols[i]? with
  |none=>rfl
  |some cx=>
   simp only[Option.map_some,refE,Nat.zero_add]
   rw[Int.natCast_add]
theorem refs_bind{ts:List Tab}(hu: ∀t∈ts,Uniq t)(hn:(ts.map Tab.n).Nodup)(h0: ∀t∈ts,t.n≠ []):bindE ts ((dcCols ts).map refX)=0∧((dcCols ts).map refX).map (fun x=>(bindM ts x).1)=allOut ts 0:=by
 refine⟨errT_no (fun y hy=> ?_),?_⟩
 · obtain⟨x,hx,rfl⟩:=List.mem_map.1 hy
   obtain⟨i,hi⟩:=List.mem_iff_getElem?.1 hx
   rw[refs_at hu hn h0 hi]
 · rw[allOut_eq]
   refine List.ext_getElem? (fun i=> ?_)
   rw[List.map_map,List.getElem?_map,List.getElem?_map,List.getElem?_zipIdx]
   cases hx:(dcCols ts)[i]? with
   |none=>rfl
   |some x=>
    simp only[Option.map_some,Function.comp_apply,Nat.zero_add]
    rw[refs_at hu hn h0 hx]
theorem refX_bs(x:Str×Col):(refX x).BS:= .mk (by decide) (fun _=>rfl) (by decide) (by decide) (fun x hx=>by cases hx)
theorem dcCols_8{ts:List Tab}(h: ∀t∈ts,t.cols.length≤4)(h2:ts.length≤2):(dcCols ts).length≤8:=by
 have: ∀ts:List Tab,(∀t∈ts,t.cols.length≤4)→(dcCols ts).length≤ts.length*4:=by
  intro ts
  induction ts with
  |nil=>intro _;exact Nat.le_refl _
  |cons t ts ih=>
   intro h
   have hcs:dcCols (t::ts)=(t.cols.map fun c=>(t.n,c))++dcCols ts:=by unfold dcCols;rw[List.flatMap_cons]
   have h1:=ih (fun t' h'=>h t' (by simp[h']))
   have h3:=h t (by simp)
   rw[hcs,List.length_append,List.length_map,List.length_cons]
   omega
 have:=this ts h
 omega
theorem dcCols_ne{ts:List Tab}(h: ∀t∈ts,goodTabM t=true)(h2:ts≠ []):dcCols ts≠ []:=by
 cases ts with
 |nil=>exact absurd rfl h2
 |cons t ts=>
  have hg:=h t (by simp)
  unfold goodTabM at hg
  simp only[Bool.and_eq_true,decide_eq_true_eq] at hg
  intro e
  have hcs:dcCols (t::ts)=(t.cols.map fun c=>(t.n,c))++dcCols ts:=by unfold dcCols;rw[List.flatMap_cons]
  rw[hcs,List.append_eq_nil_iff,List.map_eq_nil_iff] at e
  have:=hg.2.2.1
  rw[e.1] at this
  exact absurd this (by decide)
end Go.Proofs.YthcjohcakdnmmaaGreatDoor
namespace Go.Proofs.YthcjohcakdnmmaaGreatDoor
open Go.Abs
set_option linter.unusedVariables false
set_option linter.unusedSimpArgs false
theorem lies_at{F:List Rw}{vs:List IV}{rs:List (List Ex)}(h:Lies F vs rs): ∀{i:Nat} {x:List Ex} {v:IV},rs[i]?=some x→vs[i]?=some v→(x= [] ∧v= .sl [])∨ ∃(r:Rw) (F1 F2:List Rw),F=F1++r::F2∧v= .im r.u∧r.t=34∧r.n=x.length∧r.k=8∧r.xs=(x.map Ex.c).flatten∧x≠ []:=by
 induction h with
 |nil=>intro i x v hx hv;simp at hx
 | @none F vs rs h ih=>
   intro i x v hx hv
   have hl:=h.len
   by_cases hi:i<rs.length
   · rw[List.getElem?_append_left hi] at hx
     rw[List.getElem?_append_left (by omega)] at hv
     exact ih hx hv
   · rw[List.getElem?_append_right (by omega)] at hx
     rw[List.getElem?_append_right (by omega),hl] at hv
     generalize i - rs.length=j at*
     cases j with
     |zero=>simp at hx hv;exact .inl ⟨hx,hv.symm⟩
     |succ j=>simp at hx
 | @some F vs rs x0 r h ht hn hk hxs hne ih=>
   intro i x v hx hv
   have hl:=h.len
   by_cases hi:i<rs.length
   · rw[List.getElem?_append_left hi] at hx
     rw[List.getElem?_append_left (by omega)] at hv
     rcases ih hx hv with h1|⟨r',F1,F2,e,h2⟩
     · exact .inl h1
     · exact .inr ⟨r',r::F1,F2,by rw[e];rfl,h2⟩
   · rw[List.getElem?_append_right (by omega)] at hx
     rw[List.getElem?_append_right (by omega),hl] at hv
     generalize i - rs.length=j at*
     cases j with
     |zero=>
      simp at hx hv
      subst hx
      exact .inr ⟨r,[],F,rfl,hv.symm,ht,hn,hk,hxs,hne⟩
     |succ j=>simp at hx
theorem bind_none: ∀(e:Ex),(bindM [] e).2.2=0→(bindM [] e).1=e
 | .mk op v s name n l,h=>by
   rw[bindM_eq] at h⊢
   have hf:errM (l.map fun x=>(bindM [] x).2.2)=0:=by
    by_cases hf:errM (l.map fun x=>(bindM [] x).2.2)=0
    · exact hf
    · unfold bindOne at h
      rw[if_pos hf] at h
      exact h
   have hes:(l.map fun x=>(bindM [] x).1)=l:=by
    refine(List.map_congr_left (fun x hx=> ?_)).trans (List.map_id _)
    exact bind_none x (errM_z hf _ (List.mem_map.2 ⟨x,hx,rfl⟩))
   rw[hf,hes] at h⊢
   unfold bindOne at*
   rw[if_neg (show¬((0:Int)≠0) by decide)] at*
   by_cases h1:op=1
   · rw[if_pos h1]
   rw[if_neg h1] at*
   by_cases h2:op=2
   · rw[if_pos h2] at h
     exact absurd h (by unfold findM findGo;dsimp only;decide)
   rw[if_neg h2] at*
   unfold badB at*
   by_cases h3:op=3∨op=4
   · rw[if_pos h3] at*
     split at h
     · rename_i ha;rw[if_pos ha]
     · exact absurd h (by dsimp only;decide)
   rw[if_neg h3] at*
   by_cases h5:op=5∨op=6
   · rw[if_pos h5] at*
     split at h
     · rename_i ha;rw[if_pos ha]
     · exact absurd h (by dsimp only;decide)
   rw[if_neg h5] at*
   by_cases h7:op=7∨op=8∨op=9
   · rw[if_pos h7] at*
     split at h
     · rename_i ha;rw[if_pos ha]
     · exact absurd h (by dsimp only;decide)
   rw[if_neg h7] at*
   by_cases h10:op=10
   · rw[if_pos h10]
   rw[if_neg h10] at h
   exact absurd h (by dsimp only;decide)
 termination_by e=>SizeOf.sizeOf e
 decreasing_by
  have:=List.sizeOf_lt_of_mem hx
  simp;omega
theorem must_none{e:Ex}{k:Int}(h:(mustM [] e k).2=0):(mustM [] e k).1=e:=by
 unfold mustM at*
 by_cases h1:(bindM [] e).2.2≠0
 · rw[if_pos h1] at h;exact absurd h h1
 rw[if_neg h1] at*
 split at h
 · exact absurd h (by dsimp only;decide)
 · rename_i h2
   rw[if_neg h2]
   exact bind_none e (by simpa using h1)
theorem row_none{t:Tab}{r:List Ex}(h:(rowM t r).2=0):(rowM t r).1=r:=by
 unfold rowM at*
 split at h
 · exact absurd h (by dsimp only;decide)
 rename_i h1
 rw[if_neg h1]
 refine List.ext_getElem? (fun i=> ?_)
 rw[List.getElem?_map]
 cases hx:r[i]? with
 |none=>rw[zip_none hx];rfl
 |some x=>
  rw[zip_at hx]
  refine congrArg some ?_
  have:=errM_z h ((valE t (x,i)).2) (List.mem_map.2 ⟨(x,i),List.mem_of_getElem? (zip_at hx),rfl⟩)
  exact must_none this
theorem rows_none{t:Tab}{s:Stm}(h:rowsE s t=0):s.rows.map (fun r=>(rowM t r).1)=s.rows:=by
 refine(List.map_congr_left (fun x hx=> ?_)).trans (List.map_id _)
 exact row_none (errM_z h _ (List.mem_map.2 ⟨x,hx,rfl⟩))
theorem change_R{s:Stm}{t:Tab}:(rowsE s t≠0→(changeM s t).2=rowsE s t)∧(rowsE s t=0→setsE s t≠0→(changeM s t).2=setsE s t)∧
 (rowsE s t=0→setsE s t=0→changeM s t=({s with sets:=s.sets.zipIdx.map fun p=>(setM t s.sets p).1,wh:=(whereM [t] s.wh).1},(whereM [t] s.wh).2)):=by
 unfold changeM
 refine⟨fun h=>by rw[if_pos h],fun h h2=>by rw[if_neg (by rw[h];decide),if_pos h2],fun h h2=> ?_⟩
 rw[if_neg (by rw[h];decide),if_neg (by rw[h2];decide),rows_none h]
theorem setM_co(t:Tab)(l:List Ast)(p:Ast×Nat):(setM t l p).1.co=p.1.co:=by
 unfold setM
 split
 · rfl
 split<;>rfl
end Go.Proofs.YthcjohcakdnmmaaGreatDoor
namespace Go.Proofs.YthcjohcakdnmmaaGreatDoor
open Go.Abs
set_option maxRecDepth 100000
attribute [local irreducible] L LF Code.wp bodyPost Exit.then Exit.inBlock
set_option linter.unusedVariables false
set_option linter.unusedSimpArgs false
def noSY(c:Cat)(t:Tab)(r:List Ex)(e:Int):St:=⟨[(4,.ptr 4 0),(5,aI e)],[(803,⟨34,.r (r.map Ex.c).flatten 0⟩),(2,⟨25,.l (c.c.map .iv)⟩),(3,⟨36,.l (List.replicate 20 AV.any)⟩),(4,⟨36,.l (nilSt.cs.map .iv)⟩),(15,⟨47,.l [aS t.n,.iv (.sl (t.cols.map Col.c))]⟩)],[]⟩
set_option maxHeartbeats 32000000 in
theorem rowL{gs:Globs}(c:Cat)(s:Stm)(t:Tab)(VS cols:List (List IV))(vS:IV)(i0i i1i:Int)(r:List Ex)(hr: ∀x∈r,x.BS)(hrl:r.length=t.cols.length)(htl:t.cols.length≤4){w0:World}{E0:Env}(hG:Glob gs E0 w0){Q2:Exit→Act→World→Prop}
 (hE:(rowM t r).2≠0→ ∀st',Wk ⟨512,w0,E0,[803,2,3,4,15]⟩ st' (noSY c t r (rowM t r).2)→L ⟨512,w0,E0,[803,2,3,4,15]⟩ st' (Q2 .ret))
 (hK0:(rowM t r).2=0→ ∀st',Wk ⟨512,w0,E0,[803,2,3,4,15]⟩ st' ⟨[(148,aI i0i),(147,aI i1i),(146,.iv (.sl VS)),(2,.ptr 2 0),(3,.ptr 3 0),(4,.ptr 4 0),(6,.fn 31 []),(15,.ptr 15 0),(17,.iv (.sl cols))],[(803,⟨34,.r (r.map Ex.c).flatten 0⟩),(2,⟨25,.l (c.c.map .iv)⟩),(3,⟨36,.l (stmA s (.iv (.sl VS)) (.iv vS) (.iv (.sl (s.out.map Ex.c))) (.iv (.sl (s.ord.map Ex.c))))⟩),(4,⟨36,.l stm0A⟩),(15,⟨47,.l [aS t.n,.iv (.sl (t.cols.map Col.c))]⟩)],[]⟩→L ⟨512,w0,E0,[803,2,3,4,15]⟩ st' (Q2 .normal)):
 L ⟨512,w0,E0,[803,2,3,4,15]⟩ ⟨[(164,aI 0),(163,aI (r.length:Int)),(162,.bsh 803 0 r.length 8),(42,.bsh 803 0 r.length 8),(148,aI i0i),(147,aI i1i),(146,.iv (.sl VS)),(2,.ptr 2 0),(3,.ptr 3 0),(4,.ptr 4 0),(6,.fn 31 []),(15,.ptr 15 0),(17,.iv (.sl cols))],[(803,⟨34,.r (r.map Ex.c).flatten 0⟩),(2,⟨25,.l (c.c.map .iv)⟩),(3,⟨36,.l (stmA s (.iv (.sl VS)) (.iv vS) (.iv (.sl (s.out.map Ex.c))) (.iv (.sl (s.ord.map Ex.c))))⟩),(4,⟨36,.l stm0A⟩),(15,⟨47,.l [aS t.n,.iv (.sl (t.cols.map Col.c))]⟩)],[]⟩ ((Code.loop (nav [1,1,1,1,1,1,1,1,1,1,1,1,0,1,0,1,1,1,1,1,1,1,1,1,0,1,0,0,1,1,0,0,1,1,1,0,0] ((Tryz.f7.body).getD .skip))).wp Tryz.prog (Exit.inBlock 9 Q2)):=by
 have kn: ∀e:Int,CallG gs Tryz.prog 31 ([aI e] ++ []) [] [] [] (.tup [.agg (nilSt.cs.map .iv),.iv (I e)]):=fun e=>no_any e
 have hrm:(rowM t r).2=errM (r.zipIdx.map fun p=>(valE t p).2):=by unfold rowM;rw[if_neg (by omega)]
 rw[hrm] at hE hK0
 have k8: ∀e∈r.map Ex.c,e.length=8:=map_len exl8 _
 have hel:(r.map Ex.c).length=r.length:=List.length_map _
 refine L.loopP (ι:=Nat) (fun j=>⟨[(164,aI (j:Int)),(163,aI (r.length:Int)),(162,.bsh 803 0 r.length 8),(42,.bsh 803 0 r.length 8),(148,aI i0i),(147,aI i1i),(146,.iv (.sl VS)),(2,.ptr 2 0),(3,.ptr 3 0),(4,.ptr 4 0),(6,.fn 31 []),(15,.ptr 15 0),(17,.iv (.sl cols))],[(803,⟨34,.r (r.map Ex.c).flatten 0⟩),(2,⟨25,.l (c.c.map .iv)⟩),(3,⟨36,.l (stmA s (.iv (.sl VS)) (.iv vS) (.iv (.sl (s.out.map Ex.c))) (.iv (.sl (s.ord.map Ex.c))))⟩),(4,⟨36,.l stm0A⟩),(15,⟨47,.l [aS t.n,.iv (.sl (t.cols.map Col.c))]⟩)],[]⟩) (fun j=>r.length - j) (fun j=> ∀p∈r.zipIdx.take j,(valE t p).2=0) (i0:=0) ?_ (by simp) ?_
 · (refine Wk.mk' (keysA rfl) ?_ ?_ ?_<;>repeat' (first|exact WkF.nil|exact WkB.nil|exact WkT.nil|exact Subs.nil|(refine WkF.cons rfl (Sub.refl _) ?_)|(refine WkF.cons rfl (Sub.of_eq rfl) ?_)|(refine WkF.cons rfl (Sub.row _ _) ?_)|(refine WkF.cons rfl (Sub.of_eq (rfl)) ?_)|(refine WkB.cons rfl rfl (Subs.refl _) ?_)|(refine WkB.cons rfl rfl (subs20 rfl) ?_)|(refine WkB.cons rfl rfl (Subs.of_eq rfl) ?_)|(refine WkT.cons rfl ?_)))
 intro j hJ K2 hK
 cases hy:r[j]? with
 |none=>
  have hlt:decide ((j:Int)<(r.length:Int))=false:=decide_eq_false (by have:=List.getElem?_eq_none_iff.1 hy;omega)
  rw[take_all (zip_none hy)] at hJ
  have hK3:=hK0 (errT_no hJ)
  clear hK hJ hE hK0
  (repeat' (first|refine wk1 ?_|refine wk2 (fun hb hp=> ?_) (fun hb hp=> ?_)|fail))
  refine hK3 _ ?_
  (refine Wk.mk' (keysA rfl) ?_ ?_ ?_<;>repeat' (first|exact WkF.nil|exact WkB.nil|exact WkT.nil|exact Subs.nil|(refine WkF.cons rfl (Sub.refl _) ?_)|(refine WkF.cons rfl (Sub.of_eq rfl) ?_)|(refine WkF.cons rfl (Sub.row _ _) ?_)|(refine WkF.cons rfl (Sub.of_eq (rfl)) ?_)|(refine WkB.cons rfl rfl (Subs.refl _) ?_)|(refine WkB.cons rfl rfl (subs20 rfl) ?_)|(refine WkB.cons rfl rfl (Subs.of_eq rfl) ?_)|(refine WkT.cons rfl ?_)))
 |some x=>
  clear hK0
  have hil:j<r.length:=(List.getElem?_eq_some_iff.1 hy).1
  have hlt:decide ((j:Int)<(r.length:Int))=true:=decide_eq_true (by omega)
  have hlt':(j:Int)<(r.length:Int):=by omega
  have hix:(j:Int)+1≤9223372036854775807:=by omega
  have hxb:=hr x (List.mem_of_getElem? hy)
  have hz:=zip_at hy
  have hv:valE t (x,j)=mustM [] x (colTy t (j:Int)):=rfl
  have hct:colTy t (j:Int)=(t.cols.getD j ⟨[],0,false⟩).t:=by rw[colTy,Int.toNat_natCast]
  have kt:=typed_any (gs:=gs) [] (by simp) (fun x hx=>by cases hx) x hxb (colTy t (j:Int))
  obtain⟨h1,h2⟩:=typed_same (ts:= []) (fun t ht=>by cases ht) x hxb.ref (colTy t (j:Int))
  have h1:(dcTyped [] x (colTy t (j:Int))).2=(mustM [] x (colTy t (j:Int))).2:=h1
  have h2:(mustM [] x (colTy t (j:Int))).2=0→dcTyped [] x (colTy t (j:Int))=mustM [] x (colTy t (j:Int)):=h2
  have g3:(t.cols.map Col.c)[((j:Nat):Int).toNat]?=some [S (t.cols.getD j ⟨[],0,false⟩).n,I (t.cols.getD j ⟨[],0,false⟩).t,.im (.bool (t.cols.getD j ⟨[],0,false⟩).m)]:=by rw[Int.toNat_natCast,List.getElem?_map,getD_some ⟨[],0,false⟩ (show j<t.cols.length by omega)];rfl
  have hxc:x.cs= [I x.op,I x.v.k,I x.v.n,S x.v.s,S x.s,S x.name,I x.n,.sl (x.l.map Ex.c)]:=by cases x;rfl
  have ge:(r.map Ex.c)[j]?=some [I x.op,I x.v.k,I x.v.n,S x.v.s,S x.s,S x.name,I x.n,.sl (x.l.map Ex.c)]:=by rw[List.getElem?_map,hy];exact congrArg some ((Ex.c_cs x).trans hxc)
  have hst:(r.map Ex.c).set j [I x.op,I x.v.k,I x.v.n,S x.v.s,S x.s,S x.name,I x.n,.sl (x.l.map Ex.c)] =r.map Ex.c:=by
   refine List.ext_getElem? (fun p=> ?_)
   by_cases e:p=j
   · subst e;rw[List.getElem?_set_self (by omega),ge]
   · rw[List.getElem?_set_ne (Ne.symm e)]
  have ho1:(0+((j:Int)).toNat)*8=j*8:=by simp
  have hp0:(0:Int)≤(j:Int):=by omega
  have hil2:j<(r.map Ex.c).length:=by omega
  rw[hxc] at kt
  by_cases hf:(valE t (x,j)).2=0
  · have hJ':=takeT_snoc (g:=fun p=>(valE t p).2) hJ hz hf
    rw[hv] at hf
    rw[h2 hf,must_none hf,hf,hxc] at kt
    rw[hct] at kt
    clear hE hJ h1 h2 hf hv hct hr hrm hz
    generalize t.cols.getD j ⟨[],0,false⟩=cc at*
    generalize r.map Ex.c=es at*
    (repeat' (first|(refine LW.is ?_;first|(apply s_vr;exact rfl;apply v_indexBsh;exact rfl;exact rfl;exact hp0;exact hlt';exact ho1)|(apply s_vr;exact rfl;apply v_loadAR (es:=es) (k:=8) (i:=j);exact rfl;exact rfl;exact k8;exact rfl;exact ge;exact rfl)|(apply s_storeR (es:=es) (i:=j) (e:= [I x.op,I x.v.k,I x.v.n,S x.v.s,S x.s,S x.name,I x.n,.sl (x.l.map Ex.c)]) (er:=es);exact rfl;exact rfl;exact rfl;exact rfl;exact rfl;exact rfl;exact k8;exact rfl;exact hil2;exact hst))|(refine DR.is ?_;first|(apply d_vr;exact rfl;apply v_indexBsh;exact rfl;exact rfl;exact hp0;exact hlt';exact ho1)|(apply d_vr;exact rfl;apply v_loadAR (es:=es) (k:=8) (i:=j);exact rfl;exact rfl;exact k8;exact rfl;exact ge;exact rfl)|(apply d_storeR (es:=es) (i:=j) (e:= [I x.op,I x.v.k,I x.v.n,S x.v.s,S x.s,S x.name,I x.n,.sl (x.l.map Ex.c)]) (er:=es);exact rfl;exact rfl;exact rfl;exact rfl;exact rfl;exact rfl;exact k8;exact rfl;exact hil2;exact hst))|refine wk1 ?_|refine wk2 (fun hb hp=> ?_) (fun hb hp=> ?_)|fail))
    refine hK _ (j+1) hJ' (by omega) ?_
    (refine Wk.mk' (keysA rfl) ?_ ?_ ?_<;>repeat' (first|exact WkF.nil|exact WkB.nil|exact WkT.nil|exact Subs.nil|(refine WkF.cons rfl (Sub.refl _) ?_)|(refine WkF.cons rfl (Sub.of_eq rfl) ?_)|(refine WkF.cons rfl (Sub.row _ _) ?_)|(refine WkF.cons rfl (Sub.of_eq (rfl)) ?_)|(refine WkB.cons rfl rfl (Subs.refl _) ?_)|(refine WkB.cons rfl rfl (subs20 rfl) ?_)|(refine WkB.cons rfl rfl (Subs.of_eq rfl) ?_)|(refine WkT.cons rfl ?_)))
  · have he:errM (r.zipIdx.map fun p=>(valE t p).2)=(valE t (x,j)).2:=errT_at (g:=fun p=>(valE t p).2) hJ hz hf
    rw[he] at hE
    have hE2:=hE hf
    rw[hv] at hf hE2
    rw[←h1] at hf hE2
    rw[hct] at kt hf hE2
    clear hE hK hJ h1 h2 hv hct hr hrm hz he hst
    generalize t.cols.getD j ⟨[],0,false⟩=cc at*
    generalize dcTyped [] x cc.t=q at*
    obtain⟨e,f⟩:=q
    dsimp only at hf kt hE2
    have qf:(f !=0)=true:=by simpa using hf
    have hec:e.cs= [I e.op,I e.v.k,I e.v.n,S e.v.s,S e.s,S e.name,I e.n,.sl (e.l.map Ex.c)]:=by cases e;rfl
    rw[hec] at kt
    (repeat' (first|(apply s_callFnW [] (f:=31) (avs:= [aI f]) (caps:= []) (bxi:= []);exact rfl;exact hG;exact rfl;exact kn f;exact Subs.of_eq rfl;exact .nil;exact rfl;exact rfl;exact rfl;exact rfl)|(refine LW.is ?_;first|(apply s_vr;exact rfl;apply v_indexBsh;exact rfl;exact rfl;exact hp0;exact hlt';exact ho1)|(apply s_vr;exact rfl;apply v_loadAR (es:=r.map Ex.c) (k:=8) (i:=j);exact rfl;exact rfl;exact k8;exact rfl;exact ge;exact rfl))|(refine DR.is ?_;first|(apply d_vr;exact rfl;apply v_indexBsh;exact rfl;exact rfl;exact hp0;exact hlt';exact ho1)|(apply d_vr;exact rfl;apply v_loadAR (es:=r.map Ex.c) (k:=8) (i:=j);exact rfl;exact rfl;exact k8;exact rfl;exact ge;exact rfl))|refine wk1 ?_|refine wk2 (fun hb hp=> ?_) (fun hb hp=> ?_)|fail))
    refine hE2 _ ?_
    (refine Wk.mk' (keysA rfl) ?_ ?_ ?_<;>repeat' (first|exact WkF.nil|exact WkB.nil|exact WkT.nil|exact Subs.nil|(refine WkF.cons rfl (Sub.refl _) ?_)|(refine WkF.cons rfl (Sub.of_eq rfl) ?_)|(refine WkF.cons rfl (Sub.row _ _) ?_)|(refine WkF.cons rfl (Sub.of_eq (rfl)) ?_)|(refine WkB.cons rfl rfl (Subs.refl _) ?_)|(refine WkB.cons rfl rfl (subs20 rfl) ?_)|(refine WkB.cons rfl rfl (Subs.of_eq rfl) ?_)|(refine WkT.cons rfl ?_)))
end Go.Proofs.YthcjohcakdnmmaaGreatDoor
namespace Go.Proofs.YthcjohcakdnmmaaGreatDoor
open Go.Abs
set_option maxRecDepth 100000
attribute [local irreducible] L LF Code.wp bodyPost Exit.then Exit.inBlock
set_option linter.unusedVariables false
set_option linter.unusedSimpArgs false
theorem asc9(x:Ast):x.c= [S x.co,I x.e.op,I x.e.v.k,I x.e.v.n,S x.e.v.s,S x.e.s,S x.e.name,I x.e.n,.sl (x.e.l.map Ex.c)]:=by unfold Ast.c;cases x.e;rfl
set_option maxHeartbeats 16000000 in
theorem dupL{gs:Globs}(c:Cat)(s:Stm)(t:Tab)(cols:List (List IV))(A:List Ast)(n:Nat)(hAn:A.length=n)(x:Ast)(j:Nat)(hj:j<n)(hAl:n*120≤140737488355328)(k:Int){w0:World}{E0:Env}(hG:Glob gs E0 w0){K:Act→World→Prop}{Q2:Exit→Act→World→Prop}
 (hE:(A.take j).any (fun y=>y.co==x.co)=true→ ∀st',Wk ⟨512,w0,E0,[]⟩ st' (noSt c 4)→L ⟨512,w0,E0,[]⟩ st' (Q2 .ret))
 (hK0:(A.take j).any (fun y=>y.co==x.co)=false→ ∀st',Wk ⟨512,w0,E0,[]⟩ st' ⟨[(196,aI (j:Int)),(195,aI (n:Int)),(194,.bsh 804 0 n 9),(47,aI (j:Int)),(48,.ptr 48 0),(49,aI k),(2,.ptr 2 0),(3,.ptr 3 0),(4,.ptr 4 0),(6,.fn 31 []),(15,.ptr 15 0),(17,.iv (.sl cols))],[(48,⟨56,.l [aS x.co,aI x.e.op,aI x.e.v.k,aI x.e.v.n,aS x.e.v.s,aS x.e.s,aS x.e.name,aI x.e.n,.iv (.sl (x.e.l.map Ex.c))]⟩),(2,⟨25,.l (c.c.map .iv)⟩),(3,⟨36,.l (stmA s (.iv (.sl (s.rows.map exRow))) (.bsh 804 0 n 9) (.iv (.sl (s.out.map Ex.c))) (.iv (.sl (s.ord.map Ex.c))))⟩),(4,⟨36,.l stm0A⟩),(15,⟨47,.l [aS t.n,.iv (.sl (t.cols.map Col.c))]⟩),(804,⟨56,.r (A.map Ast.c).flatten 0⟩)],[]⟩→L ⟨512,w0,E0,[]⟩ st' K):
 L ⟨512,w0,E0,[]⟩ ⟨[(216,aI 0),(215,aI (j:Int)),(214,.bsh 804 0 j 9),(196,aI (j:Int)),(195,aI (n:Int)),(194,.bsh 804 0 n 9),(47,aI (j:Int)),(48,.ptr 48 0),(49,aI k),(2,.ptr 2 0),(3,.ptr 3 0),(4,.ptr 4 0),(6,.fn 31 []),(15,.ptr 15 0),(17,.iv (.sl cols))],[(48,⟨56,.l [aS x.co,aI x.e.op,aI x.e.v.k,aI x.e.v.n,aS x.e.v.s,aS x.e.s,aS x.e.name,aI x.e.n,.iv (.sl (x.e.l.map Ex.c))]⟩),(2,⟨25,.l (c.c.map .iv)⟩),(3,⟨36,.l (stmA s (.iv (.sl (s.rows.map exRow))) (.bsh 804 0 n 9) (.iv (.sl (s.out.map Ex.c))) (.iv (.sl (s.ord.map Ex.c))))⟩),(4,⟨36,.l stm0A⟩),(15,⟨47,.l [aS t.n,.iv (.sl (t.cols.map Col.c))]⟩),(804,⟨56,.r (A.map Ast.c).flatten 0⟩)],[]⟩ ((Code.loop (nav [1,1,1,1,1,1,1,1,1,1,1,1,0,1,0,1,1,1,1,1,1,1,1,1,1,1,0,0,1,1,0,0,1,1,1,0,1,0,0] ((Tryz.f7.body).getD .skip))).wp Tryz.prog (Exit.inBlock 13 (Exit.then K Q2))):=by
 have kn: ∀e:Int,CallG gs Tryz.prog 31 ([aI e] ++ []) [] [] [] (.tup [.agg (nilSt.cs.map .iv),.iv (I e)]):=fun e=>no_any e
 have k9: ∀e∈A.map Ast.c,e.length=9:=map_len astl _
 refine L.loopP (ι:=Nat) (fun i=>⟨[(216,aI (i:Int)),(215,aI (j:Int)),(214,.bsh 804 0 j 9),(196,aI (j:Int)),(195,aI (n:Int)),(194,.bsh 804 0 n 9),(47,aI (j:Int)),(48,.ptr 48 0),(49,aI k),(2,.ptr 2 0),(3,.ptr 3 0),(4,.ptr 4 0),(6,.fn 31 []),(15,.ptr 15 0),(17,.iv (.sl cols))],[(48,⟨56,.l [aS x.co,aI x.e.op,aI x.e.v.k,aI x.e.v.n,aS x.e.v.s,aS x.e.s,aS x.e.name,aI x.e.n,.iv (.sl (x.e.l.map Ex.c))]⟩),(2,⟨25,.l (c.c.map .iv)⟩),(3,⟨36,.l (stmA s (.iv (.sl (s.rows.map exRow))) (.bsh 804 0 n 9) (.iv (.sl (s.out.map Ex.c))) (.iv (.sl (s.ord.map Ex.c))))⟩),(4,⟨36,.l stm0A⟩),(15,⟨47,.l [aS t.n,.iv (.sl (t.cols.map Col.c))]⟩),(804,⟨56,.r (A.map Ast.c).flatten 0⟩)],[]⟩) (fun i=>j - i) (fun i=>i≤j∧ ∀y∈A.take i,(y.co==x.co)=false) (i0:=0) ?_ ⟨Nat.zero_le _,by simp⟩ ?_
 · (refine Wk.mk' (by intro id h;cases h) ?_ ?_ ?_<;>repeat' (first|exact WkF.nil|exact WkB.nil|exact WkT.nil|exact Subs.nil|(refine WkF.cons rfl (Sub.refl _) ?_)|(refine WkF.cons rfl (Sub.of_eq rfl) ?_)|(refine WkF.cons rfl (Sub.row _ _) ?_)|(refine WkF.cons rfl (Sub.of_eq (rfl)) ?_)|(refine WkB.cons rfl rfl (Subs.refl _) ?_)|(refine WkB.cons rfl rfl (subs20 rfl) ?_)|(refine WkB.cons rfl rfl (Subs.of_eq rfl) ?_)|(refine WkT.cons rfl ?_)))
 rintro i ⟨hij0,hI⟩ K2 hK
 by_cases hij:i<j
 · have hil:i<A.length:=by omega
   clear hK0
   have hlt:decide ((i:Int)<(j:Int))=true:=decide_eq_true (by omega)
   have hlt':(i:Int)<(j:Int):=by omega
   have hix:(i:Int)+1≤9223372036854775807:=by omega
   obtain⟨y,hy⟩: ∃y,A[i]?=some y:=⟨_,List.getElem?_eq_getElem hil⟩
   have ge:(A.map Ast.c)[i]?=some [S y.co,I y.e.op,I y.e.v.k,I y.e.v.n,S y.e.v.s,S y.e.s,S y.e.name,I y.e.n,.sl (y.e.l.map Ex.c)]:=by rw[List.getElem?_map,hy];exact congrArg some (asc9 y)
   have ho1:(0+((i:Int)).toNat)*9=i*9:=by simp
   have hp0:(0:Int)≤(i:Int):=by omega
   cases q:y.co==x.co with
   |true=>
    have hany:(A.take j).any (fun y=>y.co==x.co)=true:=List.any_eq_true.2 ⟨y,List.mem_of_getElem? (by rw[List.getElem?_take,if_pos hij,hy]),q⟩
    have hE2:=hE hany
    clear hE hK hI hany
    (repeat' (first|(apply s_callFnW [] (f:=31) (avs:= [aI 4]) (caps:= []) (bxi:= []);exact rfl;exact hG;exact rfl;exact kn 4;exact Subs.of_eq rfl;exact .nil;exact rfl;exact rfl;exact rfl;exact rfl)|(refine LW.is ?_;first|(apply s_vr;exact rfl;apply v_indexBsh;exact rfl;exact rfl;exact hp0;exact hlt';exact ho1)|(apply s_vr;exact rfl;apply v_loadAR (es:=A.map Ast.c) (k:=9) (i:=i);exact rfl;exact rfl;exact k9;exact rfl;exact ge;exact rfl))|(refine DR.is ?_;first|(apply d_vr;exact rfl;apply v_indexBsh;exact rfl;exact rfl;exact hp0;exact hlt';exact ho1)|(apply d_vr;exact rfl;apply v_loadAR (es:=A.map Ast.c) (k:=9) (i:=i);exact rfl;exact rfl;exact k9;exact rfl;exact ge;exact rfl))|refine wk1 ?_|refine wk2 (fun hb hp=> ?_) (fun hb hp=> ?_)|fail))
    refine hE2 _ ?_
    (refine Wk.mk' (by intro id h;cases h) ?_ ?_ ?_<;>repeat' (first|exact WkF.nil|exact WkB.nil|exact WkT.nil|exact Subs.nil|(refine WkF.cons rfl (Sub.refl _) ?_)|(refine WkF.cons rfl (Sub.of_eq rfl) ?_)|(refine WkF.cons rfl (Sub.row _ _) ?_)|(refine WkF.cons rfl (Sub.of_eq (rfl)) ?_)|(refine WkB.cons rfl rfl (Subs.refl _) ?_)|(refine WkB.cons rfl rfl (subs20 rfl) ?_)|(refine WkB.cons rfl rfl (Subs.of_eq rfl) ?_)|(refine WkT.cons rfl ?_)))
   |false=>
    have hI':i+1≤j∧ ∀z∈A.take (i+1),(z.co==x.co)=false:=⟨by omega,fun z hz=>by
     rw[takeA hy] at hz
     rcases List.mem_append.1 hz with h|h
     · exact hI z h
     · rw[List.mem_singleton.1 h];exact q⟩
    clear hE hI
    (repeat' (first|(refine LW.is ?_;first|(apply s_vr;exact rfl;apply v_indexBsh;exact rfl;exact rfl;exact hp0;exact hlt';exact ho1)|(apply s_vr;exact rfl;apply v_loadAR (es:=A.map Ast.c) (k:=9) (i:=i);exact rfl;exact rfl;exact k9;exact rfl;exact ge;exact rfl))|(refine DR.is ?_;first|(apply d_vr;exact rfl;apply v_indexBsh;exact rfl;exact rfl;exact hp0;exact hlt';exact ho1)|(apply d_vr;exact rfl;apply v_loadAR (es:=A.map Ast.c) (k:=9) (i:=i);exact rfl;exact rfl;exact k9;exact rfl;exact ge;exact rfl))|refine wk1 ?_|refine wk2 (fun hb hp=> ?_) (fun hb hp=> ?_)|fail))
    refine hK _ (i+1) hI' (by omega) ?_
    (refine Wk.mk' (by intro id h;cases h) ?_ ?_ ?_<;>repeat' (first|exact WkF.nil|exact WkB.nil|exact WkT.nil|exact Subs.nil|(refine WkF.cons rfl (Sub.refl _) ?_)|(refine WkF.cons rfl (Sub.of_eq rfl) ?_)|(refine WkF.cons rfl (Sub.row _ _) ?_)|(refine WkF.cons rfl (Sub.of_eq (rfl)) ?_)|(refine WkB.cons rfl rfl (Subs.refl _) ?_)|(refine WkB.cons rfl rfl (subs20 rfl) ?_)|(refine WkB.cons rfl rfl (Subs.of_eq rfl) ?_)|(refine WkT.cons rfl ?_)))
 · have hlt:decide ((i:Int)<(j:Int))=false:=decide_eq_false (by omega)
   have hany:(A.take j).any (fun y=>y.co==x.co)=false:=by
    rw[show j=i by omega]
    exact List.any_eq_false.2 (fun z hz=>by rw[hI z hz];decide)
   have hK3:=hK0 hany
   clear hK hE hK0 hI
   (repeat' (first|refine wk1 ?_|refine wk2 (fun hb hp=> ?_) (fun hb hp=> ?_)|fail))
   refine hK3 _ ?_
   (refine Wk.mk' (by intro id h;cases h) ?_ ?_ ?_<;>repeat' (first|exact WkF.nil|exact WkB.nil|exact WkT.nil|exact Subs.nil|(refine WkF.cons rfl (Sub.refl _) ?_)|(refine WkF.cons rfl (Sub.of_eq rfl) ?_)|(refine WkF.cons rfl (Sub.row _ _) ?_)|(refine WkF.cons rfl (Sub.of_eq (rfl)) ?_)|(refine WkB.cons rfl rfl (Subs.refl _) ?_)|(refine WkB.cons rfl rfl (subs20 rfl) ?_)|(refine WkB.cons rfl rfl (Subs.of_eq rfl) ?_)|(refine WkT.cons rfl ?_)))
end Go.Proofs.YthcjohcakdnmmaaGreatDoor
