/- Several texts in one, each with its own sentence ahead of it. Conditions: each one says its own. -/
import Derived.Test.YthcjohcakdnmmaaGreatDoorZS24
import Derived.Test.YthcjohcakdnmmaaGreatDoorZS26
import Derived.Test.YthcjohcakdnmmaaGreatDoorZS40
set_option linter.all false
namespace Go.Proofs.YthcjohcakdnmmaaGreatDoor
open Go.Abs
set_option linter.unusedVariables false
set_option maxRecDepth 100000
theorem szs_mem{es:List (List IV)}{e:List IV}(h:e∈es):szs e≤szss es:=by
 induction es with
 |nil=>cases h
 |cons x es ih=>
  simp only[szss]
  rcases List.mem_cons.1 h with rfl|h
  · omega
  · have:=ih h;omega
theorem fit_exS: ∀(n:Nat) {xs:List IV},szs xs≤n→Fits book [.int .i64,.int .i64,.int .i64,.str,.str,.str,.int .i64,.sl 34] xs→ ∃e:Ex,xs=e.c∧e.OkS:=by
 intro n
 induction n with
 |zero=>
  intro xs hn h
  obtain⟨x1,xs,rfl,h1,h⟩:=h.cons_inv
  have:=sz_pos x1
  simp only[szs] at hn;omega
 |succ n ih=>
  intro xs hn h
  obtain⟨x1,xs,rfl,h1,h⟩:=h.cons_inv
  obtain⟨x2,xs,rfl,h2,h⟩:=h.cons_inv
  obtain⟨x3,xs,rfl,h3,h⟩:=h.cons_inv
  obtain⟨x4,xs,rfl,h4,h⟩:=h.cons_inv
  obtain⟨x5,xs,rfl,h5,h⟩:=h.cons_inv
  obtain⟨x6,xs,rfl,h6,h⟩:=h.cons_inv
  obtain⟨x7,xs,rfl,h7,h⟩:=h.cons_inv
  obtain⟨x8,xs,rfl,h8,h⟩:=h.cons_inv
  obtain rfl:=h.nil_inv
  obtain⟨es,rfl,hl,he⟩:=h8.sl_inv (n:=104) (cts:= [.int .i64,.int .i64,.int .i64,.str,.str,.str,.int .i64,.sl 34]) rfl
  have hsz:szss es≤n:=by
   have:=sz_pos x1
   simp only[szs,IV.sz] at hn;omega
  obtain⟨l,rfl,hok⟩:=map_of (f:=Ex.c) (Q:=fun _ e=>e.OkS) (fun e h=>ih (Nat.le_trans (szs_mem h) hsz) (he e h))
  obtain⟨op,rfl,_⟩:=h1.int_inv
  obtain⟨k,rfl,_⟩:=h2.int_inv
  obtain⟨m,rfl,_⟩:=h3.int_inv
  obtain⟨s1,rfl,_⟩:=h4.str_inv
  obtain⟨s2,rfl,l2⟩:=h5.str_inv
  obtain⟨s3,rfl,l3⟩:=h6.str_inv
  obtain⟨q,rfl,_⟩:=h7.int_inv
  have hr:reachBytes=140737488351232:=rfl
  refine⟨.mk op ⟨k,m,s1⟩ s2 s3 q l,by rw[Ex.c_eq],.mk (by simp only[List.length_map] at hl;omega) (by omega) (by omega) hok⟩
theorem fit_exl{x:IV}(h:Fit book (.sl 34) x): ∃l:List Ex,x= .sl (l.map Ex.c)∧l.length≤szss (l.map Ex.c)∧ ∀e∈l,e.OkS:=by
 obtain⟨es,rfl,hl,he⟩:=h.sl_inv (n:=104) (cts:= [.int .i64,.int .i64,.int .i64,.str,.str,.str,.int .i64,.sl 34]) rfl
 obtain⟨l,rfl,hok⟩:=map_of (f:=Ex.c) (Q:=fun _ e=>e.OkS) (fun e h=>fit_exS _ (Nat.le_refl _) (he e h))
 have:=szss_len (es:=l.map Ex.c) (fun e he=>by obtain⟨y,_,rfl⟩:=List.mem_map.1 he;rw[Ex.c_cs];exact Nat.succ_pos _)
 rw[List.length_map] at this
 exact⟨l,rfl,this,hok⟩
theorem szss_rows: ∀{rows:List (List Ex)},(∀r∈rows,r.length≤szss (r.map Ex.c))→rows.flatten.length+rows.length≤szss (rows.map exRow)
 | [],_=>by simp[szss]
 |r::rows,h=>by
  have h1:=h r (List.mem_cons_self ..)
  have h2:=szss_rows (rows:=rows) (fun r hr=>h r (List.mem_cons_of_mem _ hr))
  have e:szs (exRow r)=szss (r.map Ex.c)+1:=by simp only[exRow,szs,IV.sz,Nat.add_zero]
  simp only[List.flatten_cons,List.length_append,List.length_cons,List.map_cons,szss]
  omega
theorem fit_rowsE{x:IV}(h:Fit book (.sl 30) x): ∃rows:List (List Ex),x= .sl (rows.map exRow)∧rows.flatten.length+rows.length≤szss (rows.map exRow)∧ ∀r∈rows,∀e∈r,e.OkS:=by
 obtain⟨es,rfl,hl,he⟩:=h.sl_inv (n:=24) (cts:= [.sl 34]) rfl
 obtain⟨rs,rfl,hv⟩:=map_of (f:=exRow) (Q:=fun _ r=>r.length≤szss (r.map Ex.c)∧ ∀e∈r,e.OkS) (fun e h=>by
  obtain⟨y,ys,rfl,h1,h2⟩:=(he e h).cons_inv
  obtain rfl:=h2.nil_inv
  obtain⟨l,rfl,h3,h4⟩:=fit_exl h1
  exact⟨l,rfl,h3,h4⟩)
 exact⟨rs,rfl,szss_rows (fun r hr=>(hv r hr).1),fun r hr=>(hv r hr).2⟩
theorem fit_ast{xs:List IV}(h:Fits book [.str,.int .i64,.int .i64,.int .i64,.str,.str,.str,.int .i64,.sl 34] xs): ∃x:Ast,xs=x.c∧x.e.OkS:=by
 obtain⟨y,ys,rfl,h1,h2⟩:=h.cons_inv
 obtain⟨s,rfl,_⟩:=h1.str_inv
 obtain⟨e,rfl,hok⟩:=fit_exS _ (Nat.le_refl _) h2
 exact⟨⟨s,e⟩,by rw[Ast.c,Ex.c_cs],hok⟩
theorem szs_el{x:IV}: ∀{xs:List IV},x∈xs→x.sz≤szs xs
 | [],h=>by cases h
 |y::xs,h=>by
  rw[szs]
  rcases List.mem_cons.1 h with rfl|h
  · exact Nat.le_add_right _ _
  · exact Nat.le_trans (szs_el h) (Nat.le_add_left _ _)
theorem szs_at{xs:List IV}{es:List (List IV)}(hz:szs xs≤1048576)(i:Nat)(h:xs[i]?=some (.sl es)):szss es≤1048576:=by
 have:=szs_el (List.mem_of_getElem? h)
 rw[IV.sz] at this
 exact Nat.le_trans (Nat.le_of_succ_le this) hz
theorem fit_stm{xs:List IV}(h:Fits book [.int .i64,.str,.str,.str,.sl 71,.sl 30,.sl 56,.sl 9,.sl 34,.int .i64,.int .i64,.int .i64,.str,.str,.str,.int .i64,.sl 34,.sl 34,.bool,.int .i64] xs)(hz:szs xs≤1048576):
 ∃s:Stm,xs=s.cs∧s.Ok:=by
 obtain⟨x1,xs,rfl,h1,h⟩:=h.cons_inv
 obtain⟨x2,xs,rfl,h2,h⟩:=h.cons_inv
 obtain⟨x3,xs,rfl,h3,h⟩:=h.cons_inv
 obtain⟨x4,xs,rfl,h4,h⟩:=h.cons_inv
 obtain⟨x5,xs,rfl,h5,h⟩:=h.cons_inv
 obtain⟨x6,xs,rfl,h6,h⟩:=h.cons_inv
 obtain⟨x7,xs,rfl,h7,h⟩:=h.cons_inv
 obtain⟨x8,xs,rfl,h8,h⟩:=h.cons_inv
 obtain⟨x9,xs,rfl,h9,h⟩:=h.cons_inv
 obtain⟨y1,xs,rfl,k1,h⟩:=h.cons_inv
 obtain⟨y2,xs,rfl,k2,h⟩:=h.cons_inv
 obtain⟨y3,xs,rfl,k3,h⟩:=h.cons_inv
 obtain⟨y4,xs,rfl,k4,h⟩:=h.cons_inv
 obtain⟨y5,xs,rfl,k5,h⟩:=h.cons_inv
 obtain⟨y6,xs,rfl,k6,h⟩:=h.cons_inv
 obtain⟨y7,xs,rfl,k7,h⟩:=h.cons_inv
 obtain⟨y8,xs,rfl,k8,h⟩:=h.cons_inv
 obtain⟨z1,xs,rfl,j1,h⟩:=h.cons_inv
 obtain⟨z2,xs,rfl,j2,h⟩:=h.cons_inv
 obtain⟨z3,xs,rfl,j3,h⟩:=h.cons_inv
 obtain rfl:=h.nil_inv
 have hr:reachBytes=140737488351232:=rfl
 obtain⟨kind,rfl,_⟩:=h1.int_inv
 obtain⟨name,rfl,l2⟩:=h2.str_inv
 obtain⟨table,rfl,l3⟩:=h3.str_inv
 obtain⟨col,rfl,l4⟩:=h4.str_inv
 obtain⟨es,rfl,l5,e5⟩:=h5.sl_inv (n:=32) (cts:= [.str,.int .i64,.bool]) rfl
 obtain⟨cols,rfl,c5⟩:=map_of (f:=Col.c) (Q:=fun _ v=>v.n.length≤140737488355328) (fun e h=>fit_col (e5 e h))
 rw[List.length_map] at l5
 obtain⟨rows,rfl,l6,c6⟩:=fit_rowsE h6
 obtain⟨es,rfl,l7,e7⟩:=h7.sl_inv (n:=120) (cts:= [.str,.int .i64,.int .i64,.int .i64,.str,.str,.str,.int .i64,.sl 34]) rfl
 obtain⟨sets,rfl,c7⟩:=map_of (f:=Ast.c) (Q:=fun _ v=>v.e.OkS) (fun e h=>fit_ast (e7 e h))
 have m7:=szss_len (es:=sets.map Ast.c) (fun e he=>by obtain⟨y,_,rfl⟩:=List.mem_map.1 he;exact Nat.succ_pos _)
 rw[List.length_map] at l7 m7
 obtain⟨es,rfl,l8,e8⟩:=h8.sl_inv (n:=16) (cts:= [.str]) rfl
 obtain⟨frm,rfl,c8⟩:=map_of (f:=Str.c) (Q:=fun _ v=>v.length≤140737488355328) (fun e h=>by
  obtain⟨y,ys,rfl,h1,h2⟩:=(e8 e h).cons_inv
  obtain rfl:=h2.nil_inv
  obtain⟨s,rfl,l⟩:=h1.str_inv
  exact⟨s,rfl,by omega⟩)
 rw[List.length_map] at l8
 obtain⟨out,rfl,m9,c9⟩:=fit_exl h9
 obtain⟨op,rfl,_⟩:=k1.int_inv
 obtain⟨vk,rfl,_⟩:=k2.int_inv
 obtain⟨vn,rfl,_⟩:=k3.int_inv
 obtain⟨vs,rfl,_⟩:=k4.str_inv
 obtain⟨ws,rfl,lw⟩:=k5.str_inv
 obtain⟨wn,rfl,lwn⟩:=k6.str_inv
 obtain⟨wi,rfl,_⟩:=k7.int_inv
 have k8':=k8
 obtain⟨es,rfl,l8w,_⟩:=k8'.sl_inv (n:=104) (cts:= [.int .i64,.int .i64,.int .i64,.str,.str,.str,.int .i64,.sl 34]) rfl
 obtain⟨wl,hwl,_,cw⟩:=fit_exl k8
 obtain rfl:es=wl.map Ex.c:=by injection hwl
 rw[List.length_map] at l8w
 obtain⟨ord,rfl,mo,co⟩:=fit_exl j1
 obtain⟨down,rfl⟩:=j2.bool_inv
 obtain⟨n,rfl,_⟩:=j3.int_inv
 have t1:szss (out.map Ex.c)≤1048576:=szs_at hz 8 rfl
 have t2:szss (ord.map Ex.c)≤1048576:=szs_at hz 17 rfl
 have t4:szss (rows.map exRow)≤1048576:=szs_at hz 5 rfl
 have t5:szss (sets.map Ast.c)≤1048576:=szs_at hz 6 rfl
 clear hz
 generalize szss (out.map Ex.c)=a1 at*
 generalize szss (ord.map Ex.c)=a2 at*
 generalize szss (rows.map exRow)=a4 at*
 generalize szss (sets.map Ast.c)=a5 at*
 have hwh:(Ex.mk op ⟨vk,vn,vs⟩ ws wn wi wl).OkS:= .mk (by omega) (by omega) (by omega) cw
 refine⟨⟨kind,name,table,col,cols,rows,sets,frm,out,.mk op ⟨vk,vn,vs⟩ ws wn wi wl,ord,down,n⟩,rfl,?_⟩
 refine⟨?_,?_,?_,?_,?_,fun e he=> ?_,hwh,?_,?_,?_,c5⟩
 · show(out.length+ord.length+rows.flatten.length+sets.length+1)*104≤140737488355328
   generalize rows.flatten.length=rl at*
   omega
 · show rows.length*24≤_
   generalize rows.flatten.length=rl at*
   omega
 · show sets.length*120≤_;omega
 · show cols.length≤_;omega
 · show frm.length≤_;omega
 · unfold exprsM at he
   simp only[List.mem_append,List.mem_flatten,List.mem_map] at he
   rcases he with(((he|he)|⟨r,hr1,he⟩)|⟨x,hx,rfl⟩)|he
   · exact c9 e he
   · exact co e he
   · exact c6 r hr1 e he
   · exact c7 x hx
   · split at he
     · simp at he
     · simp only[List.mem_singleton] at he;subst he;exact hwh
 · show name.length≤_;omega
 · show table.length≤_;omega
 · show col.length≤_;omega
end Go.Proofs.YthcjohcakdnmmaaGreatDoor
namespace Go.Proofs.YthcjohcakdnmmaaGreatDoor
open Go.Abs
set_option maxRecDepth 100000
attribute [local irreducible] L LF Code.wp bodyPost Exit.then Exit.inBlock
set_option linter.unusedVariables false
set_option linter.unusedSimpArgs false
set_option maxHeartbeats 16000000 in
theorem ordL{gs:Globs}(c:Cat)(s:Stm)(vd:IV)(O:List Ex)(hO: ∀x∈O,x.BS)(hOl:O.length*104≤140737488355328)(ts:List Tab)(hcl:(dcCols ts).length≤1000000)(hco:ColsOk (dcCols ts))(hu: ∀t∈ts,Uniq t){w0:World}{E0:Env}(hG:Glob gs E0 w0){Q2:Exit→Act→World→Prop}
 (hE:bindE ts O≠0→ ∀st' (l:List Ex),l.length=O.length→Wk ⟨512,w0,E0,[]⟩ st' (noSX c (bindE ts O) 802 l)→L ⟨512,w0,E0,[]⟩ st' (Q2 .ret))
 (hK0:bindE ts O=0→ ∀st',Wk ⟨512,w0,E0,[]⟩ st' ⟨[(2,.ptr 2 0),(3,.ptr 3 0),(4,.ptr 4 0),(6,.fn 31 []),(17,.iv (.sl ((dcCols ts).map colnC)))],[(2,⟨25,.l (c.c.map .iv)⟩),(3,⟨36,.l (stmA s (.iv (.sl (s.rows.map exRow))) (.iv (.sl (s.sets.map Ast.c))) (.iv vd) (.bsh 802 0 O.length 8))⟩),(4,⟨36,.l stm0A⟩),(802,⟨34,.r ((O.map (fun x=>(bindM ts x).1)).map Ex.c).flatten 0⟩)],[]⟩→L ⟨512,w0,E0,[]⟩ st' (Q2 .normal)):
 L ⟨512,w0,E0,[]⟩ ⟨[(466,aI 0),(465,aI (O.length:Int)),(464,.bsh 802 0 O.length 8),(2,.ptr 2 0),(3,.ptr 3 0),(4,.ptr 4 0),(6,.fn 31 []),(17,.iv (.sl ((dcCols ts).map colnC)))],[(2,⟨25,.l (c.c.map .iv)⟩),(3,⟨36,.l (stmA s (.iv (.sl (s.rows.map exRow))) (.iv (.sl (s.sets.map Ast.c))) (.iv vd) (.bsh 802 0 O.length 8))⟩),(4,⟨36,.l stm0A⟩),(802,⟨34,.r (O.map Ex.c).flatten 0⟩)],[]⟩ ((Code.loop (nav [1,1,1,1,1,1,1,1,1,1,1,1,0,1,0,1,1,1,1,1,1,1,0,1,1,1,1,1,1,1,0,0] ((Tryz.f7.body).getD .skip))).wp Tryz.prog (Exit.inBlock 23 Q2)):=by
 have kn: ∀e:Int,CallG gs Tryz.prog 31 ([aI e] ++ []) [] [] [] (.tup [.agg (nilSt.cs.map .iv),.iv (I e)]):=fun e=>no_any e
 refine L.loopP (ι:=Nat) (fun i=>⟨[(466,aI (i:Int)),(465,aI (O.length:Int)),(464,.bsh 802 0 O.length 8),(2,.ptr 2 0),(3,.ptr 3 0),(4,.ptr 4 0),(6,.fn 31 []),(17,.iv (.sl ((dcCols ts).map colnC)))],[(2,⟨25,.l (c.c.map .iv)⟩),(3,⟨36,.l (stmA s (.iv (.sl (s.rows.map exRow))) (.iv (.sl (s.sets.map Ast.c))) (.iv vd) (.bsh 802 0 O.length 8))⟩),(4,⟨36,.l stm0A⟩),(802,⟨34,.r (((O.take i).map (fun x=>(bindM ts x).1)++O.drop i).map Ex.c).flatten 0⟩)],[]⟩) (fun i=>O.length - i) (fun i=> ∀x∈O.take i,(bindM ts x).2.2=0) (i0:=0) ?_ (by simp) ?_
 · (refine Wk.mk' (keysA rfl) ?_ ?_ ?_<;>repeat' (first|exact WkF.nil|exact WkB.nil|exact WkT.nil|exact Subs.nil|(refine WkF.cons rfl (Sub.refl _) ?_)|(refine WkF.cons rfl (Sub.of_eq rfl) ?_)|(refine WkF.cons rfl (Sub.row _ _) ?_)|(refine WkF.cons rfl (Sub.of_eq (rfl)) ?_)|(refine WkB.cons rfl rfl (Subs.refl _) ?_)|(refine WkB.cons rfl rfl (subs20 rfl) ?_)|(refine WkB.cons rfl rfl (Subs.of_eq rfl) ?_)|(refine WkT.cons rfl ?_)))
 intro i hI K2 hK
 cases hx:O[i]? with
 |none=>
  have hlt:decide ((i:Int)<(O.length:Int))=false:=decide_eq_false (by have:=List.getElem?_eq_none_iff.1 hx;omega)
  have e1:=List.take_of_length_le (List.getElem?_eq_none_iff.1 hx)
  have e2:=List.drop_eq_nil_of_le (List.getElem?_eq_none_iff.1 hx)
  rw[e1] at hI
  rw[e1,e2,List.append_nil]
  have h0:bindE ts O=0:=errT_no hI
  have hK3:=hK0 h0
  clear hK hI hE hK0 e1 e2
  (repeat' (first|refine wk1 ?_|refine wk2 (fun hb hp=> ?_) (fun hb hp=> ?_)|fail))
  refine hK3 _ ?_
  (refine Wk.mk' (keysA rfl) ?_ ?_ ?_<;>repeat' (first|exact WkF.nil|exact WkB.nil|exact WkT.nil|exact Subs.nil|(refine WkF.cons rfl (Sub.refl _) ?_)|(refine WkF.cons rfl (Sub.of_eq rfl) ?_)|(refine WkF.cons rfl (Sub.row _ _) ?_)|(refine WkF.cons rfl (Sub.of_eq (rfl)) ?_)|(refine WkB.cons rfl rfl (Subs.refl _) ?_)|(refine WkB.cons rfl rfl (subs20 rfl) ?_)|(refine WkB.cons rfl rfl (Subs.of_eq rfl) ?_)|(refine WkT.cons rfl ?_)))
 |some x=>
  clear hK0
  have hil:i<O.length:=(List.getElem?_eq_some_iff.1 hx).1
  have hlt:decide ((i:Int)<(O.length:Int))=true:=decide_eq_true (by omega)
  have hlt':(i:Int)<(O.length:Int):=by omega
  have hix:(i:Int)+1≤9223372036854775807:=by omega
  have hxb:=hO x (List.mem_of_getElem? hx)
  have kb:=bindD_any (gs:=gs) (dcCols ts) hcl hco x hxb
  obtain⟨h1,h2⟩:=bind_same hu x hxb.ref
  have hxc:x.cs= [I x.op,I x.v.k,I x.v.n,S x.v.s,S x.s,S x.name,I x.n,.sl (x.l.map Ex.c)]:=by cases x;rfl
  rw[hxc] at kb
  have hti:((O.take i).map (fun x=>(bindM ts x).1)).length=i:=by rw[List.length_map,List.length_take];omega
  have hdr:O.drop i=x::O.drop (i+1):=by rw[←(List.getElem?_eq_some_iff.1 hx).2];exact List.drop_eq_getElem_cons hil
  have ge:(((O.take i).map (fun x=>(bindM ts x).1)++O.drop i).map Ex.c)[i]?=some [I x.op,I x.v.k,I x.v.n,S x.v.s,S x.s,S x.name,I x.n,.sl (x.l.map Ex.c)]:=by
   rw[List.getElem?_map,List.getElem?_append_right (by omega),hti,Nat.sub_self,hdr]
   exact congrArg some ((Ex.c_cs x).trans hxc)
  have k8: ∀e∈(((O.take i).map (fun x=>(bindM ts x).1)++O.drop i).map Ex.c),e.length=8:=map_len exl8 _
  have hel:(((O.take i).map (fun x=>(bindM ts x).1)++O.drop i).map Ex.c).length=O.length:=by rw[List.length_map,List.length_append,hti,List.length_drop];omega
  have hle: ∃l:List Ex,l.length=O.length∧(((O.take i).map (fun x=>(bindM ts x).1)++O.drop i).map Ex.c)=l.map Ex.c:=⟨_,by rw[List.length_append,hti,List.length_drop];omega,rfl⟩
  have hst:(((O.take i).map (fun x=>(bindM ts x).1)++O.drop i).map Ex.c).set i ((bindM ts x).1.cs)=(((O.take (i+1)).map (fun x=>(bindM ts x).1)++O.drop (i+1)).map Ex.c):=by
   rw[←Ex.c_cs,←List.map_set,List.set_append_right _ _ (by omega),hti,Nat.sub_self,hdr,List.set_cons_zero,takeA hx]
   simp only[List.map_append,List.append_assoc,List.map_cons,List.map_nil,List.cons_append,List.nil_append]
  have ho1:(0+((i:Int)).toNat)*8=i*8:=by simp
  have hp0:(0:Int)≤(i:Int):=by omega
  by_cases hf:(bindM ts x).2.2=0
  · have hI':=take_snocE (g:=fun x=>(bindM ts x).2.2) hI hx hf
    rw[h2 hf] at kb
    clear hE hI h1 h2 hle hti hdr hO hco hu
    have hec:(bindM ts x).1.cs= [I (bindM ts x).1.op,I (bindM ts x).1.v.k,I (bindM ts x).1.v.n,S (bindM ts x).1.v.s,S (bindM ts x).1.s,S (bindM ts x).1.name,I (bindM ts x).1.n,.sl ((bindM ts x).1.l.map Ex.c)]:=by cases(bindM ts x).1;rfl
    rw[hec] at kb hst
    generalize bindM ts x=r at*
    obtain⟨e,ty,f⟩:=r
    dsimp only at hf kb hst
    subst hf
    generalize (((O.take i).map (fun x=>(bindM ts x).1)++O.drop i).map Ex.c)=es at*
    have hil2:i<es.length:=by omega
    (repeat' (first|(refine LW.is ?_;first|(apply s_vr;exact rfl;apply v_indexBsh;exact rfl;exact rfl;exact hp0;exact hlt';exact ho1)|(apply s_vr;exact rfl;apply v_loadAR (es:=es) (k:=8) (i:=i);exact rfl;exact rfl;exact k8;exact rfl;exact ge;exact rfl)|(apply s_storeR (es:=es) (i:=i) (e:= [I e.op,I e.v.k,I e.v.n,S e.v.s,S e.s,S e.name,I e.n,.sl (e.l.map Ex.c)]);exact rfl;exact rfl;exact rfl;exact rfl;exact rfl;exact rfl;exact k8;exact rfl;exact hil2;exact rfl))|(refine DR.is ?_;first|(apply d_vr;exact rfl;apply v_indexBsh;exact rfl;exact rfl;exact hp0;exact hlt';exact ho1)|(apply d_vr;exact rfl;apply v_loadAR (es:=es) (k:=8) (i:=i);exact rfl;exact rfl;exact k8;exact rfl;exact ge;exact rfl)|(apply d_storeR (es:=es) (i:=i) (e:= [I e.op,I e.v.k,I e.v.n,S e.v.s,S e.s,S e.name,I e.n,.sl (e.l.map Ex.c)]);exact rfl;exact rfl;exact rfl;exact rfl;exact rfl;exact rfl;exact k8;exact rfl;exact hil2;exact rfl))|refine wk1 ?_|refine wk2 (fun hb hp=> ?_) (fun hb hp=> ?_)|fail))
    refine hK _ (i+1) hI' (by omega) ?_
    rw[←hst]
    (refine Wk.mk' (keysA rfl) ?_ ?_ ?_<;>repeat' (first|exact WkF.nil|exact WkB.nil|exact WkT.nil|exact Subs.nil|(refine WkF.cons rfl (Sub.refl _) ?_)|(refine WkF.cons rfl (Sub.of_eq rfl) ?_)|(refine WkF.cons rfl (Sub.row _ _) ?_)|(refine WkF.cons rfl (Sub.of_eq (rfl)) ?_)|(refine WkB.cons rfl rfl (Subs.refl _) ?_)|(refine WkB.cons rfl rfl (subs20 rfl) ?_)|(refine WkB.cons rfl rfl (Subs.of_eq rfl) ?_)|(refine WkT.cons rfl ?_)))
  · have hee:bindE ts O=(bindM ts x).2.2:=err_at hI hx hf
    rw[hee] at hE
    have hE2:=hE hf
    rw[←h1] at hf hE2
    clear hE hK hI h1 h2 hst hti hdr hO hco hu hee
    obtain⟨l,hl1,hl2⟩:=hle
    rw[hl2] at ge k8⊢
    generalize dcBind (dcCols ts) x=r at*
    obtain⟨e,ty,f⟩:=r
    dsimp only at hf kb hE2
    have q:(f !=0)=true:=by simpa using hf
    have hec:e.cs= [I e.op,I e.v.k,I e.v.n,S e.v.s,S e.s,S e.name,I e.n,.sl (e.l.map Ex.c)]:=by cases e;rfl
    rw[hec] at kb
    (repeat' (first|(apply s_callFnW [] (f:=31) (avs:= [aI f]) (caps:= []) (bxi:= []);exact rfl;exact hG;exact rfl;exact kn f;exact Subs.of_eq rfl;exact .nil;exact rfl;exact rfl;exact rfl;exact rfl)|(refine LW.is ?_;first|(apply s_vr;exact rfl;apply v_indexBsh;exact rfl;exact rfl;exact hp0;exact hlt';exact ho1)|(apply s_vr;exact rfl;apply v_loadAR (es:=l.map Ex.c) (k:=8) (i:=i);exact rfl;exact rfl;exact k8;exact rfl;exact ge;exact rfl))|(refine DR.is ?_;first|(apply d_vr;exact rfl;apply v_indexBsh;exact rfl;exact rfl;exact hp0;exact hlt';exact ho1)|(apply d_vr;exact rfl;apply v_loadAR (es:=l.map Ex.c) (k:=8) (i:=i);exact rfl;exact rfl;exact k8;exact rfl;exact ge;exact rfl))|refine wk1 ?_|refine wk2 (fun hb hp=> ?_) (fun hb hp=> ?_)|fail))
    refine hE2 _ l hl1 ?_
    (refine Wk.mk' (keysA rfl) ?_ ?_ ?_<;>repeat' (first|exact WkF.nil|exact WkB.nil|exact WkT.nil|exact Subs.nil|(refine WkF.cons rfl (Sub.refl _) ?_)|(refine WkF.cons rfl (Sub.of_eq rfl) ?_)|(refine WkF.cons rfl (Sub.row _ _) ?_)|(refine WkF.cons rfl (Sub.of_eq (rfl)) ?_)|(refine WkB.cons rfl rfl (Subs.refl _) ?_)|(refine WkB.cons rfl rfl (subs20 rfl) ?_)|(refine WkB.cons rfl rfl (Subs.of_eq rfl) ?_)|(refine WkT.cons rfl ?_)))
theorem ordL0(c:Cat)(s:Stm)(vo:IV)(cs:List (Str×Col)){w0:World}{E0:Env}{Q2:Exit→Act→World→Prop}
 (hK0: ∀st',Wk ⟨512,w0,E0,[]⟩ st' ⟨[(2,.ptr 2 0),(3,.ptr 3 0),(4,.ptr 4 0),(6,.fn 31 []),(17,.iv (.sl (cs.map colnC)))],[(2,⟨25,.l (c.c.map .iv)⟩),(3,⟨36,.l (stmA s (.iv (.sl (s.rows.map exRow))) (.iv (.sl (s.sets.map Ast.c))) (.iv vo) .nils)⟩),(4,⟨36,.l stm0A⟩)],[]⟩→L ⟨512,w0,E0,[]⟩ st' (Q2 .normal)):
 L ⟨512,w0,E0,[]⟩ ⟨[(466,aI 0),(465,aI 0),(464,.nils),(2,.ptr 2 0),(3,.ptr 3 0),(4,.ptr 4 0),(6,.fn 31 []),(17,.iv (.sl (cs.map colnC)))],[(2,⟨25,.l (c.c.map .iv)⟩),(3,⟨36,.l (stmA s (.iv (.sl (s.rows.map exRow))) (.iv (.sl (s.sets.map Ast.c))) (.iv vo) .nils)⟩),(4,⟨36,.l stm0A⟩)],[]⟩ ((Code.loop (nav [1,1,1,1,1,1,1,1,1,1,1,1,0,1,0,1,1,1,1,1,1,1,0,1,1,1,1,1,1,1,0,0] ((Tryz.f7.body).getD .skip))).wp Tryz.prog (Exit.inBlock 23 Q2)):=by
 refine L.loopP (ι:=Unit) (fun _=>⟨[(466,aI 0),(465,aI 0),(464,.nils),(2,.ptr 2 0),(3,.ptr 3 0),(4,.ptr 4 0),(6,.fn 31 []),(17,.iv (.sl (cs.map colnC)))],[(2,⟨25,.l (c.c.map .iv)⟩),(3,⟨36,.l (stmA s (.iv (.sl (s.rows.map exRow))) (.iv (.sl (s.sets.map Ast.c))) (.iv vo) .nils)⟩),(4,⟨36,.l stm0A⟩)],[]⟩) (fun _=>0) (fun _=>True) (i0:=()) ?_ trivial ?_
 · (refine Wk.mk' (keysA rfl) ?_ ?_ ?_<;>repeat' (first|exact WkF.nil|exact WkB.nil|exact WkT.nil|exact Subs.nil|(refine WkF.cons rfl (Sub.refl _) ?_)|(refine WkF.cons rfl (Sub.of_eq rfl) ?_)|(refine WkF.cons rfl (Sub.row _ _) ?_)|(refine WkF.cons rfl (Sub.of_eq (rfl)) ?_)|(refine WkB.cons rfl rfl (Subs.refl _) ?_)|(refine WkB.cons rfl rfl (subs20 rfl) ?_)|(refine WkB.cons rfl rfl (Subs.of_eq rfl) ?_)|(refine WkT.cons rfl ?_)))
 intro _ _ K2 hK
 clear hK
 (repeat' (first|refine wk1 ?_|refine wk2 (fun hb hp=> ?_) (fun hb hp=> ?_)|fail))
 refine hK0 _ ?_
 (refine Wk.mk' (keysA rfl) ?_ ?_ ?_<;>repeat' (first|exact WkF.nil|exact WkB.nil|exact WkT.nil|exact Subs.nil|(refine WkF.cons rfl (Sub.refl _) ?_)|(refine WkF.cons rfl (Sub.of_eq rfl) ?_)|(refine WkF.cons rfl (Sub.row _ _) ?_)|(refine WkF.cons rfl (Sub.of_eq (rfl)) ?_)|(refine WkB.cons rfl rfl (Subs.refl _) ?_)|(refine WkB.cons rfl rfl (subs20 rfl) ?_)|(refine WkB.cons rfl rfl (Subs.of_eq rfl) ?_)|(refine WkT.cons rfl ?_)))
end Go.Proofs.YthcjohcakdnmmaaGreatDoor
namespace Go.Proofs.YthcjohcakdnmmaaGreatDoor
open Go.Abs
set_option maxRecDepth 100000
attribute [local irreducible] L LF Code.wp bodyPost Exit.then Exit.inBlock
set_option linter.unusedVariables false
set_option linter.unusedSimpArgs false
set_option maxHeartbeats 32000000 in
theorem k7d{gs:Globs}(c:Cat)(s:Stm)(O:List Ex)(hOne:O≠ [])(vD:IV)(GD:List Rw)(hD:OwnL 34 8 vD GD (s.ord.map Ex.c))(hDb: ∀x∈s.ord,x.BS)(hDl:s.ord.length*104≤140737488355328)(ts:List Tab)(hcl:(dcCols ts).length≤1000000)(hco:ColsOk (dcCols ts))(hu: ∀t∈ts,Uniq t)(hw:s.wh.op=0∨s.wh.BS){w0:World}{E0:Env}(hG:Glob gs E0 w0)(R:Stm×Int)
 (hR1:bindE ts s.ord≠0→R=(nilSt,bindE ts s.ord)) (hR2:bindE ts s.ord=0→R=tailM ts {s with out:=O,ord:=s.ord.map (fun x=>(bindM ts x).1)}):
 LF ⟨512,w0,E0,[]⟩ GD ⟨[(2,.ptr 2 0),(3,.ptr 3 0),(4,.ptr 4 0),(6,.fn 31 []),(17,.iv (.sl ((dcCols ts).map colnC)))],[(2,⟨25,.l (c.c.map .iv)⟩),(3,⟨36,.l (stmA s (.iv (.sl (s.rows.map exRow))) (.iv (.sl (s.sets.map Ast.c))) (.bsh 801 0 O.length 8) (.iv vD))⟩),(4,⟨36,.l stm0A⟩),(801,⟨34,.r (O.map Ex.c).flatten 0⟩)],[]⟩ (Code.wp Tryz.prog (nav [1,1,1,1,1,1,1,1,1,1,1,1,0,1,0,1,1,1,1,1,1,1,0,1,1,1,1,1,1] ((Tryz.f7.body).getD .skip)) (Exit.inBlock 6 (Exit.then (Code.wp Tryz.prog (dropSeq 13 ((Tryz.f7.body).getD .skip)) (bodyPost Tryz.prog Tryz.f7 (Post ⟨512,w0,E0,[]⟩ [] [] (.tup [.agg (R.1.cs.map .iv),.iv (I R.2)])))) (bodyPost Tryz.prog Tryz.f7 (Post ⟨512,w0,E0,[]⟩ [] [] (.tup [.agg (R.1.cs.map .iv),.iv (I R.2)])))))):=by
 have hOp:0<O.length:=List.length_pos_iff.2 hOne
 rcases hD with⟨h0,rfl,rfl⟩|⟨r,rfl,rfl,h1,h2,h3,h4,h5⟩
 · have ho:s.ord= []:=List.map_eq_nil_iff.1 h0
   have hR:=hR2 (by rw[ho];rfl)
   clear hR1 hR2
   refine LF.pubO 3 8 801 (t:=34) (es:=O.map Ex.c) (k:=8) (n:=O.length) (m:=0) rfl rfl rfl rfl (by decide) (map_len exl8 _) (by decide) (List.length_map _) hOp rfl ?_
   refine LF.drop ?_
   refine L.wk (st':=⟨[(2,.ptr 2 0),(3,.ptr 3 0),(4,.ptr 4 0),(6,.fn 31 []),(17,.iv (.sl ((dcCols ts).map colnC)))],[(2,⟨25,.l (c.c.map .iv)⟩),(3,⟨36,.l (stmA s (.iv (.sl (s.rows.map exRow))) (.iv (.sl (s.sets.map Ast.c))) (.iv (.sl (O.map Ex.c))) .nils)⟩),(4,⟨36,.l stm0A⟩)],[]⟩) ?_ ?_
   · (refine Wk.mk' (by intro id h;cases h) ?_ ?_ ?_<;>repeat' (first|exact WkF.nil|exact WkB.nil|exact WkT.nil|exact Subs.nil|(refine WkF.cons rfl (Sub.refl _) ?_)|(refine WkF.cons rfl (Sub.of_eq rfl) ?_)|(refine WkF.cons rfl nilI_out ?_)|(refine WkF.cons rfl (Sub.row _ _) ?_)|(refine WkB.cons rfl rfl (Subs.refl _) ?_)|(refine WkB.cons rfl rfl (subs20 rfl) ?_)|(refine WkB.cons rfl rfl (Subs.of_eq rfl) ?_)|(refine WkB.cons rfl rfl ?_ ?_)|(refine Subs.cons (Sub.refl _) ?_)|(refine Subs.cons (Sub.of_eq rfl) ?_)|(refine Subs.cons nilI_out ?_)|(refine Subs.cons (nilI_out.trans (Sub.nils)) ?_)|(refine Subs.cons Sub.nils ?_)|(refine WkT.cons rfl ?_)))
   (repeat' (first|refine wk1 ?_|refine wk2 (fun hb hp=> ?_) (fun hb hp=> ?_)|fail))
   refine L.wk ?_ (ordL0 c s (.sl (O.map Ex.c)) (dcCols ts) (fun st' hw'=> ?_))
   · (refine Wk.mk' (by intro id h;cases h) ?_ ?_ ?_<;>repeat' (first|exact WkF.nil|exact WkB.nil|exact WkT.nil|exact Subs.nil|(refine WkF.cons rfl (Sub.refl _) ?_)|(refine WkF.cons rfl (Sub.of_eq rfl) ?_)|(refine WkF.cons rfl nilI_out ?_)|(refine WkF.cons rfl (Sub.row _ _) ?_)|(refine WkB.cons rfl rfl (Subs.refl _) ?_)|(refine WkB.cons rfl rfl (subs20 rfl) ?_)|(refine WkB.cons rfl rfl (Subs.of_eq rfl) ?_)|(refine WkB.cons rfl rfl ?_ ?_)|(refine Subs.cons (Sub.refl _) ?_)|(refine Subs.cons (Sub.of_eq rfl) ?_)|(refine Subs.cons nilI_out ?_)|(refine Subs.cons (nilI_out.trans (Sub.nils)) ?_)|(refine Subs.cons Sub.nils ?_)|(refine WkT.cons rfl ?_)))
   refine L.wk hw' ?_
   refine L.inN (L.thenN ?_)
   have ht:=tailW c {s with out:=O,ord:=s.ord.map (fun x=>(bindM ts x).1)} ts hcl hco hu hw hG
   rw[←hR] at ht
   refine L.wk ?_ ht
   rw[ho]
   (refine Wk.mk' (by intro id h;cases h) ?_ ?_ ?_<;>repeat' (first|exact WkF.nil|exact WkB.nil|exact WkT.nil|exact Subs.nil|(refine WkF.cons rfl (Sub.refl _) ?_)|(refine WkF.cons rfl (Sub.of_eq rfl) ?_)|(refine WkF.cons rfl nilI_out ?_)|(refine WkF.cons rfl (Sub.row _ _) ?_)|(refine WkB.cons rfl rfl (Subs.refl _) ?_)|(refine WkB.cons rfl rfl (subs20 rfl) ?_)|(refine WkB.cons rfl rfl (Subs.of_eq rfl) ?_)|(refine WkB.cons rfl rfl ?_ ?_)|(refine Subs.cons (Sub.refl _) ?_)|(refine Subs.cons (Sub.of_eq rfl) ?_)|(refine Subs.cons nilI_out ?_)|(refine Subs.cons (nilI_out.trans (Sub.nils)) ?_)|(refine Subs.cons Sub.nils ?_)|(refine WkT.cons rfl ?_)))
 · obtain⟨t,b,n,cap,k,xs⟩:=r
   dsimp only at h1 h2 h3 h4
   subst h1 h2 h3 h4
   have hDp:0<(s.ord.map Ex.c).length:=List.length_pos_iff.2 h5
   refine LF.openB 3 17 802 (F1:= []) (F2:= []) rfl rfl rfl rfl (Nat.succ_pos 7) hDp rfl ?_
   refine LF.pubO 3 8 801 (t:=34) (es:=O.map Ex.c) (k:=8) (n:=O.length) (m:=0) rfl rfl rfl rfl (by decide) (map_len exl8 _) (by decide) (List.length_map _) hOp rfl ?_
   refine LF.drop ?_
   have hdl:(s.ord.map Ex.c).length=s.ord.length:=List.length_map _
   rw[hdl]
   refine L.wk (st':=⟨[(2,.ptr 2 0),(3,.ptr 3 0),(4,.ptr 4 0),(6,.fn 31 []),(17,.iv (.sl ((dcCols ts).map colnC)))],[(2,⟨25,.l (c.c.map .iv)⟩),(3,⟨36,.l (stmA s (.iv (.sl (s.rows.map exRow))) (.iv (.sl (s.sets.map Ast.c))) (.iv (.sl (O.map Ex.c))) (.bsh 802 0 s.ord.length 8))⟩),(4,⟨36,.l stm0A⟩),(802,⟨34,.r (s.ord.map Ex.c).flatten 0⟩)],[]⟩) ?_ ?_
   · (refine Wk.mk' (by intro id h;cases h) ?_ ?_ ?_<;>repeat' (first|exact WkF.nil|exact WkB.nil|exact WkT.nil|exact Subs.nil|(refine WkF.cons rfl (Sub.refl _) ?_)|(refine WkF.cons rfl (Sub.of_eq rfl) ?_)|(refine WkF.cons rfl nilI_out ?_)|(refine WkF.cons rfl (Sub.row _ _) ?_)|(refine WkB.cons rfl rfl (Subs.refl _) ?_)|(refine WkB.cons rfl rfl (subs20 rfl) ?_)|(refine WkB.cons rfl rfl (Subs.of_eq rfl) ?_)|(refine WkB.cons rfl rfl ?_ ?_)|(refine Subs.cons (Sub.refl _) ?_)|(refine Subs.cons (Sub.of_eq rfl) ?_)|(refine Subs.cons nilI_out ?_)|(refine Subs.cons (nilI_out.trans (Sub.nils)) ?_)|(refine Subs.cons Sub.nils ?_)|(refine WkT.cons rfl ?_)))
   (repeat' (first|refine wk1 ?_|refine wk2 (fun hb hp=> ?_) (fun hb hp=> ?_)|fail))
   refine L.wk ?_ (ordL c s (.sl (O.map Ex.c)) s.ord hDb hDl ts hcl hco hu hG (fun he st' l hl hw'=> ?_) (fun he st' hw'=> ?_))
   · (refine Wk.mk' (by intro id h;cases h) ?_ ?_ ?_<;>repeat' (first|exact WkF.nil|exact WkB.nil|exact WkT.nil|exact Subs.nil|(refine WkF.cons rfl (Sub.refl _) ?_)|(refine WkF.cons rfl (Sub.of_eq rfl) ?_)|(refine WkF.cons rfl nilI_out ?_)|(refine WkF.cons rfl (Sub.row _ _) ?_)|(refine WkB.cons rfl rfl (Subs.refl _) ?_)|(refine WkB.cons rfl rfl (subs20 rfl) ?_)|(refine WkB.cons rfl rfl (Subs.of_eq rfl) ?_)|(refine WkB.cons rfl rfl ?_ ?_)|(refine Subs.cons (Sub.refl _) ?_)|(refine Subs.cons (Sub.of_eq rfl) ?_)|(refine Subs.cons nilI_out ?_)|(refine Subs.cons (nilI_out.trans (Sub.nils)) ?_)|(refine Subs.cons Sub.nils ?_)|(refine WkT.cons rfl ?_)))
   · have hR:=hR1 he
     rw[hR]
     refine L.wk hw' ?_
     clear hR hR1 hR2 hw'
     repeat (first|refine L.inR ?_|refine L.thenR ?_)
     unfold noSX
     refine wkf ?_
     all_goals rfl
   · have hR:=hR2 he
     clear hR1 hR2
     refine L.wk hw' ?_
     refine L.inN (L.thenN ?_)
     refine LF.start ?_
     rw[hdl] at hDp
     refine LF.pubO 3 17 802 (t:=34) (es:=(s.ord.map (fun x=>(bindM ts x).1)).map Ex.c) (k:=8) (n:=s.ord.length) (m:=0) rfl rfl rfl rfl (by decide) (map_len exl8 _) (by decide) (by rw[List.length_map,List.length_map]) hDp rfl ?_
     refine LF.drop ?_
     have ht:=tailW c {s with out:=O,ord:=s.ord.map (fun x=>(bindM ts x).1)} ts hcl hco hu hw hG
     rw[←hR] at ht
     refine L.wk ?_ ht
     (refine Wk.mk' (by intro id h;cases h) ?_ ?_ ?_<;>repeat' (first|exact WkF.nil|exact WkB.nil|exact WkT.nil|exact Subs.nil|(refine WkF.cons rfl (Sub.refl _) ?_)|(refine WkF.cons rfl (Sub.of_eq rfl) ?_)|(refine WkF.cons rfl nilI_out ?_)|(refine WkF.cons rfl (Sub.row _ _) ?_)|(refine WkB.cons rfl rfl (Subs.refl _) ?_)|(refine WkB.cons rfl rfl (subs20 rfl) ?_)|(refine WkB.cons rfl rfl (Subs.of_eq rfl) ?_)|(refine WkB.cons rfl rfl ?_ ?_)|(refine Subs.cons (Sub.refl _) ?_)|(refine Subs.cons (Sub.of_eq rfl) ?_)|(refine Subs.cons nilI_out ?_)|(refine Subs.cons (nilI_out.trans (Sub.nils)) ?_)|(refine Subs.cons Sub.nils ?_)|(refine WkT.cons rfl ?_)))
end Go.Proofs.YthcjohcakdnmmaaGreatDoor
