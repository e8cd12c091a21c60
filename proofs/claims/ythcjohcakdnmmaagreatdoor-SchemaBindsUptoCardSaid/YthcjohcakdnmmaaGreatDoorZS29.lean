/- Several texts in one, each with its own sentence ahead of it. Conditions: each one says its own. -/
import Derived.Test.YthcjohcakdnmmaaGreatDoorZS20
import Derived.Test.YthcjohcakdnmmaaGreatDoorZS26
import Derived.Test.YthcjohcakdnmmaaGreatDoorZS27
set_option linter.all false
namespace Go.Abs
theorem v_gtrG{P:Program}{c:Ctx}{fr:List (Nat×AV)}{bx:List (Nat×Box)}{tk:List (Nat×Tok)}{d:Nat}{ty:TypeId}{pos:String}{aft:Array Edge}{x y:Operand}{t t':TypeId}{m n:List UInt8}{g:Bool}(hg:Go.Proofs.YthcjohcakdnmmaaGreatDoor.Hid ((!(Op.bytesLess m n||m==n))=g))(hx:St.ev ⟨fr,bx,tk⟩ x=aS m)(hy:St.ev ⟨fr,bx,tk⟩ y=aS n):VV P c ⟨fr,bx,tk⟩ ⟨some d,.binOp .gtr t x y t',ty,pos,aft,none⟩ (aB g) []:=by
 rw[←hg.out];exact v_gtrS hx hy
end Go.Abs
namespace Go.Proofs.YthcjohcakdnmmaaGreatDoor
open Go.Abs
set_option maxRecDepth 100000
attribute [local irreducible] L Code.wp bodyPost Exit.then Exit.inBlock
set_option linter.unusedVariables false
set_option linter.unusedSimpArgs false
@[reducible] def dropSeq:Nat→Code→Code
  |0,x=>x
  |n+1,.seq _ y=>dropSeq n y
  |_+1,x=>x
set_option maxRecDepth 100000 in
set_option maxHeartbeats 8000000 in
theorem catRest{gs:Globs}(m:Int)(hgm:maxG m∈gs)(c:Cat)(hok:c.Ok)(b1:Bool){w0:World}{E0:Env}(hG:Glob gs E0 w0):L ⟨82,w0,E0,[]⟩ ⟨[(1,.ptr 1 0),(3,aB b1)],[(1,⟨25,.l [.iv (.sl (c.ts.map Tab.c)),.iv (.sl (c.is.map Idx.c))]⟩)],[]⟩ (Code.wp Tryz.prog (dropSeq 4 ((Tryz.f10.body).getD .skip)) (bodyPost Tryz.prog Tryz.f10 (Post ⟨82,w0,E0,[]⟩ [] [] (aB (b1 && c.is.zipIdx.all (fun p=>idxR c p.2 p.1)))))):=by
 have hok':=hok
 obtain⟨ht,hi,hts,his⟩:=hok
 (repeat' (first|refine wk1 ?_|refine wk2 (fun hb hp=> ?_) (fun hb hp=> ?_)|fail))
 refine L.loopP (ι:=Nat) (fun i=>⟨[(45,aI (i:Int)),(44,aI ((c.is.map Idx.c).length:Int)),(43,.iv (.sl (c.is.map Idx.c))),(1,.ptr 1 0),(4,aS (lastX c i)),(3,aB (b1 && (c.is.take i).zipIdx.all (fun p=>idxR c p.2 p.1)))],[(1,⟨25,.l [.iv (.sl (c.ts.map Tab.c)),.iv (.sl (c.is.map Idx.c))]⟩)],[]⟩) (fun i=>c.is.length - i) (fun i=>True) (i0:=0) ?_ trivial ?_
 · refine Wk.mk' (by intro id h;cases h) (.cons rfl (Sub.refl _) (.cons rfl (Sub.refl _) (.cons rfl (Sub.refl _) (.cons rfl (Sub.refl _) (.cons rfl (Sub.refl _) (.cons rfl (Sub.of_eq (congrArg aB ?_)) .nil)))))) (.cons rfl rfl (Subs.refl _) .nil) .nil
   simp only[List.take_zero,List.zipIdx_nil,List.all_nil,Bool.and_true]
 intro i _ K hK
 cases hx:c.is[i]? with
 |none=>
  have hlt:=ltF (l:=c.is.map Idx.c) (getFN hx)
  rw[take_all hx]
  clear hK
  generalize (b1 && c.is.zipIdx.all (fun p=>idxR c p.2 p.1))=b2
  (repeat' (first|refine wk1 ?_|refine wk2 (fun hb hp=> ?_) (fun hb hp=> ?_)|fail))
  all_goals refine wkf ?_
  all_goals rfl
 |some y=>
  have hlt:=ltT (l:=c.is.map Idx.c) (getF (f:=Idx.c) hx)
  have hlt':=ltN hx
  have g1:(c.is.map Idx.c)[((i:Nat):Int).toNat]?=some [S y.n,S y.tb,S y.co]:=by rw[Int.toNat_natCast,List.getElem?_map,hx];rfl
  have ky:=isName_any m hgm y.n (his y (List.mem_of_getElem? hx))
  have kt:=tableOf_any c y.tb ht
  have kf:=colOf_any (findT c y.tb).1 y.co (findT_ok hok' y.tb).l
  have hst:=all_step (fun p=>idxR c p.2 p.1) hx
  have hla:lastX c (i+1)=y.n:=by
   rw[lastX,if_neg (by omega),Nat.add_sub_cancel,List.getD_eq_getElem?_getD,hx];rfl
  have hid:idxR c i y=((findT c y.tb).2 && (namedM y.n && (Op.bytesLess (lastX c i) y.n && decide (0≤colM (findT c y.tb).1 y.co)))):=rfl
  rw[←gtS] at hid
  generalize idxR c i y=IR at*
  generalize findT c y.tb=ft at*
  obtain⟨tt,is⟩:=ft
  generalize lastX c i=la at*
  generalize hgt:(!(Op.bytesLess y.n la||y.n==la))=gt at hid
  replace hgt:=Hid.mk hgt
  generalize hB:(b1 && (c.is.take i).zipIdx.all (fun p=>idxR c p.2 p.1))=B
  have hst2:(b1 && (c.is.take (i+1)).zipIdx.all (fun p=>idxR c p.2 p.1))=(B && IR):=by rw[hst,←Bool.and_assoc,hB]
  replace hst2:=Hid.mk hst2
  clear hst hB hok' hts his
  replace hid:=Hid.mk hid
  generalize namedM y.n=nb at*
  generalize colM tt y.co=cm at*
  dsimp only at kt kf hid
  cases B with
  |false=>
   clear ky kf hgt
   (repeat' (first|refine wk1 ?_|refine wk2 (fun hb hp=> ?_) (fun hb hp=> ?_)|fail))
   refine hK _ (i+1) trivial (by omega) (Wk.mk' (by intro id h;cases h) (.cons rfl (Sub.refl _) (.cons rfl (Sub.refl _) (.cons rfl (Sub.refl _) (.cons rfl (Sub.refl _) (.cons rfl (Sub.of_eq (congrArg aS hla.symm)) (.cons rfl (Sub.of_eq (congrArg aB ?_)) .nil)))))) (.cons rfl rfl (Subs.refl _) .nil) .nil)
   rw[hst2.out,hid.out];rfl
  |true=>
  cases is with
  |false=>
   clear ky kf hgt
   (repeat' (first|refine wk1 ?_|refine wk2 (fun hb hp=> ?_) (fun hb hp=> ?_)|fail))
   refine hK _ (i+1) trivial (by omega) (Wk.mk' (by intro id h;cases h) (.cons rfl (Sub.refl _) (.cons rfl (Sub.refl _) (.cons rfl (Sub.refl _) (.cons rfl (Sub.refl _) (.cons rfl (Sub.of_eq (congrArg aS hla.symm)) (.cons rfl (Sub.of_eq (congrArg aB ?_)) .nil)))))) (.cons rfl rfl (Subs.refl _) .nil) .nil)
   rw[hst2.out,hid.out];rfl
  |true=>
  cases nb with
  |false=>
   clear kf hgt
   (repeat' (first|refine wk1 ?_|refine wk2 (fun hb hp=> ?_) (fun hb hp=> ?_)|fail))
   refine hK _ (i+1) trivial (by omega) (Wk.mk' (by intro id h;cases h) (.cons rfl (Sub.refl _) (.cons rfl (Sub.refl _) (.cons rfl (Sub.refl _) (.cons rfl (Sub.refl _) (.cons rfl (Sub.of_eq (congrArg aS hla.symm)) (.cons rfl (Sub.of_eq (congrArg aB ?_)) .nil)))))) (.cons rfl rfl (Subs.refl _) .nil) .nil)
   rw[hst2.out,hid.out];rfl
  |true=>
  cases gt with
  |false=>
   clear kf
   (repeat' (first|(refine LW.is ?_;first|(apply s_vr;exact rfl;apply v_gtrG hgt;exact rfl;exact rfl))|(refine DR.is ?_;first|(apply d_vr;exact rfl;apply v_gtrG hgt;exact rfl;exact rfl))|refine wk1 ?_|refine wk2 (fun hb hp=> ?_) (fun hb hp=> ?_)|fail))
   refine hK _ (i+1) trivial (by omega) (Wk.mk' (by intro id h;cases h) (.cons rfl (Sub.refl _) (.cons rfl (Sub.refl _) (.cons rfl (Sub.refl _) (.cons rfl (Sub.refl _) (.cons rfl (Sub.of_eq (congrArg aS hla.symm)) (.cons rfl (Sub.of_eq (congrArg aB ?_)) .nil)))))) (.cons rfl rfl (Subs.refl _) .nil) .nil)
   rw[hst2.out,hid.out];rfl
  |true=>
   (repeat' (first|(refine LW.is ?_;first|(apply s_vr;exact rfl;apply v_gtrG hgt;exact rfl;exact rfl))|(refine DR.is ?_;first|(apply d_vr;exact rfl;apply v_gtrG hgt;exact rfl;exact rfl))|refine wk1 ?_|refine wk2 (fun hb hp=> ?_) (fun hb hp=> ?_)|fail))
   refine hK _ (i+1) trivial (by omega) (Wk.mk' (by intro id h;cases h) (.cons rfl (Sub.refl _) (.cons rfl (Sub.refl _) (.cons rfl (Sub.refl _) (.cons rfl (Sub.refl _) (.cons rfl (Sub.of_eq (congrArg aS hla.symm)) (.cons rfl (Sub.of_eq (congrArg aB ?_)) .nil)))))) (.cons rfl rfl (Subs.refl _) .nil) .nil)
   rw[hst2.out,hid.out];rfl
end Go.Proofs.YthcjohcakdnmmaaGreatDoor
namespace Go.Proofs.YthcjohcakdnmmaaGreatDoor
open Go.Abs
set_option maxRecDepth 100000
attribute [local irreducible] L LF Code.wp bodyPost Exit.then Exit.inBlock
set_option linter.unusedVariables false
set_option linter.unusedSimpArgs false
def nilI:IV:= .im (.slice none 0 0)
theorem nilI_in:Sub .nils (.iv nilI):=fun E w u h=>by cases h;exact .iv (.im rfl)
theorem nilI_out:Sub (.iv nilI) .nils:=fun E w u h=>by
 have:=h.iv_im
 rw[this];exact .nils
def OwnL(t:TypeId)(k:Nat)(v:IV)(G:List Rw)(es:List (List IV)):Prop:=
 (es= [] ∧v=nilI∧G= [])∨ ∃r:Rw,G= [r] ∧v= .im r.u∧r.t=t∧r.k=k∧r.n=es.length∧r.xs=es.flatten∧es≠ []
inductive Lies:List Rw→List IV→List (List Ex)→Prop
 |nil:Lies [] [] []
 |none {F:List Rw} {vs:List IV} {rs:List (List Ex)} (h:Lies F vs rs):Lies F (vs++ [.sl []]) (rs++ [[]])
 |some {F:List Rw} {vs:List IV} {rs:List (List Ex)} {x:List Ex} (r:Rw) (h:Lies F vs rs) (ht:r.t=34) (hn:r.n=x.length) (hk:r.k=8) (hx:r.xs=(x.map Ex.c).flatten) (hne:x≠ []):Lies (r::F) (vs++ [.im r.u]) (rs++ [x])
theorem Lies.len{F:List Rw}{vs:List IV}{rs:List (List Ex)}(h:Lies F vs rs):vs.length=rs.length:=by
 induction h with
 |nil=>rfl
 |none _ ih=>simp[ih]
 |some _ _ _ _ _ _ _ ih=>simp[ih]
def oneC(v:IV):List IV:= [v]
def OwnR(v:IV)(G:List Rw)(rs:List (List Ex)):Prop:= ∃(vs:List IV) (Go Fi:List Rw),OwnL 30 1 v Go (vs.map oneC)∧Lies Fi vs rs∧G=Go++Fi
def stmA(s:Stm)(vR vS vO vD:AV):List AV:= [aI s.kind,aS s.name,aS s.table,aS s.col,.iv (.sl (s.cols.map Col.c)),vR,vS,.iv (.sl (s.frm.map Str.c)),vO,aI s.wh.op,aI s.wh.v.k,aI s.wh.v.n,aS s.wh.v.s,aS s.wh.s,aS s.wh.name,aI s.wh.n,.iv (.sl (s.wh.l.map Ex.c)),vD,aB s.down,aI s.n]
def stm0A:List AV:= [aI 0,aS [],aS [],aS [],.nils,.nils,.nils,.nils,.nils,aI 0,aI 0,aI 0,aS [],aS [],aS [],aI 0,.nils,.nils,aB false,aI 0]
def CopyR(s:Stm)(cs:List AV)(F:List Rw):Prop:= ∃(vR vS vO vD:IV) (GR GS GO GD:List Rw),OwnR vR GR s.rows∧OwnL 56 9 vS GS (s.sets.map Ast.c)∧OwnL 34 8 vO GO (s.out.map Ex.c)∧OwnL 34 8 vD GD (s.ord.map Ex.c)∧F=GD++GO++GS++GR∧cs=stmA s (.iv vR) (.iv vS) (.iv vO) (.iv vD)
structure CpOk (s:Stm):Prop where
 cols:s.cols.length*40≤140737488355328
 frm:s.frm.length*16≤140737488355328
 rows:s.rows.length*24≤140737488355328
 row: ∀r∈s.rows,r.length*104≤140737488355328∧ ∀x∈r,x.OkS
 sets:s.sets.length*120≤140737488355328
 set: ∀x∈s.sets,x.e.OkS
 out:s.out.length*104≤140737488355328∧ ∀x∈s.out,x.OkS
 ord:s.ord.length*104≤140737488355328∧ ∀x∈s.ord,x.OkS
 wh:s.wh.OkS
def cpR(N:Nat)(s:Stm)(i:Nat)(vs:List IV):St:=⟨[(25,aI (i:Int)),(24,aI ((s.rows.map exRow).length:Int)),(23,.iv (.sl (s.rows.map exRow))),(1,.ptr 1 0),(2,.ptr 2 0),(4,.iv (.sl (s.sets.map Ast.c)))],
 (1,⟨36,.l (stmA s (oAv N 1 vs) .nils (.iv (.sl (s.out.map Ex.c))) (.iv (.sl (s.ord.map Ex.c))))⟩)::(2,⟨36,.l stm0A⟩)::oBx N 30 oneC vs,[]⟩
theorem keysA{l:List Nat}{b:List (Nat×Box)}(h:l.all (fun id=>(b.lookup id).isSome)=true): ∀id∈l,(b.lookup id).isSome=true:=fun id hid=>List.all_eq_true.1 h id hid
theorem astl(x:Ast):x.c.length=9:=by unfold Ast.c;cases x.e;rfl
def cpS(s:Stm)(v:IV)(i:Nat)(G:List Ast):St:=⟨[(39,aI (i:Int)),(38,aI ((s.sets.map Ast.c).length:Int)),(37,.iv (.sl (s.sets.map Ast.c))),(1,.ptr 1 0),(2,.ptr 2 0)],
 (1,⟨36,.l (stmA s (.iv v) (oAv 905 9 G) (.iv (.sl (s.out.map Ex.c))) (.iv (.sl (s.ord.map Ex.c))))⟩)::(2,⟨36,.l stm0A⟩)::oBx 905 56 Ast.c G,[]⟩
def cpS2(s:Stm)(v u:IV):St:=⟨[(1,.ptr 1 0),(2,.ptr 2 0)],
 [(1,⟨36,.l (stmA s (.iv v) (.iv u) (.iv (.sl (s.out.map Ex.c))) (.iv (.sl (s.ord.map Ex.c))))⟩),(2,⟨36,.l stm0A⟩)],[]⟩
theorem oneC_flat: ∀vs:List IV,(vs.map oneC).flatten=vs
 | [] =>rfl
 |v::vs=>by rw[List.map_cons,List.flatten_cons,oneC_flat vs];rfl
theorem oneC_cs(t:TypeId)(vs:List IV):(⟨t,.r (vs.map oneC).flatten 0⟩:Box).cs=vs.map AV.iv:=by rw[Box.cs_r,oneC_flat];simp
theorem oneC_take(t:TypeId)(vs:List IV)(n:Nat)(hn:n=vs.length*1):(⟨t,.r (vs.map oneC).flatten 0⟩:Box).cs.take n=vs.map AV.iv:=by rw[oneC_cs,List.take_of_length_le (by rw[List.length_map];omega)]
theorem setLast(vs:List IV)(a b:AV)(n:Nat)(hn:n=vs.length):(vs.map AV.iv++ [a]).set n b=vs.map AV.iv++ [b]:=by
 subst hn
 have:vs.length=(vs.map AV.iv).length:=by simp
 rw[this,List.set_append_right _ _ (Nat.le_refl _),Nat.sub_self];rfl
theorem Subs.last{l:List AV}{a b:AV}(h:Sub a b):Subs (l++ [a]) (l++ [b]):=by
 refine⟨by simp,fun i x y hx hy=> ?_⟩
 by_cases e:i<l.length
 · rw[List.getElem?_append_left e] at hx hy
   rw[hx] at hy;cases hy;exact Sub.refl _
 · rw[List.getElem?_append_right (by omega)] at hx hy
   generalize i - l.length=j at*
   cases j with
   |zero=>simp at hx hy;subst hx;subst hy;exact h
   |succ j=>simp at hx
theorem subs_more(t:TypeId)(vs:List IV)(a:AV)(z:IV)(h:Sub a (.iv z)):Subs (⟨t,.l (vs.map AV.iv++ [a])⟩:Box).cs (⟨t,.r ((vs++ [z]).map oneC).flatten 0⟩:Box).cs:=by
 rw[oneC_cs,List.map_append]
 exact Subs.last h
theorem subs_set(t:TypeId)(vs:List IV)(a:AV)(z:IV)(n:Nat)(hn:n=vs.length):Subs (⟨t,.l ((vs.map AV.iv++ [a]).set n (.iv z))⟩:Box).cs (⟨t,.r ((vs++ [z]).map oneC).flatten 0⟩:Box).cs:=by
 rw[oneC_cs,List.map_append]
 simp only[Box.cs_l]
 rw[setLast vs a (.iv z) n hn]
 exact Subs.refl _
def cpR2(s:Stm)(v:IV):St:=⟨[(1,.ptr 1 0),(2,.ptr 2 0),(4,.iv (.sl (s.sets.map Ast.c)))],
 [(1,⟨36,.l (stmA s (.iv v) .nils (.iv (.sl (s.out.map Ex.c))) (.iv (.sl (s.ord.map Ex.c))))⟩),(2,⟨36,.l stm0A⟩)],[]⟩
set_option maxHeartbeats 16000000 in
theorem copyStmt_own{gs:Globs}(s:Stm)(ok:CpOk s):CallF gs Tryz.prog 5 [.agg (s.cs.map .iv)] (CopyR s):=by
 obtain⟨kCols,kFrm,kRows,kRow,kSets,kSet,kOut,kOrd,kWh⟩:=ok
 refine CallF.intro _ Tryz.func5 rfl Tryz.ntmps5 rfl (fun w0 E0 hG=> ?_)
 (repeat' (first|refine wk1 ?_|refine wk2 (fun hb hp=> ?_) (fun hb hp=> ?_)|fail))
 refine LF.cutS (ι:=IV×List Rw) (fun i=>cpR2 s i.1) (fun i=>i.2) (fun i=>OwnR i.1 i.2 s.rows) ?_ ?_
 · intro K hK
   refine LF.start ?_
   refine LF.loop (ι:=Nat×List IV×List Rw) (fun i=>cpR 905 s i.1 i.2.1) (fun i=>i.2.2) (fun i=>s.rows.length - i.1) (fun i=>Lies i.2.2 i.2.1 (s.rows.take i.1)) (i0:=(0,[],[])) ?_ rfl .nil ?_
   · unfold cpR stmA
     (refine Wk.mk' (by intro id h;cases h) ?_ ?_ ?_<;>repeat' (first|exact WkF.nil|exact WkB.nil|exact WkT.nil|exact Subs.nil|(refine WkF.cons rfl (Sub.refl _) ?_)|(refine WkF.cons rfl (Sub.pub _) ?_)|(refine WkF.cons rfl (Sub.of_eq rfl) ?_)|(refine WkB.cons rfl rfl (Subs.refl _) ?_)|(refine WkB.cons rfl rfl ?_ ?_)|(refine Subs.cons (Sub.refl _) ?_)|(refine Subs.cons nilI_in ?_)|(refine Subs.cons (Sub.pub _) ?_)|(refine WkT.cons rfl ?_)))
   rintro ⟨i,vs,F⟩ hI K2 hK2
   dsimp only at hI hK2⊢
   have hvl:=hI.len
   unfold cpR at hK2⊢
   cases hx:s.rows[i]? with
   |none=>
    have hlt:=ltF (l:=s.rows.map exRow) (getFN hx)
    rw[List.take_of_length_le (List.getElem?_eq_none_iff.1 hx)] at hI
    clear hK2
    rcases vs with _|⟨v,vs⟩
    · refine LF.rebase rfl rfl (fun c' hins hk hF ho=> ?_)
      obtain⟨nt',w0',E0',ins'⟩:=c'
      obtain rfl:=hk.nt
      obtain rfl:=hins
      (repeat' (first|refine wk1 ?_|refine wk2 (fun hb hp=> ?_) (fun hb hp=> ?_)|fail))
      refine LF.back hk hF ho ?_
      refine hK _ (nilI,F) ⟨[],[],F,.inl ⟨rfl,rfl,rfl⟩,hI,rfl⟩ ?_
      unfold cpR2 stmA
      (refine Wk.mk' (by intro id h;cases h) ?_ ?_ ?_<;>repeat' (first|exact WkF.nil|exact WkB.nil|exact WkT.nil|exact Subs.nil|(refine WkF.cons rfl (Sub.refl _) ?_)|(refine WkF.cons rfl (Sub.pub _) ?_)|(refine WkF.cons rfl (Sub.of_eq rfl) ?_)|(refine WkB.cons rfl rfl (Subs.refl _) ?_)|(refine WkB.cons rfl rfl ?_ ?_)|(refine Subs.cons (Sub.refl _) ?_)|(refine Subs.cons nilI_in ?_)|(refine Subs.cons (Sub.pub _) ?_)|(refine WkT.cons rfl ?_)))
    · refine LF.rebase rfl rfl (fun c' hins hk hF ho=> ?_)
      obtain⟨nt',w0',E0',ins'⟩:=c'
      obtain rfl:=hk.nt
      obtain rfl:=hins
      (repeat' (first|refine wk1 ?_|refine wk2 (fun hb hp=> ?_) (fun hb hp=> ?_)|fail))
      refine LF.back hk hF ho ?_
      refine LF.closeB 1 5 905 (t:=30) (n:=vs.length+1) (k:=1) (es:=(v::vs).map oneC) rfl rfl rfl rfl (by decide) (map_len (f:=oneC) (fun _=>rfl) _) (by decide) (by simp) (by omega) (fun r h1 h2 h3 h4=> ?_)
      refine hK _ (.im r.u,r::F) ⟨v::vs,[r],F,.inr ⟨r,rfl,rfl,h1,h3,by rw[h2];simp,h4,by simp⟩,hI,rfl⟩ ?_
      unfold cpR2 stmA
      (refine Wk.mk' (by intro id h;cases h) ?_ ?_ ?_<;>repeat' (first|exact WkF.nil|exact WkB.nil|exact WkT.nil|exact Subs.nil|(refine WkF.cons rfl (Sub.refl _) ?_)|(refine WkF.cons rfl (Sub.pub _) ?_)|(refine WkF.cons rfl (Sub.of_eq rfl) ?_)|(refine WkB.cons rfl rfl (Subs.refl _) ?_)|(refine WkB.cons rfl rfl ?_ ?_)|(refine Subs.cons (Sub.refl _) ?_)|(refine Subs.cons nilI_in ?_)|(refine Subs.cons (Sub.pub _) ?_)|(refine WkT.cons rfl ?_)))
   |some x=>
    have hlt:=ltT (l:=s.rows.map exRow) (getF (f:=exRow) hx)
    have hlt':=ltN hx
    have g1:(s.rows.map exRow)[((i:Nat):Int).toNat]?=some [.sl (x.map Ex.c)]:=by rw[Int.toNat_natCast,List.getElem?_map,hx];rfl
    have kx:=kRow x (List.mem_of_getElem? hx)
    have ke:=(copyEs_any (gs:= []) x kx.1 kx.2).toA
    have hil:i<s.rows.length:=(List.getElem?_eq_some_iff.1 hx).1
    have hvi:vs.length=i:=by rw[hvl,List.length_take];omega
    clear hK
    refine LF.rebase (by rcases vs with _|_<;>rfl) (by rcases vs with _|⟨v,vs⟩;rfl;simp[oBx,Box.cs_l,Box.cs_r,stmA,stm0A,oneC]) (fun c' hins hk hF ho=> ?_)
    obtain⟨nt',w0',E0',ins'⟩:=c'
    obtain rfl:=hk.nt
    obtain rfl:=hins
    rcases vs with _|⟨v,vs⟩
    · rcases x with _|⟨y,t⟩
      · dsimp only[oAv,oBx] at ke⊢
        (repeat' (first|(refine LW.is ?_;first|(apply s_buildA;exact rfl;exact rfl;exact rfl;exact rfl;exact rfl;(apply n_some;exact rfl;exact nlq);exact rfl;exact rfl;exact rfl)|(apply s_appendAn 906 (new:= [.nils]);exact rfl;exact rfl;exact rfl;exact rfl;exact rfl;exact rfl;exact Nat.one_pos;exact(by simp[maxLen]);exact(by decide);exact rfl;exact rfl))|(refine DR.is ?_;first|(apply d_buildA;exact rfl;exact rfl;exact rfl;exact rfl;exact rfl;(apply n_some;exact rfl;exact nlq);exact rfl;exact rfl;exact rfl)|(apply d_appendAn 906 (new:= [.nils]);exact rfl;exact rfl;exact rfl;exact rfl;exact rfl;exact rfl;exact Nat.one_pos;exact(by simp[maxLen]);exact(by decide);exact rfl;exact rfl))|refine wk1 ?_|refine wk2 (fun hb hp=> ?_) (fun hb hp=> ?_)|fail))
        refine L.onlyS [25,24,23,1,2,4] [1,2,906] rfl ?_
        refine LF.back hk hF ho ?_
        refine LF.wk (st':=cpR 906 s (i+1) ([] ++ [.sl []])) ?_ ?_
        · unfold cpR stmA
          (refine Wk.mk' (by intro id h;cases h) ?_ ?_ ?_<;>repeat' (first|exact WkF.nil|exact WkB.nil|exact WkT.nil|exact Subs.nil|(refine WkF.cons rfl (Sub.refl _) ?_)|(refine WkF.cons rfl (Sub.of_eq rfl) ?_)|(refine WkB.cons rfl rfl (Subs.refl _) ?_)|(refine WkB.cons rfl rfl (subs_set _ _ _ _ _ (by simp)) ?_)|(refine WkB.cons rfl rfl (subs_more _ _ _ _ Sub.nils) ?_)|(refine WkB.cons rfl rfl (subs_more _ [] _ _ Sub.nils) ?_)|(refine WkB.cons rfl rfl ?_ ?_)|(refine Subs.cons (Sub.refl _) ?_)|(refine Subs.cons (Sub.of_eq (congrArg (fun k=>AV.bsh 906 0 k 1) (by simp))) ?_)|(refine WkT.cons rfl ?_)))
        refine LF.swap [(906,905)] rfl rfl rfl rfl ?_
        refine hK2 _ (i+1,[] ++ [.sl []],F) (by dsimp only;rw[takeA hx];exact Lies.none hI) (by dsimp only;omega) ?_
        unfold cpR stmA
        (refine Wk.mk' (by intro id h;cases h) ?_ ?_ ?_<;>repeat' (first|exact WkF.nil|exact WkB.nil|exact WkT.nil|(refine WkF.cons rfl (Sub.refl _) ?_)|(refine WkF.cons rfl (Sub.of_eq rfl) ?_)|(refine WkB.cons rfl rfl (Subs.refl _) ?_)))
      · dsimp only[oAv,oBx] at ke⊢
        (repeat' (first|(refine LW.is ?_;first|(apply s_call01N;exact rfl;exact ke;exact rfl;exact rfl;exact rfl)|(apply s_buildA;exact rfl;exact rfl;exact rfl;exact rfl;exact rfl;(apply n_some;exact rfl;exact nlq);exact rfl;exact rfl;exact rfl)|(apply s_appendAn 906 (new:= [.bsh 32 0 (t.length+1) 8]);exact rfl;exact rfl;exact rfl;exact rfl;exact rfl;exact rfl;exact Nat.one_pos;exact(by simp[maxLen]);exact(by decide);exact rfl;exact rfl))|(refine DR.is ?_;first|(apply d_call01N;exact rfl;exact ke;exact rfl;exact rfl;exact rfl)|(apply d_buildA;exact rfl;exact rfl;exact rfl;exact rfl;exact rfl;(apply n_some;exact rfl;exact nlq);exact rfl;exact rfl;exact rfl)|(apply d_appendAn 906 (new:= [.bsh 32 0 (t.length+1) 8]);exact rfl;exact rfl;exact rfl;exact rfl;exact rfl;exact rfl;exact Nat.one_pos;exact(by simp[maxLen]);exact(by decide);exact rfl;exact rfl))|refine wk1 ?_|refine wk2 (fun hb hp=> ?_) (fun hb hp=> ?_)|fail))
        refine L.onlyS [25,24,23,1,2,4] [1,2,906,32] rfl ?_
        refine LF.back hk hF ho ?_
        refine LF.closeB 906 0 32 (t:=34) (n:=t.length+1) (k:=8) (es:=(y::t).map Ex.c) rfl rfl rfl rfl (by decide) (map_len exl8 _) (by decide) (by simp) (by omega) (fun r h1 h2 h3 h4=> ?_)
        refine LF.wk (st':=cpR 906 s (i+1) ([] ++ [.im r.u])) ?_ ?_
        · unfold cpR stmA
          (refine Wk.mk' (by intro id h;cases h) ?_ ?_ ?_<;>repeat' (first|exact WkF.nil|exact WkB.nil|exact WkT.nil|exact Subs.nil|(refine WkF.cons rfl (Sub.refl _) ?_)|(refine WkF.cons rfl (Sub.of_eq rfl) ?_)|(refine WkB.cons rfl rfl (Subs.refl _) ?_)|(refine WkB.cons rfl rfl (subs_set _ _ _ _ _ (by simp)) ?_)|(refine WkB.cons rfl rfl (subs_more _ _ _ _ Sub.nils) ?_)|(refine WkB.cons rfl rfl (subs_more _ [] _ _ Sub.nils) ?_)|(refine WkB.cons rfl rfl ?_ ?_)|(refine Subs.cons (Sub.refl _) ?_)|(refine Subs.cons (Sub.of_eq (congrArg (fun k=>AV.bsh 906 0 k 1) (by simp))) ?_)|(refine WkT.cons rfl ?_)))
        refine LF.swap [(906,905)] rfl rfl rfl rfl ?_
        refine hK2 _ (i+1,[] ++ [.im r.u],r::F) (by dsimp only;rw[takeA hx];exact Lies.some r hI h1 (by rw[h2];rfl) h3 h4 (by simp)) (by dsimp only;omega) ?_
        unfold cpR stmA
        (refine Wk.mk' (by intro id h;cases h) ?_ ?_ ?_<;>repeat' (first|exact WkF.nil|exact WkB.nil|exact WkT.nil|(refine WkF.cons rfl (Sub.refl _) ?_)|(refine WkF.cons rfl (Sub.of_eq rfl) ?_)|(refine WkB.cons rfl rfl (Subs.refl _) ?_)))
    · rw[List.length_cons] at hvi
      rcases x with _|⟨y,t⟩
      · dsimp only[oAv,oBx] at ke⊢
        (repeat' (first|(refine LW.is ?_;first|(apply s_buildA;exact rfl;exact rfl;exact rfl;exact rfl;exact rfl;(apply n_some;exact rfl;exact nlq);exact rfl;exact rfl;exact rfl)|(apply s_appendA 906 (n:=vs.length+1) (nr:=vs.length+2) (old:=(v::vs).map AV.iv) (new:= [.nils]) (cs:=(v::vs).map AV.iv++ [.nils]);exact rfl;exact rfl;exact rfl;exact rfl;exact rfl;exact(by rw[oneC_cs];simp);exact oneC_take _ _ _ (by simp);exact(by simp);exact rfl;exact rfl;exact rfl;exact Nat.one_pos;exact(by simp only[maxLen];omega);exact(by omega);exact rfl;exact rfl;exact rfl;exact rfl))|(refine DR.is ?_;first|(apply d_buildA;exact rfl;exact rfl;exact rfl;exact rfl;exact rfl;(apply n_some;exact rfl;exact nlq);exact rfl;exact rfl;exact rfl)|(apply d_appendA 906 (n:=vs.length+1) (nr:=vs.length+2) (old:=(v::vs).map AV.iv) (new:= [.nils]) (cs:=(v::vs).map AV.iv++ [.nils]);exact rfl;exact rfl;exact rfl;exact rfl;exact rfl;exact(by rw[oneC_cs];simp);exact oneC_take _ _ _ (by simp);exact(by simp);exact rfl;exact rfl;exact rfl;exact Nat.one_pos;exact(by simp only[maxLen];omega);exact(by omega);exact rfl;exact rfl;exact rfl;exact rfl))|refine wk1 ?_|refine wk2 (fun hb hp=> ?_) (fun hb hp=> ?_)|fail))
        refine L.onlyS [25,24,23,1,2,4] [1,2,906,905] rfl ?_
        refine LF.back hk hF ho ?_
        refine LF.wk (st':=cpR 906 s (i+1) ((v::vs)++ [.sl []])) ?_ ?_
        · unfold cpR stmA
          (refine Wk.mk' (by intro id h;cases h) ?_ ?_ ?_<;>repeat' (first|exact WkF.nil|exact WkB.nil|exact WkT.nil|exact Subs.nil|(refine WkF.cons rfl (Sub.refl _) ?_)|(refine WkF.cons rfl (Sub.of_eq rfl) ?_)|(refine WkB.cons rfl rfl (Subs.refl _) ?_)|(refine WkB.cons rfl rfl (subs_set _ _ _ _ _ (by simp)) ?_)|(refine WkB.cons rfl rfl (subs_more _ _ _ _ Sub.nils) ?_)|(refine WkB.cons rfl rfl (subs_more _ [] _ _ Sub.nils) ?_)|(refine WkB.cons rfl rfl ?_ ?_)|(refine Subs.cons (Sub.refl _) ?_)|(refine Subs.cons (Sub.of_eq (congrArg (fun k=>AV.bsh 906 0 k 1) (by simp))) ?_)|(refine WkT.cons rfl ?_)))
        refine LF.swap [(906,905)] rfl rfl rfl rfl ?_
        refine hK2 _ (i+1,(v::vs)++ [.sl []],F) (by dsimp only;rw[takeA hx];exact Lies.none hI) (by dsimp only;omega) ?_
        unfold cpR stmA
        (refine Wk.mk' (by intro id h;cases h) ?_ ?_ ?_<;>repeat' (first|exact WkF.nil|exact WkB.nil|exact WkT.nil|(refine WkF.cons rfl (Sub.refl _) ?_)|(refine WkF.cons rfl (Sub.of_eq rfl) ?_)|(refine WkB.cons rfl rfl (Subs.refl _) ?_)))
      · dsimp only[oAv,oBx] at ke⊢
        (repeat' (first|(refine LW.is ?_;first|(apply s_call01N;exact rfl;exact ke;exact rfl;exact rfl;exact rfl)|(apply s_buildA;exact rfl;exact rfl;exact rfl;exact rfl;exact rfl;(apply n_some;exact rfl;exact nlq);exact rfl;exact rfl;exact rfl)|(apply s_appendA 906 (n:=vs.length+1) (nr:=vs.length+2) (old:=(v::vs).map AV.iv) (new:= [.bsh 32 0 (t.length+1) 8]) (cs:=(v::vs).map AV.iv++ [.bsh 32 0 (t.length+1) 8]);exact rfl;exact rfl;exact rfl;exact rfl;exact rfl;exact(by rw[oneC_cs];simp);exact oneC_take _ _ _ (by simp);exact(by simp);exact rfl;exact rfl;exact rfl;exact Nat.one_pos;exact(by simp only[maxLen];omega);exact(by omega);exact rfl;exact rfl;exact rfl;exact rfl))|(refine DR.is ?_;first|(apply d_call01N;exact rfl;exact ke;exact rfl;exact rfl;exact rfl)|(apply d_buildA;exact rfl;exact rfl;exact rfl;exact rfl;exact rfl;(apply n_some;exact rfl;exact nlq);exact rfl;exact rfl;exact rfl)|(apply d_appendA 906 (n:=vs.length+1) (nr:=vs.length+2) (old:=(v::vs).map AV.iv) (new:= [.bsh 32 0 (t.length+1) 8]) (cs:=(v::vs).map AV.iv++ [.bsh 32 0 (t.length+1) 8]);exact rfl;exact rfl;exact rfl;exact rfl;exact rfl;exact(by rw[oneC_cs];simp);exact oneC_take _ _ _ (by simp);exact(by simp);exact rfl;exact rfl;exact rfl;exact Nat.one_pos;exact(by simp only[maxLen];omega);exact(by omega);exact rfl;exact rfl;exact rfl;exact rfl))|refine wk1 ?_|refine wk2 (fun hb hp=> ?_) (fun hb hp=> ?_)|fail))
        refine L.onlyS [25,24,23,1,2,4] [1,2,906,905,32] rfl ?_
        refine LF.back hk hF ho ?_
        refine LF.closeB 906 (vs.length+1) 32 (t:=34) (n:=t.length+1) (k:=8) (es:=(y::t).map Ex.c) rfl rfl (by simp) rfl (by decide) (map_len exl8 _) (by decide) (by simp) (by omega) (fun r h1 h2 h3 h4=> ?_)
        refine LF.wk (st':=cpR 906 s (i+1) ((v::vs)++ [.im r.u])) ?_ ?_
        · unfold cpR stmA
          (refine Wk.mk' (by intro id h;cases h) ?_ ?_ ?_<;>repeat' (first|exact WkF.nil|exact WkB.nil|exact WkT.nil|exact Subs.nil|(refine WkF.cons rfl (Sub.refl _) ?_)|(refine WkF.cons rfl (Sub.of_eq rfl) ?_)|(refine WkB.cons rfl rfl (Subs.refl _) ?_)|(refine WkB.cons rfl rfl (subs_set _ _ _ _ _ (by simp)) ?_)|(refine WkB.cons rfl rfl (subs_more _ _ _ _ Sub.nils) ?_)|(refine WkB.cons rfl rfl (subs_more _ [] _ _ Sub.nils) ?_)|(refine WkB.cons rfl rfl ?_ ?_)|(refine Subs.cons (Sub.refl _) ?_)|(refine Subs.cons (Sub.of_eq (congrArg (fun k=>AV.bsh 906 0 k 1) (by simp))) ?_)|(refine WkT.cons rfl ?_)))
        refine LF.swap [(906,905)] rfl rfl rfl rfl ?_
        refine hK2 _ (i+1,(v::vs)++ [.im r.u],r::F) (by dsimp only;rw[takeA hx];exact Lies.some r hI h1 (by rw[h2];rfl) h3 h4 (by simp)) (by dsimp only;omega) ?_
        unfold cpR stmA
        (refine Wk.mk' (by intro id h;cases h) ?_ ?_ ?_<;>repeat' (first|exact WkF.nil|exact WkB.nil|exact WkT.nil|(refine WkF.cons rfl (Sub.refl _) ?_)|(refine WkF.cons rfl (Sub.of_eq rfl) ?_)|(refine WkB.cons rfl rfl (Subs.refl _) ?_)))
 · rintro ⟨vR,GR⟩ hR
   dsimp only at hR⊢
   unfold cpR2
   refine LF.rebase rfl rfl (fun c' hins hk hF ho=> ?_)
   obtain⟨nt',w0',E0',ins'⟩:=c'
   obtain rfl:=hk.nt
   obtain rfl:=hins
   (repeat' (first|refine wk1 ?_|refine wk2 (fun hb hp=> ?_) (fun hb hp=> ?_)|fail))
   refine LF.cutL (c:=⟨71,w0,E0,[]⟩) (ι:=IV×List Rw) (fun i=>cpS2 s vR i.1) (fun i=>i.2++GR) (fun i=>OwnL 56 9 i.1 i.2 (s.sets.map Ast.c)) ?_ ?_
   · intro K hK
     refine L.loopP (ι:=Nat×List Ast) (fun i=>cpS s vR i.1 i.2) (fun i=>s.sets.length - i.1) (fun i=>s.sets.take i.1=i.2) (i0:=(0,[])) ?_ rfl ?_
     · unfold cpS stmA
       (refine Wk.mk' (keysA rfl) ?_ ?_ ?_<;>repeat' (first|exact WkF.nil|exact WkB.nil|exact WkT.nil|exact Subs.nil|(refine WkF.cons rfl (Sub.refl _) ?_)|(refine WkF.cons rfl (Sub.pub _) ?_)|(refine WkF.cons rfl (Sub.of_eq rfl) ?_)|(refine WkB.cons rfl rfl (Subs.refl _) ?_)|(refine WkB.cons rfl rfl ?_ ?_)|(refine Subs.cons (Sub.refl _) ?_)|(refine Subs.cons (Sub.of_eq (congrArg (fun k=>AV.bsh 905 0 k 9) (by simp))) ?_)|(refine Subs.cons nilI_in ?_)|(refine Subs.cons (Sub.pub _) ?_)|(refine WkT.cons rfl ?_)))
     rintro ⟨i,G⟩ hI K2 hK2
     dsimp only at hI hK2⊢
     unfold cpS at hK2⊢
     cases hx:s.sets[i]? with
     |none=>
      have hlt:=ltF (l:=s.sets.map Ast.c) (getFN hx)
      rw[List.take_of_length_le (List.getElem?_eq_none_iff.1 hx)] at hI
      clear hK2
      rcases G with _|⟨y,t⟩
      · dsimp only[oAv,oBx]
        (repeat' (first|refine wk1 ?_|refine wk2 (fun hb hp=> ?_) (fun hb hp=> ?_)|fail))
        refine L.onlyS [1,2] [1,2] rfl ?_
        refine LF.back hk hF ho ?_
        refine hK _ (nilI,[]) (.inl ⟨by rw[hI];rfl,rfl,rfl⟩) ?_
        unfold cpS2 stmA
        (refine Wk.mk' (by intro id h;cases h) ?_ ?_ ?_<;>repeat' (first|exact WkF.nil|exact WkB.nil|exact WkT.nil|exact Subs.nil|(refine WkF.cons rfl (Sub.refl _) ?_)|(refine WkF.cons rfl (Sub.pub _) ?_)|(refine WkF.cons rfl (Sub.of_eq rfl) ?_)|(refine WkB.cons rfl rfl (Subs.refl _) ?_)|(refine WkB.cons rfl rfl ?_ ?_)|(refine Subs.cons (Sub.refl _) ?_)|(refine Subs.cons (Sub.of_eq (congrArg (fun k=>AV.bsh 905 0 k 9) (by simp))) ?_)|(refine Subs.cons nilI_in ?_)|(refine Subs.cons (Sub.pub _) ?_)|(refine WkT.cons rfl ?_)))
      · dsimp only[oAv,oBx]
        (repeat' (first|refine wk1 ?_|refine wk2 (fun hb hp=> ?_) (fun hb hp=> ?_)|fail))
        refine L.onlyS [1,2] [1,2,905] rfl ?_
        refine LF.back hk hF ho ?_
        refine LF.closeB 1 6 905 (t:=56) (n:=t.length+1) (k:=9) (es:=(y::t).map Ast.c) rfl rfl rfl rfl (by decide) (map_len astl _) (by decide) (by simp) (by omega) (fun r h1 h2 h3 h4=> ?_)
        refine hK _ (.im r.u,[r]) (.inr ⟨r,rfl,rfl,h1,h3,by rw[h2,hI];simp,by rw[h4,hI],by rw[hI];simp⟩) ?_
        unfold cpS2 stmA
        (refine Wk.mk' (by intro id h;cases h) ?_ ?_ ?_<;>repeat' (first|exact WkF.nil|exact WkB.nil|exact WkT.nil|exact Subs.nil|(refine WkF.cons rfl (Sub.refl _) ?_)|(refine WkF.cons rfl (Sub.pub _) ?_)|(refine WkF.cons rfl (Sub.of_eq rfl) ?_)|(refine WkB.cons rfl rfl (Subs.refl _) ?_)|(refine WkB.cons rfl rfl ?_ ?_)|(refine Subs.cons (Sub.refl _) ?_)|(refine Subs.cons (Sub.of_eq (congrArg (fun k=>AV.bsh 905 0 k 9) (by simp))) ?_)|(refine Subs.cons nilI_in ?_)|(refine Subs.cons (Sub.pub _) ?_)|(refine WkT.cons rfl ?_)))
     |some x=>
      have hlt:=ltT (l:=s.sets.map Ast.c) (getF (f:=Ast.c) hx)
      have hlt':=ltN hx
      have hxm:=List.mem_of_getElem? hx
      have ke:=(copyE_pub (gs:= []) x.e (kSet x hxm)).toA
      have hil:i<s.sets.length:=(List.getElem?_eq_some_iff.1 hx).1
      have hGl:G.length=i:=by rw[←hI,List.length_take];omega
      have hst:=takeA hx
      rw[hI] at hst
      have hxc:x.c= [S x.co,I x.e.op,I x.e.v.k,I x.e.v.n,S x.e.v.s,S x.e.s,S x.e.name,I x.e.n,.sl (x.e.l.map Ex.c)]:=by unfold Ast.c;cases x.e;rfl
      have g1:(s.sets.map Ast.c)[((i:Nat):Int).toNat]?=some [S x.co,I x.e.op,I x.e.v.k,I x.e.v.n,S x.e.v.s,S x.e.s,S x.e.name,I x.e.n,.sl (x.e.l.map Ex.c)]:=by rw[Int.toNat_natCast,List.getElem?_map,hx,←hxc];rfl
      clear hK
      rcases G with _|⟨y,t⟩
      · dsimp only[oAv,oBx]
        (repeat' (first|(refine LW.is ?_;first|(apply s_nilR 905 (news:= [[S x.co,I x.e.op,I x.e.v.k,I x.e.v.n,S x.e.v.s,S x.e.s,S x.e.name,I x.e.n,.sl (x.e.l.map Ex.c)]]);exact rfl;exact rfl;exact rfl;exact oneOf rfl;exact List.cons_ne_nil _ _;exact(by simp[maxLen]);exact(by simp);exact rfl))|(refine DR.is ?_;first|(apply d_nilR 905 (news:= [[S x.co,I x.e.op,I x.e.v.k,I x.e.v.n,S x.e.v.s,S x.e.s,S x.e.name,I x.e.n,.sl (x.e.l.map Ex.c)]]);exact rfl;exact rfl;exact rfl;exact oneOf rfl;exact List.cons_ne_nil _ _;exact(by simp[maxLen]);exact(by simp);exact rfl))|refine wk1 ?_|refine wk2 (fun hb hp=> ?_) (fun hb hp=> ?_)|fail))
        rw[show [[S x.co,I x.e.op,I x.e.v.k,I x.e.v.n,S x.e.v.s,S x.e.s,S x.e.name,I x.e.n,.sl (x.e.l.map Ex.c)]] = [x].map Ast.c by rw[List.map_cons,hxc];rfl]
        refine hK2 _ (i+1,[x]) hst (by dsimp only;omega) ?_
        unfold stmA
        (refine Wk.mk' (keysA rfl) ?_ ?_ ?_<;>repeat' (first|exact WkF.nil|exact WkB.nil|exact WkT.nil|exact Subs.nil|(refine WkF.cons rfl (Sub.refl _) ?_)|(refine WkF.cons rfl (Sub.pub _) ?_)|(refine WkF.cons rfl (Sub.of_eq rfl) ?_)|(refine WkB.cons rfl rfl (Subs.refl _) ?_)|(refine WkB.cons rfl rfl ?_ ?_)|(refine Subs.cons (Sub.refl _) ?_)|(refine Subs.cons (Sub.of_eq (congrArg (fun k=>AV.bsh 905 0 k 9) (by simp))) ?_)|(refine Subs.cons nilI_in ?_)|(refine Subs.cons (Sub.pub _) ?_)|(refine WkT.cons rfl ?_)))
      · have hyt:t.length+1=i:=hGl
        dsimp only[oAv,oBx]
        (repeat' (first|(refine LW.is ?_;first|(apply s_appendH 906 (es:=(y::t).map Ast.c) (n:=t.length+1) (news:= [[S x.co,I x.e.op,I x.e.v.k,I x.e.v.n,S x.e.v.s,S x.e.s,S x.e.name,I x.e.n,.sl (x.e.l.map Ex.c)]]) (er:=(y::t++ [x]).map Ast.c) (nr:=(y::t++ [x]).length);exact rfl;exact rfl;exact rfl;exact rfl;exact .inl (flatK_ne astl (by decide) y t);exact map_len astl _;exact oneOf rfl;exact(by simp);exact List.cons_ne_nil _ _;exact(by simp only[maxLen,List.length_cons,List.length_nil];omega);exact(by simp only[List.length_cons,List.length_nil];omega);exact rfl;exact(by rw[←hxc];exact take_more (y::t) _ rfl);exact(by simp)))|(refine DR.is ?_;first|(apply d_appendH 906 (es:=(y::t).map Ast.c) (n:=t.length+1) (news:= [[S x.co,I x.e.op,I x.e.v.k,I x.e.v.n,S x.e.v.s,S x.e.s,S x.e.name,I x.e.n,.sl (x.e.l.map Ex.c)]]) (er:=(y::t++ [x]).map Ast.c) (nr:=(y::t++ [x]).length);exact rfl;exact rfl;exact rfl;exact rfl;exact .inl (flatK_ne astl (by decide) y t);exact map_len astl _;exact oneOf rfl;exact(by simp);exact List.cons_ne_nil _ _;exact(by simp only[maxLen,List.length_cons,List.length_nil];omega);exact(by simp only[List.length_cons,List.length_nil];omega);exact rfl;exact(by rw[←hxc];exact take_more (y::t) _ rfl);exact(by simp)))|refine wk1 ?_|refine wk2 (fun hb hp=> ?_) (fun hb hp=> ?_)|fail))
        refine L.onlyS [39,38,37,1,2] [1,2,906] rfl ?_
        refine L.swap [(906,905)] rfl rfl rfl rfl ?_
        refine hK2 _ (i+1,y::t++ [x]) hst (by dsimp only;omega) ?_
        unfold stmA
        (refine Wk.mk' (keysA rfl) ?_ ?_ ?_<;>repeat' (first|exact WkF.nil|exact WkB.nil|exact WkT.nil|exact Subs.nil|(refine WkF.cons rfl (Sub.refl _) ?_)|(refine WkF.cons rfl (Sub.pub _) ?_)|(refine WkF.cons rfl (Sub.of_eq rfl) ?_)|(refine WkB.cons rfl rfl (Subs.refl _) ?_)|(refine WkB.cons rfl rfl ?_ ?_)|(refine Subs.cons (Sub.refl _) ?_)|(refine Subs.cons (Sub.of_eq (congrArg (fun k=>AV.bsh 905 0 k 9) (by simp))) ?_)|(refine Subs.cons nilI_in ?_)|(refine Subs.cons (Sub.pub _) ?_)|(refine WkT.cons rfl ?_)))
   rintro ⟨vS,GS⟩ hS
   dsimp only at hS⊢
   unfold cpS2
   refine LF.rebase rfl rfl (fun c' hins hk hF ho=> ?_)
   obtain⟨nt',w0',E0',ins'⟩:=c'
   obtain rfl:=hk.nt
   obtain rfl:=hins
   have kO:=(copyEs_any (gs:= []) s.out kOut.1 kOut.2).toA
   have kD:=(copyEs_any (gs:= []) s.ord kOrd.1 kOrd.2).toA
   have kW:=(copyE_pub (gs:= []) s.wh kWh).toA
   generalize ho0:s.out=O at kO
   generalize hd0:s.ord=D at kD
   rcases O with _|⟨yo,zto⟩
   · rcases D with _|⟨yd,td⟩
     · skip
       dsimp only[oAv,oBx] at kO kD
       (repeat' (first|refine wk1 ?_|refine wk2 (fun hb hp=> ?_) (fun hb hp=> ?_)|fail))
       refine L.onlyS [2] [1,2] rfl ?_
       refine LF.back hk hF ho ?_
       refine LF.wk (st':=⟨[(2,.ptr 2 0)],[(2,⟨36,.l (stmA s (.iv vR) (.iv vS) (.iv nilI) (.iv nilI))⟩)],[]⟩) ?_ ?_
       · unfold stmA
         (refine Wk.mk' (by intro id h;cases h) ?_ ?_ ?_<;>repeat' (first|exact WkF.nil|exact WkB.nil|exact WkT.nil|exact Subs.nil|(refine WkF.cons rfl (Sub.refl _) ?_)|(refine WkF.cons rfl (Sub.pub _) ?_)|(refine WkF.cons rfl (Sub.of_eq rfl) ?_)|(refine WkB.cons rfl rfl (Subs.refl _) ?_)|(refine WkB.cons rfl rfl ?_ ?_)|(refine Subs.cons (Sub.refl _) ?_)|(refine Subs.cons (Sub.of_eq (congrArg (fun k=>AV.bsh 905 0 k 9) (by simp))) ?_)|(refine Subs.cons nilI_in ?_)|(refine Subs.cons (Sub.pub _) ?_)|(refine WkT.cons rfl ?_)))
       exact LF.ends rfl rfl rfl ⟨vR,vS,nilI,nilI,GR,GS,[],[],hR,hS,.inl ⟨by rw[ho0];rfl,rfl,rfl⟩,.inl ⟨by rw[hd0];rfl,rfl,rfl⟩,by simp,rfl⟩
     · skip
       dsimp only[oAv,oBx] at kO kD
       (repeat' (first|(refine LW.is ?_;first|(apply s_call01N;exact rfl;exact kD;exact rfl;exact rfl;exact rfl))|(refine DR.is ?_;first|(apply d_call01N;exact rfl;exact kD;exact rfl;exact rfl;exact rfl))|refine wk1 ?_|refine wk2 (fun hb hp=> ?_) (fun hb hp=> ?_)|fail))
       refine L.onlyS [2] [1,2,61] rfl ?_
       refine LF.back hk hF ho ?_
       refine LF.closeB 2 17 61 (t:=34) (n:=td.length+1) (k:=8) (es:=(yd::td).map Ex.c) rfl rfl rfl rfl (by decide) (map_len exl8 _) (by decide) (by simp) (by omega) (fun rd d1 d2 d3 d4=> ?_)
       refine LF.wk (st':=⟨[(2,.ptr 2 0)],[(2,⟨36,.l (stmA s (.iv vR) (.iv vS) (.iv nilI) (.iv (.im rd.u)))⟩)],[]⟩) ?_ ?_
       · unfold stmA
         (refine Wk.mk' (by intro id h;cases h) ?_ ?_ ?_<;>repeat' (first|exact WkF.nil|exact WkB.nil|exact WkT.nil|exact Subs.nil|(refine WkF.cons rfl (Sub.refl _) ?_)|(refine WkF.cons rfl (Sub.pub _) ?_)|(refine WkF.cons rfl (Sub.of_eq rfl) ?_)|(refine WkB.cons rfl rfl (Subs.refl _) ?_)|(refine WkB.cons rfl rfl ?_ ?_)|(refine Subs.cons (Sub.refl _) ?_)|(refine Subs.cons (Sub.of_eq (congrArg (fun k=>AV.bsh 905 0 k 9) (by simp))) ?_)|(refine Subs.cons nilI_in ?_)|(refine Subs.cons (Sub.pub _) ?_)|(refine WkT.cons rfl ?_)))
       exact LF.ends rfl rfl rfl ⟨vR,vS,nilI,(.im rd.u),GR,GS,[],[rd],hR,hS,.inl ⟨by rw[ho0];rfl,rfl,rfl⟩,.inr ⟨rd,rfl,rfl,d1,d3,by rw[d2,hd0];simp,by rw[d4,hd0],by rw[hd0];simp⟩,by simp,rfl⟩
   · rcases D with _|⟨yd,td⟩
     · skip
       dsimp only[oAv,oBx] at kO kD
       (repeat' (first|(refine LW.is ?_;first|(apply s_call01N;exact rfl;exact kO;exact rfl;exact rfl;exact rfl))|(refine DR.is ?_;first|(apply d_call01N;exact rfl;exact kO;exact rfl;exact rfl;exact rfl))|refine wk1 ?_|refine wk2 (fun hb hp=> ?_) (fun hb hp=> ?_)|fail))
       refine L.onlyS [2] [1,2,58] rfl ?_
       refine LF.back hk hF ho ?_
       refine LF.closeB 2 8 58 (t:=34) (n:=zto.length+1) (k:=8) (es:=(yo::zto).map Ex.c) rfl rfl rfl rfl (by decide) (map_len exl8 _) (by decide) (by simp) (by omega) (fun ro o1 o2 o3 o4=> ?_)
       refine LF.wk (st':=⟨[(2,.ptr 2 0)],[(2,⟨36,.l (stmA s (.iv vR) (.iv vS) (.iv (.im ro.u)) (.iv nilI))⟩)],[]⟩) ?_ ?_
       · unfold stmA
         (refine Wk.mk' (by intro id h;cases h) ?_ ?_ ?_<;>repeat' (first|exact WkF.nil|exact WkB.nil|exact WkT.nil|exact Subs.nil|(refine WkF.cons rfl (Sub.refl _) ?_)|(refine WkF.cons rfl (Sub.pub _) ?_)|(refine WkF.cons rfl (Sub.of_eq rfl) ?_)|(refine WkB.cons rfl rfl (Subs.refl _) ?_)|(refine WkB.cons rfl rfl ?_ ?_)|(refine Subs.cons (Sub.refl _) ?_)|(refine Subs.cons (Sub.of_eq (congrArg (fun k=>AV.bsh 905 0 k 9) (by simp))) ?_)|(refine Subs.cons nilI_in ?_)|(refine Subs.cons (Sub.pub _) ?_)|(refine WkT.cons rfl ?_)))
       exact LF.ends rfl rfl rfl ⟨vR,vS,(.im ro.u),nilI,GR,GS,[ro],[],hR,hS,.inr ⟨ro,rfl,rfl,o1,o3,by rw[o2,ho0];simp,by rw[o4,ho0],by rw[ho0];simp⟩,.inl ⟨by rw[hd0];rfl,rfl,rfl⟩,by simp,rfl⟩
     · skip
       dsimp only[oAv,oBx] at kO kD
       (repeat' (first|(refine LW.is ?_;first|(apply s_call01N;exact rfl;exact kO;exact rfl;exact rfl;exact rfl)|(apply s_call01N;exact rfl;exact kD;exact rfl;exact rfl;exact rfl))|(refine DR.is ?_;first|(apply d_call01N;exact rfl;exact kO;exact rfl;exact rfl;exact rfl)|(apply d_call01N;exact rfl;exact kD;exact rfl;exact rfl;exact rfl))|refine wk1 ?_|refine wk2 (fun hb hp=> ?_) (fun hb hp=> ?_)|fail))
       refine L.onlyS [2] [1,2,58,61] rfl ?_
       refine LF.back hk hF ho ?_
       refine LF.closeB 2 8 58 (t:=34) (n:=zto.length+1) (k:=8) (es:=(yo::zto).map Ex.c) rfl rfl rfl rfl (by decide) (map_len exl8 _) (by decide) (by simp) (by omega) (fun ro o1 o2 o3 o4=> ?_)
       refine LF.closeB 2 17 61 (t:=34) (n:=td.length+1) (k:=8) (es:=(yd::td).map Ex.c) rfl rfl rfl rfl (by decide) (map_len exl8 _) (by decide) (by simp) (by omega) (fun rd d1 d2 d3 d4=> ?_)
       refine LF.wk (st':=⟨[(2,.ptr 2 0)],[(2,⟨36,.l (stmA s (.iv vR) (.iv vS) (.iv (.im ro.u)) (.iv (.im rd.u)))⟩)],[]⟩) ?_ ?_
       · unfold stmA
         (refine Wk.mk' (by intro id h;cases h) ?_ ?_ ?_<;>repeat' (first|exact WkF.nil|exact WkB.nil|exact WkT.nil|exact Subs.nil|(refine WkF.cons rfl (Sub.refl _) ?_)|(refine WkF.cons rfl (Sub.pub _) ?_)|(refine WkF.cons rfl (Sub.of_eq rfl) ?_)|(refine WkB.cons rfl rfl (Subs.refl _) ?_)|(refine WkB.cons rfl rfl ?_ ?_)|(refine Subs.cons (Sub.refl _) ?_)|(refine Subs.cons (Sub.of_eq (congrArg (fun k=>AV.bsh 905 0 k 9) (by simp))) ?_)|(refine Subs.cons nilI_in ?_)|(refine Subs.cons (Sub.pub _) ?_)|(refine WkT.cons rfl ?_)))
       exact LF.ends rfl rfl rfl ⟨vR,vS,(.im ro.u),(.im rd.u),GR,GS,[ro],[rd],hR,hS,.inr ⟨ro,rfl,rfl,o1,o3,by rw[o2,ho0];simp,by rw[o4,ho0],by rw[ho0];simp⟩,.inr ⟨rd,rfl,rfl,d1,d3,by rw[d2,hd0];simp,by rw[d4,hd0],by rw[hd0];simp⟩,by simp,rfl⟩
end Go.Proofs.YthcjohcakdnmmaaGreatDoor
namespace Go.Proofs.YthcjohcakdnmmaaGreatDoor
open Go.Abs
open Go.RowKit (Below)
set_option linter.unusedVariables false
set_option linter.unusedSimpArgs false
theorem Lies.fnil{F:List Rw}{vs:List IV}{rs:List (List Ex)}(h:Lies F vs rs):rs= [] →F= []:=by
 induction h with
 |nil=>intro _;rfl
 |none _ _=>intro e;simp at e
 |some _ _ _ _ _ _ _ _=>intro e;simp at e
theorem CallF.pub{gs:Globs}{P:Program}{f:FuncId}{args:List AV}{R:List AV→List Rw→Prop}{vs':List AV}(h:CallF gs P f args R)(hp: ∀vs F,R vs F→ ∀(c:Ctx) (X:Act→World→Prop),L c ⟨[(0,.agg vs')],[],[]⟩ X→LF c F ⟨[(0,.agg vs)],[],[]⟩ X):CallG gs P f args [] [] [] (.agg vs'):=by
 intro E w us h1 h2 h3
 refine(h E w us h1 h2 h3).mono ?_
 rintro e w' ⟨vs,F,u,E',hR,he,hu,hh,hF⟩
 have:=hp vs F hR ⟨1,w,E,[]⟩ (fun a w''=> ∃E2,RepA E2 w'' (.agg vs') (a.tmps.getD 0 undef)∧HInv ⟨0,w,E,[]⟩ E2 [] [] w'') (by
  rintro a w'' ⟨E2,hi⟩
  refine⟨E2,hi.slot 0 _ rfl,?_⟩
  exact⟨hi.heap.box,hi.heap.tok,hi.heap.bb,hi.heap.tt,hi.heap.bt,hi.heap.own,hi.heap.ownt,hi.heap.new,hi.heap.old,hi.heap.ins,hi.heap.kept⟩) ({tmps:= #[u],defers:= []}:Act) w' E' ⟨rfl,rfl,(fun s v h=>by
   by_cases e:s=0
   · subst e;rw[lookup_cons_eq] at h;cases h;exact hu
   · rw[lookup_cons_ne e] at h;cases h),⟨hh.box,hh.tok,hh.bb,hh.tt,hh.bt,hh.own,hh.ownt,hh.new,hh.old,hh.ins,hh.kept⟩⟩ ⟨hF.ok,hF.own,hF.bx,hF.nd⟩
 obtain⟨E2,hE1,hE2⟩:=this
 exact⟨u,E2,he,hE1,hE2⟩
section
variable {c:Ctx}{F:List Rw}{st:St}{X:Act→World→Prop}
theorem L.first(s:Nat){v:AV}{fr:List (Nat×AV)}{bx:List (Nat×Box)}{tk:List (Nat×Tok)}(h:L c ⟨[(s,v)],bx,tk⟩ X):L c ⟨(s,v)::fr,bx,tk⟩ X:=fun a w ⟨E,hi⟩=>
 h a w ⟨E,hi.defers,hi.size,(fun s' v' hv=>by
   by_cases e:s'=s
   · subst e;rw[lookup_cons_eq] at hv;cases hv;exact hi.slot s' v lookup_cons_eq
   · rw[lookup_cons_ne e] at hv;cases hv),hi.heap⟩
theorem LF.pubL(s j:Nat){t:TypeId}{k:Nat}{v:IV}{G F1 F2:List Rw}{es:List (List IV)}{vs:List AV}(ho:OwnL t k v G es)(hk: ∀e∈es,e.length=k)(hF:F=F1++(G++F2))(hs:st.fr.lookup s=some (.agg vs))(hj:vs[j]?=some (.iv v))(htk:st.tk= [])
 (h:LF c (F1++F2) ⟨(s,.agg (vs.set j (.iv (.sl es))))::st.fr,st.bx,st.tk⟩ X):LF c F st X:=by
 subst hF
 rcases ho with⟨rfl,rfl,rfl⟩|⟨r,rfl,rfl,h1,h2,h3,h4,h5⟩
 · rw[List.nil_append]
   intro a w E hi hF
   refine h a w E ⟨hi.defers,hi.size,(fun s' v' hv=> ?_),hi.heap⟩ hF
   by_cases e:s'=s
   · subst e
     rw[lookup_cons_eq] at hv;cases hv
     have h0:=hi.slot s' _ hs
     generalize a.tmps.getD s' undef=u at h0
     cases h0 with
     | @agg _ us hl h1 hr=>
       refine .agg (by rw[hl,List.length_set]) h1 (fun i x u hx hu=> ?_)
       by_cases ei:i=j
       · subst ei
         rw[List.getElem?_set_self (List.getElem?_eq_some_iff.1 hj).1] at hx
         cases hx
         exact Sub.nils E w u (nilI_out E w u (hr i _ u hj hu))
       · rw[List.getElem?_set_ne (Ne.symm ei)] at hx
         exact hr i x u hx hu
   · rw[lookup_cons_ne e] at hv;exact hi.slot s' v' hv
 · exact LF.pubS s j (F1:=F1) (F2:=F2) (r:=r) (by simp) hs hj h4.symm (by rw[h2];exact hk) h3.symm htk h
theorem LF.pubRows{Fi:List Rw}{vs:List IV}{rs:List (List Ex)}(hl:Lies Fi vs rs): ∀(done:List IV) (q:Rw) (F2:List Rw) {F:List Rw},F=q::(Fi++F2)→q.xs=vs++done→st.tk= [] →
 (∀q':Rw,q'.u=q.u→q'.t=q.t→q'.n=q.n→q'.k=q.k→q'.xs=(rs.map fun x=>IV.sl (x.map Ex.c))++done→LF c (q'::F2) st X)→LF c F st X:=by
 induction hl with
 |nil=>intro done q F2 F hF hx htk h;subst hF;exact h q rfl rfl rfl rfl (by simpa using hx)
 | @none Fi vs rs hl ih=>
   intro done q F2 F hF hx htk h
   refine ih (.sl []::done) q F2 hF (by rw[hx];simp) htk (fun q' h1 h2 h3 h4 h5=>h q' h1 h2 h3 h4 ?_)
   rw[h5];simp
 | @some Fi vs rs x r hl ht hn hk hxs hne ih=>
   intro done q F2 F hF hx htk h
   refine LF.pubR vs.length (q:=q) (r:=r) (F1:= []) (F2:=Fi++F2) (es:=x.map Ex.c) (by rw[hF];rfl) (by rw[hx];simp) hxs.symm (by rw[hk];exact map_len exl8 x) (by rw[hn];simp) htk ?_
   refine ih (.sl (x.map Ex.c)::done) ⟨q.t,q.b,q.n,q.cap,q.k,q.xs.set vs.length (.sl (x.map Ex.c))⟩ F2 rfl ?_ htk (fun q' h1 h2 h3 h4 h5=>h q' h1 h2 h3 h4 ?_)
   · simp only
     rw[hx];simp
   · rw[h5];simp
theorem flat_exRow(rs:List (List Ex)):(rs.map exRow).flatten=rs.map fun x=>IV.sl (x.map Ex.c):=by
 induction rs with
 |nil=>rfl
 |cons x rs ih=>rw[List.map_cons,List.flatten_cons,ih];rfl
theorem LF.pubRS(s j:Nat){v:IV}{G F2:List Rw}{rs:List (List Ex)}{vs:List AV}(ho:OwnR v G rs)(hF:F=G++F2)(hs:st.fr.lookup s=some (.agg vs))(hj:vs[j]?=some (.iv v))(htk:st.tk= [])
 (h:LF c F2 ⟨(s,.agg (vs.set j (.iv (.sl (rs.map exRow)))))::st.fr,st.bx,st.tk⟩ X):LF c F st X:=by
 obtain⟨us,Go,Fi,hL,hl,rfl⟩:=ho
 rcases hL with⟨h0,rfl,rfl⟩|⟨r,rfl,rfl,h1,h2,h3,h4,h5⟩
 · have hu:us= []:=by simpa using h0
   subst hu
   have hr:rs= []:=List.length_eq_zero_iff.1 hl.len.symm
   subst hr
   have hFi:Fi= []:=hl.fnil rfl
   subst hFi
   exact LF.pubL s j (F1:= []) (G:= []) (F2:=F2) (t:=0) (k:=1) (es:= []) (.inl ⟨rfl,rfl,rfl⟩) (by simp) (by rw[hF];rfl) hs hj htk h
 · refine LF.pubRows hl [] r F2 (by rw[hF];simp) (by rw[h4,oneC_flat];simp) htk (fun q' e1 e2 e3 e4 e5=> ?_)
   refine LF.pubS s j (F1:= []) (F2:=F2) (r:=q') (es:=rs.map exRow) rfl hs (by rw[e1];exact hj) (by rw[e5,flat_exRow];simp) (by rw[e4,h2];exact map_len (f:=exRow) (fun _=>rfl) rs) (by rw[e3,h3];simp[hl.len]) htk h
end
theorem copyStmt_any{gs:Globs}(s:Stm)(ok:CpOk s):CallG gs Tryz.prog 5 [.agg (s.cs.map .iv)] [] [] [] (.agg (s.cs.map .iv)):=by
 refine CallF.pub (copyStmt_own s ok) (fun vs F hR c X h=> ?_)
 obtain⟨vR,vS,vO,vD,GR,GS,GO,GD,hR,hS,hO,hD,rfl,rfl⟩:=hR
 refine LF.pubL 0 17 (F1:= []) hD (map_len exl8 _) (by simp only[List.append_assoc,List.nil_append];rfl) rfl rfl rfl ?_
 refine LF.pubL 0 8 (F1:= []) hO (map_len exl8 _) rfl rfl rfl rfl ?_
 refine LF.pubL 0 6 (F1:= []) hS (map_len astl _) rfl rfl rfl rfl ?_
 refine LF.pubRS 0 5 (F2:= []) hR (by simp) rfl rfl rfl ?_
 refine LF.drop ?_
 exact L.first 0 h
end Go.Proofs.YthcjohcakdnmmaaGreatDoor
