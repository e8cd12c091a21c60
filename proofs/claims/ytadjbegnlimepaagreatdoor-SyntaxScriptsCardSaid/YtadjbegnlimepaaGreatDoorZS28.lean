/- Several texts in one, each with its own sentence ahead of it. Conditions: each one says its own. -/
import Derived.Test.YtadjbegnlimepaaGreatDoorZS26
import Derived.Test.YtadjbegnlimepaaGreatDoorZS27
set_option linter.all false
namespace Go.Proofs.YtadjbegnlimepaaGreatDoor
open Go.Abs
set_option maxRecDepth 100000
set_option linter.unusedVariables false
set_option linter.unusedSimpArgs false
def wINT:Str:= [105,110,116]
def wTEXT:Str:= [116,101,120,116]
def wMUST:Str:= [109,117,115,116]
def wWHERE:Str:= [119,104,101,114,101]
def wCREATE:Str:= [99,114,101,97,116,101]
def wTABLE:Str:= [116,97,98,108,101]
def wINDEX:Str:= [105,110,100,101,120]
def wON:Str:= [111,110]
def wDROP:Str:= [100,114,111,112]
def wINSERT:Str:= [105,110,115,101,114,116]
def wINTO:Str:= [105,110,116,111]
def wVALUES:Str:= [118,97,108,117,101,115]
def wDELETE:Str:= [100,101,108,101,116,101]
def wFROM:Str:= [102,114,111,109]
def wUPDATE:Str:= [117,112,100,97,116,101]
def wSET:Str:= [115,101,116]
def wSELECT:Str:= [115,101,108,101,99,116]
def wORDER:Str:= [111,114,100,101,114]
def wBY:Str:= [98,121]
def wDESC:Str:= [100,101,115,99]
def wLIMIT:Str:= [108,105,109,105,116]
def colEnd(n:Str)(t:Int)(r:Rd):Col×Rd:=(⟨n,t,(atRd r [wMUST]).1⟩,(atRd r [wMUST]).2)
def psCol(r:Rd):Col×Rd:=
 if(atRd (nameM r).2 [wINT]).1 then colEnd (nameM r).1 1 (atRd (nameM r).2 [wINT]).2
 else if(atRd (nameM r).2 [wTEXT]).1 then colEnd (nameM r).1 2 (atRd (nameM r).2 [wTEXT]).2
 else colEnd (nameM r).1 0 ⟨(nameM r).2.l,true⟩
def psWhere(r:Rd):Ex×Rd:=if(atRd r [wWHERE]).1 then psO 6 (atRd r [wWHERE]).2 else(nilE,r)
def psRow(r:Rd):List Ex×Rd:=((psList (psO 6) (takeM r [[40]])).1,takeM (psList (psO 6) (takeM r [[40]])).2 [[41]])
def psSet(r:Rd):Ast×Rd:=(⟨(nameM r).1,(psO 6 (takeM (nameM r).2 [[61]])).1⟩,(psO 6 (takeM (nameM r).2 [[61]])).2)
def stm0:Stm:=⟨0,[],[],[],[],[],[],[],[],nilE,[],false,-1⟩
def psCreate(r:Rd):Stm×Rd:=
 ({stm0 with kind:=1,name:=(nameM r).1,cols:=(psList psCol (takeM (nameM r).2 [[40]])).1},takeM (psList psCol (takeM (nameM r).2 [[40]])).2 [[41]])
def psMark1(r:Rd):Rd:=takeM (nameM r).2 [wON]
def psMark2(r:Rd):Rd:=takeM (nameM r).2 [[40]]
def psMark(r:Rd):Stm×Rd:=
 ({stm0 with kind:=2,name:=(nameM r).1,table:=(nameM (psMark1 r)).1,col:=(nameM (psMark2 (psMark1 r))).1},takeM (nameM (psMark2 (psMark1 r))).2 [[41]])
def psDrop(r:Rd):Stm×Rd:=({stm0 with kind:=3,name:=(nameM r).1},(nameM r).2)
def psInsert(r:Rd):Stm×Rd:=({stm0 with kind:=4,table:=(nameM r).1,rows:=(psList psRow (takeM (nameM r).2 [wVALUES])).1},(psList psRow (takeM (nameM r).2 [wVALUES])).2)
def psDelete(r:Rd):Stm×Rd:=({stm0 with kind:=5,table:=(nameM r).1,wh:=(psWhere (nameM r).2).1},(psWhere (nameM r).2).2)
def psUpd1(r:Rd):List Ast×Rd:=psList psSet (takeM (nameM r).2 [wSET])
def psUpdate(r:Rd):Stm×Rd:=({stm0 with kind:=6,table:=(nameM r).1,sets:=(psUpd1 r).1,wh:=(psWhere (psUpd1 r).2).1},(psWhere (psUpd1 r).2).2)
def psOut(r:Rd):List Ex×Rd:=if(atRd r [[42]]).1 then([],(atRd r [[42]]).2) else psList (psO 6) r
def psFrom(r:Rd):List Str×Rd:=psList nameM (takeM r [wFROM])
def psOrd(r:Rd):(List Ex×Bool)×Rd:=
 if(atRd r [wORDER,wBY]).1 then(([(psO 6 (atRd r [wORDER,wBY]).2).1],(atRd (psO 6 (atRd r [wORDER,wBY]).2).2 [wDESC]).1),(atRd (psO 6 (atRd r [wORDER,wBY]).2).2 [wDESC]).2)
 else(([],false),r)
def psLimit(r:Rd):Int×Rd:=if(atRd r [wLIMIT]).1 then psNumber (atRd r [wLIMIT]).2 else(-1,r)
def psSelect(r:Rd):Stm×Rd:=
 ({stm0 with kind:=7,out:=(psOut r).1,frm:=(psFrom (psOut r).2).1,wh:=(psWhere (psFrom (psOut r).2).2).1,ord:=(psOrd (psWhere (psFrom (psOut r).2).2).2).1.1,down:=(psOrd (psWhere (psFrom (psOut r).2).2).2).1.2,n:=(psLimit (psOrd (psWhere (psFrom (psOut r).2).2).2).2).1},
   (psLimit (psOrd (psWhere (psFrom (psOut r).2).2).2).2).2)
def psStmt(r:Rd):Stm×Rd:=
 if(atRd r [wCREATE,wTABLE]).1 then psCreate (atRd r [wCREATE,wTABLE]).2
 else if(atRd r [wCREATE,wINDEX]).1 then psMark (atRd r [wCREATE,wINDEX]).2
 else if(atRd r [wDROP,wTABLE]).1 then psDrop (atRd r [wDROP,wTABLE]).2
 else if(atRd r [wINSERT,wINTO]).1 then psInsert (atRd r [wINSERT,wINTO]).2
 else if(atRd r [wDELETE,wFROM]).1 then psDelete (atRd r [wDELETE,wFROM]).2
 else if(atRd r [wUPDATE]).1 then psUpdate (atRd r [wUPDATE]).2
 else if(atRd r [wSELECT]).1 then psSelect (atRd r [wSELECT]).2
 else(stm0,⟨r.l,true⟩)
theorem sf_colEnd(n:Str)(t:Int)(r:Rd):Sf r (colEnd n t r).2:=sf_at r _
theorem sf_col(r:Rd):Sf r (psCol r).2:=by
 unfold psCol
 split
 · exact((sf_name r).trans (sf_at _ _)).trans (sf_colEnd _ _ _)
 split
 · exact((sf_name r).trans (sf_at _ _)).trans (sf_colEnd _ _ _)
 · exact((sf_name r).trans (.mark _ true)).trans (sf_colEnd _ _ _)
theorem sf_where(r:Rd):Sf r (psWhere r).2:=by
 unfold psWhere;split
 · exact(sf_at r _).trans (eats_O 6 _)
 · exact .refl r
theorem sf_row(r:Rd):Sf r (psRow r).2:=((sf_take r _).trans (sf_list (eats_O 6) _)).trans (sf_take _ _)
theorem sf_set(r:Rd):Sf r (psSet r).2:=((sf_name r).trans (sf_take _ _)).trans (eats_O 6 _)
theorem sf_out(r:Rd):Sf r (psOut r).2:=by
 unfold psOut;split
 · exact sf_at r _
 · exact sf_list (eats_O 6) r
theorem sf_from(r:Rd):Sf r (psFrom r).2:=(sf_take r _).trans (sf_list sf_name _)
theorem sf_ord(r:Rd):Sf r (psOrd r).2:=by
 unfold psOrd;split
 · exact((sf_at r _).trans (eats_O 6 _)).trans (sf_at _ _)
 · exact .refl r
theorem sf_limit(r:Rd):Sf r (psLimit r).2:=by
 unfold psLimit;split
 · exact(sf_at r _).trans (sf_number _)
 · exact .refl r
attribute [local irreducible] psOut psFrom psWhere psOrd psLimit psList psO nameM takeM atRd psCol psRow psSet
theorem sf_select(r:Rd):Sf r (psSelect r).2:=((((sf_out r).trans (sf_from _)).trans (sf_where _)).trans (sf_ord _)).trans (sf_limit _)
theorem sf_create(r:Rd):Sf r (psCreate r).2:=(((sf_name r).trans (sf_take _ _)).trans (sf_list sf_col _)).trans (sf_take _ _)
theorem sf_mark(r:Rd):Sf r (psMark r).2:=(((((sf_name r).trans (sf_take _ _)).trans (sf_name _)).trans (sf_take _ _)).trans (sf_name _)).trans (sf_take _ _)
theorem sf_insert(r:Rd):Sf r (psInsert r).2:=((sf_name r).trans (sf_take _ _)).trans (sf_list sf_row _)
theorem sf_delete(r:Rd):Sf r (psDelete r).2:=(sf_name r).trans (sf_where _)
theorem sf_upd1(r:Rd):Sf r (psUpd1 r).2:=((sf_name r).trans (sf_take _ _)).trans (sf_list sf_set _)
attribute [local irreducible] psUpd1
theorem sf_update(r:Rd):Sf r (psUpdate r).2:=(sf_upd1 r).trans (sf_where _)
theorem sf_stmt(r:Rd):Sf r (psStmt r).2:=by
 unfold psStmt
 split
 · exact(sf_at r _).trans (sf_create _)
 split
 · exact(sf_at r _).trans (sf_mark _)
 split
 · exact(sf_at r _).trans (sf_name _)
 split
 · exact(sf_at r _).trans (sf_insert _)
 split
 · exact(sf_at r _).trans (sf_delete _)
 split
 · exact(sf_at r _).trans (sf_update _)
 split
 · exact(sf_at r _).trans (sf_select _)
 · exact .mark r true
def psScriptL:Nat→List Stm→Rd→List Stm×Rd
 |0,l,r=>(l,r)
 |n+1,l,r=>if r.l= [] ∨r.bad=true then(l,r) else psScriptL n (l++ [(psStmt r).1]) (takeM (psStmt r).2 [[59]])
def rdOf(s:Str):Rd:=match splitM s with
 |some l=>⟨l,false⟩
 |none=>⟨[],true⟩
def psScript(s:Str):List Stm×Int:=
 if 1500<s.length then([],2)
 else if(psScriptL ((rdOf s).l.length+1) [] (rdOf s)).2.bad then([],1)
 else if 6<(psScriptL ((rdOf s).l.length+1) [] (rdOf s)).1.length then([],2)
 else((psScriptL ((rdOf s).l.length+1) [] (rdOf s)).1,0)
end Go.Proofs.YtadjbegnlimepaaGreatDoor
namespace Go.Proofs.YtadjbegnlimepaaGreatDoor
open Go.Abs
set_option maxRecDepth 100000
attribute [local irreducible] L Code.wp bodyPost Exit.then Exit.inBlock
set_option linter.unusedVariables false
set_option linter.unusedSimpArgs false
variable [Errs]
set_option linter.unusedSectionVars false
set_option maxHeartbeats 8000000 in
theorem col_any(r:Rd)(hr:RdOk r):CallG gsP Tryz.prog 25 [.ptr 1000 0] [(1000,rdB r)] [(1000,rdB (psCol r).2)] [] (.agg ((psCol r).1.c.map .iv)):=by
 have k1:=toP (name_any r hr)
 have ho:=(sf_name r).ok hr
 unfold psCol colEnd
 generalize nameM r=p at*
 obtain⟨nm,r1⟩:=p
 dsimp only at*
 refine CallG.intro _ Tryz.func25 rfl Tryz.ntmps25 rfl (fun w0 E0 hG=> ?_)
 have k2:=at_any (gs:=gsP) r1 [wINT] ho (by decide)
 cases h2:(atRd r1 [wINT]).1 with
 |true=>
  rw[if_pos rfl]
  rw[h2] at k2
  have k4:=at_any (gs:=gsP) (atRd r1 [wINT]).2 [wMUST] ((sf_at r1 _).ok ho) (by decide)
  generalize (atRd r1 [wINT]).2=r2 at*
  generalize atRd r2 [wMUST] =p at*
  obtain⟨b,r3⟩:=p
  dsimp only at*
  (repeat' (first|(refine LW.is ?_;first|(apply s_callQ1 (q:=1000) (ha:=rfl);(case hb=>exact rfl);(case hc=>assumption);(case hG=>assumption);exact rfl;exact rfl;exact rfl;exact rfl))|(refine DR.is ?_;first|(apply d_callQ1 (q:=1000) (ha:=rfl);(case hb=>exact rfl);(case hc=>assumption);(case hG=>assumption);exact rfl;exact rfl;exact rfl;exact rfl))|refine wk1 ?_|refine wk2 (fun hb hp=> ?_) (fun hb hp=> ?_)|fail))
  all_goals refine wkq ?_ ?_
  all_goals rfl
 |false=>
 rw[if_neg (by decide)]
 rw[h2,at_no h2] at k2
 have k3:=at_any (gs:=gsP) r1 [wTEXT] ho (by decide)
 cases h3:(atRd r1 [wTEXT]).1 with
 |true=>
  rw[if_pos rfl]
  rw[h3] at k3
  have k4:=at_any (gs:=gsP) (atRd r1 [wTEXT]).2 [wMUST] ((sf_at r1 _).ok ho) (by decide)
  generalize (atRd r1 [wTEXT]).2=r2 at*
  generalize atRd r2 [wMUST] =p at*
  obtain⟨b,r3⟩:=p
  dsimp only at*
  (repeat' (first|(refine LW.is ?_;first|(apply s_callQ1 (q:=1000) (ha:=rfl);(case hb=>exact rfl);(case hc=>assumption);(case hG=>assumption);exact rfl;exact rfl;exact rfl;exact rfl))|(refine DR.is ?_;first|(apply d_callQ1 (q:=1000) (ha:=rfl);(case hb=>exact rfl);(case hc=>assumption);(case hG=>assumption);exact rfl;exact rfl;exact rfl;exact rfl))|refine wk1 ?_|refine wk2 (fun hb hp=> ?_) (fun hb hp=> ?_)|fail))
  all_goals refine wkq ?_ ?_
  all_goals rfl
 |false=>
 rw[if_neg (by decide)]
 rw[h3,at_no h3] at k3
 have k4:=at_any (gs:=gsP) ⟨r1.l,true⟩ [wMUST] ((Sf.mark r1 true).ok ho) (by decide)
 generalize atRd ⟨r1.l,true⟩ [wMUST] =p at*
 obtain⟨b,r3⟩:=p
 dsimp only at*
 (repeat' (first|(refine LW.is ?_;first|(apply s_callQ1 (q:=1000) (ha:=rfl);(case hb=>exact rfl);(case hc=>assumption);(case hG=>assumption);exact rfl;exact rfl;exact rfl;exact rfl))|(refine DR.is ?_;first|(apply d_callQ1 (q:=1000) (ha:=rfl);(case hb=>exact rfl);(case hc=>assumption);(case hG=>assumption);exact rfl;exact rfl;exact rfl;exact rfl))|refine wk1 ?_|refine wk2 (fun hb hp=> ?_) (fun hb hp=> ?_)|fail))
 all_goals refine wkq ?_ ?_
 all_goals rfl
set_option maxHeartbeats 8000000 in
theorem where_any'(r:Rd)(hr:RdOk r):CallG gsP Tryz.prog 29 [.ptr 1000 0] [(1000,rdB r)] [(1000,rdB (psWhere r).2)] [] (.agg ((psWhere r).1.cs.map .iv)):=by
 have k1:=at_any (gs:=gsP) r [wWHERE] hr (by decide)
 unfold psWhere
 refine CallG.intro _ Tryz.func29 rfl Tryz.ntmps29 rfl (fun w0 E0 hG=> ?_)
 cases h1:(atRd r [wWHERE]).1 with
 |true=>
  rw[if_pos rfl]
  rw[h1] at k1
  have k2:=exprP (atRd r [wWHERE]).2 ((sf_at r _).ok hr)
  generalize (atRd r [wWHERE]).2=r1 at*
  generalize psO 6 r1=p at*
  obtain⟨e,r2⟩:=p
  dsimp only at*
  (repeat' (first|(refine LW.is ?_;first|(apply s_callQ1 (q:=1000) (ha:=rfl);(case hb=>exact rfl);(case hc=>assumption);(case hG=>assumption);exact rfl;exact rfl;exact rfl;exact rfl))|(refine DR.is ?_;first|(apply d_callQ1 (q:=1000) (ha:=rfl);(case hb=>exact rfl);(case hc=>assumption);(case hG=>assumption);exact rfl;exact rfl;exact rfl;exact rfl))|refine wk1 ?_|refine wk2 (fun hb hp=> ?_) (fun hb hp=> ?_)|fail))
  all_goals refine wkq ?_ ?_
  all_goals rfl
 |false=>
  rw[if_neg (by decide)]
  rw[h1,at_no h1] at k1
  (repeat' (first|(refine LW.is ?_;first|(apply s_callQ1 (q:=1000) (ha:=rfl);(case hb=>exact rfl);(case hc=>assumption);(case hG=>assumption);exact rfl;exact rfl;exact rfl;exact rfl))|(refine DR.is ?_;first|(apply d_callQ1 (q:=1000) (ha:=rfl);(case hb=>exact rfl);(case hc=>assumption);(case hG=>assumption);exact rfl;exact rfl;exact rfl;exact rfl))|refine wk1 ?_|refine wk2 (fun hb hp=> ?_) (fun hb hp=> ?_)|fail))
  all_goals refine wkq ?_ ?_
  all_goals rfl
end Go.Proofs.YtadjbegnlimepaaGreatDoor
namespace Go.Proofs.YtadjbegnlimepaaGreatDoor
open Go.Abs
set_option maxRecDepth 100000
attribute [local irreducible] L Code.wp bodyPost Exit.then Exit.inBlock
set_option linter.unusedVariables false
set_option linter.unusedSimpArgs false
set_option linter.unusedSectionVars false
abbrev sB(k:Int)(nm tb:Str)(c4 c5 c6 c7 c8:AV):Box:=⟨39,.l [aI k,aS nm,aS tb,aS [],c4,c5,c6,c7,c8,aI 0,aI 0,aI 0,aS [],aS [],aS [],aI 0,.nils,.nils,aB false,aI (-1)]⟩
theorem row_ne{α:Type}{f:α→List IV}{k:Nat}(hk: ∀x,(f x).length=k)(h0:0<k){l:List α}(h:l≠ []):(l.map f).flatten≠ []:=
 flat_ne (k:=k) (fun e he=>by obtain⟨x,_,rfl⟩:=List.mem_map.1 he;exact hk x) h0 (by simpa using h)
theorem row_live{α:Type}{f:α→List IV}{k:Nat}{ty:TypeId}(hk: ∀x,(f x).length=k)(h0:0<k){l:List α}(h:l≠ []):(Box.mk ty (.r (l.map f).flatten 0)).cs.isEmpty=false:=by
 have:=row_ne hk h0 h
 cases hq:(l.map f).flatten with
 |nil=>exact absurd hq this
 |cons x xs=>rfl
theorem row_len{α:Type}{f:α→List IV}{k:Nat}(hk: ∀x,(f x).length=k)(l:List α): ∀e∈l.map f,e.length=k:=fun e he=>by obtain⟨x,_,rfl⟩:=List.mem_map.1 he;exact hk x
theorem row_more{α:Type}{f:α→List IV}(l:List α)(x:α):(l.map f).take l.length++ [f x] =(l++ [x]).map f:=by rw[List.take_of_length_le (by simp),List.map_append];rfl
theorem one_len{k:Nat}{x:List IV}(h:x.length=k): ∀e∈ [x],e.length=k:=fun e he=>by rw[List.mem_singleton.1 he];exact h
variable [Errs]
set_option maxHeartbeats 8000000 in
theorem grows1(nm:Str):Grows 24 [.ptr 1001 0,.ptr 1003 0] (sB 1 nm [] .nils .nils .nils .nils .nils) (fun i n=>sB 1 nm [] (.bsh i 0 n 3) .nils .nils .nils .nils) (fun l=>⟨54,.r (l.map Col.c).flatten 0⟩) psCol where
 gn l h:=row_live (f:=Col.c) (k:=3) (fun _=>rfl) (by decide) h
 c0 r hr:=by
  have kc:=col_any r hr
  generalize psCol r=p at*
  obtain⟨x,r1⟩:=p
  dsimp only at*
  refine CallG.intro _ Tryz.func24 rfl Tryz.ntmps24 rfl (fun w0 E0 hG=> ?_)
  (repeat' (first|(refine LW.is ?_;first|(apply s_callQ1 (q:=1000) (ha:=rfl);(case hb=>exact rfl);(case hc=>assumption);(case hG=>assumption);exact rfl;exact rfl;exact rfl;exact rfl)|(apply s_nilR 1002 (news:= [x.c]);exact rfl;exact rfl;exact rfl;exact one_len rfl;exact List.cons_ne_nil _ _;exact(by simp[maxLen]);exact(by simp);exact rfl))|(refine DR.is ?_;first|(apply d_callQ1 (q:=1000) (ha:=rfl);(case hb=>exact rfl);(case hc=>assumption);(case hG=>assumption);exact rfl;exact rfl;exact rfl;exact rfl)|(apply d_nilR 1002 (news:= [x.c]);exact rfl;exact rfl;exact rfl;exact one_len rfl;exact List.cons_ne_nil _ _;exact(by simp[maxLen]);exact(by simp);exact rfl))|refine wk1 ?_|refine wk2 (fun hb hp=> ?_) (fun hb hp=> ?_)|fail))
  apply L.endQ0N;exact rfl;exact rfl;exact Wk.mk' (keys_all rfl) .nil (.cons rfl rfl (Subs.refl _) (.cons rfl rfl (Subs.refl _) (.cons rfl rfl (Subs.refl _) (.cons rfl rfl (Subs.refl _) .nil)))) .nil;exact rfl
 c1 r l hr hl hn:=by
  have kc:=col_any r hr
  generalize psCol r=p at*
  obtain⟨x,r1⟩:=p
  dsimp only at*
  refine CallG.intro _ Tryz.func24 rfl Tryz.ntmps24 rfl (fun w0 E0 hG=> ?_)
  (repeat' (first|(refine LW.is ?_;first|(apply s_callQ1 (q:=1000) (ha:=rfl);(case hb=>exact rfl);(case hc=>assumption);(case hG=>assumption);exact rfl;exact rfl;exact rfl;exact rfl)|(apply s_appendH 1004 (es:=l.map Col.c) (n:=l.length) (news:= [x.c]) (er:=(l++ [x]).map Col.c) (nr:=l.length+1);exact rfl;exact rfl;exact rfl;exact rfl;exact .inl (row_ne (f:=Col.c) (k:=3) (fun _=>rfl) (by decide) hl);exact row_len (f:=Col.c) (k:=3) (fun _=>rfl) l;exact one_len rfl;exact(by rw[List.length_map];exact Nat.le_refl _);exact List.cons_ne_nil _ _;exact(by simp[maxLen];omega);exact(by simp;omega);exact rfl;exact row_more l x;exact rfl))|(refine DR.is ?_;first|(apply d_callQ1 (q:=1000) (ha:=rfl);(case hb=>exact rfl);(case hc=>assumption);(case hG=>assumption);exact rfl;exact rfl;exact rfl;exact rfl)|(apply d_appendH 1004 (es:=l.map Col.c) (n:=l.length) (news:= [x.c]) (er:=(l++ [x]).map Col.c) (nr:=l.length+1);exact rfl;exact rfl;exact rfl;exact rfl;exact .inl (row_ne (f:=Col.c) (k:=3) (fun _=>rfl) (by decide) hl);exact row_len (f:=Col.c) (k:=3) (fun _=>rfl) l;exact one_len rfl;exact(by rw[List.length_map];exact Nat.le_refl _);exact List.cons_ne_nil _ _;exact(by simp[maxLen];omega);exact(by simp;omega);exact rfl;exact row_more l x;exact rfl))|refine wk1 ?_|refine wk2 (fun hb hp=> ?_) (fun hb hp=> ?_)|fail))
  apply L.endQ0N;exact rfl;exact rfl;exact Wk.mk' (keys_all rfl) .nil (.cons rfl rfl (Subs.refl _) (.cons rfl rfl (Subs.refl _) (.cons rfl rfl (Subs.refl _) (.cons rfl rfl (Subs.refl _) (.cons rfl rfl (Subs.refl _) .nil))))) .nil;exact rfl
end Go.Proofs.YtadjbegnlimepaaGreatDoor
namespace Go.Proofs.YtadjbegnlimepaaGreatDoor
open Go.Abs
set_option maxRecDepth 100000
attribute [local irreducible] L Code.wp bodyPost Exit.then Exit.inBlock
set_option linter.unusedVariables false
set_option linter.unusedSimpArgs false
variable [Errs]
set_option linter.unusedSectionVars false
theorem exc_len(x:Ex):x.c.length=8:=by rw[Ex.c_cs];rfl
def zeroX:List IV:= [I 0,I 0,I 0,S [],S [],S [],I 0,.sl []]
theorem set_last{α:Type}(l:List α)(y z:α):(l++ [y]).set l.length z=l++ [z]:=by simp
theorem more_x(l:List Ex)(x:Ex):(l.map Ex.c++ [zeroX]).set l.length x.cs=(l++ [x]).map Ex.c:=by
 have:=set_last (l.map Ex.c) zeroX x.cs
 rw[List.length_map] at this
 rw[this,List.map_append,List.map_cons,List.map_nil,Ex.c_cs]
theorem len_x(l:List Ex): ∀e∈l.map Ex.c++ [zeroX],e.length=8:=fun e he=>by
 rcases List.mem_append.1 he with h|h
 · exact row_len exc_len l e h
 · rw[List.mem_singleton.1 h];rfl
set_option maxHeartbeats 8000000 in
theorem grows5(O:IV):Grows 32 [.ptr 1001 0,.ptr 1003 0] (sB 7 [] [] .nils .nils .nils .nils (.iv O)) (fun i n=>sB 7 [] [] .nils .nils .nils (.bsh i 0 n 1) (.iv O)) (fun l=>⟨9,.r (l.map Str.c).flatten 0⟩) nameM where
 gn l h:=row_live (f:=Str.c) (k:=1) (fun _=>rfl) (by decide) h
 c0 r hr:=by
  have kc:=toP (name_any r hr)
  generalize nameM r=p at*
  obtain⟨x,r1⟩:=p
  dsimp only at*
  refine CallG.intro _ Tryz.func32 rfl Tryz.ntmps32 rfl (fun w0 E0 hG=> ?_)
  (repeat' (first|(refine LW.is ?_;first|(apply s_callQ1 (q:=1000) (ha:=rfl);(case hb=>exact rfl);(case hc=>assumption);(case hG=>assumption);exact rfl;exact rfl;exact rfl;exact rfl)|(apply s_nilR 1002 (news:= [Str.c x]);exact rfl;exact rfl;exact rfl;exact one_len rfl;exact List.cons_ne_nil _ _;exact(by simp[maxLen]);exact(by simp);exact rfl))|(refine DR.is ?_;first|(apply d_callQ1 (q:=1000) (ha:=rfl);(case hb=>exact rfl);(case hc=>assumption);(case hG=>assumption);exact rfl;exact rfl;exact rfl;exact rfl)|(apply d_nilR 1002 (news:= [Str.c x]);exact rfl;exact rfl;exact rfl;exact one_len rfl;exact List.cons_ne_nil _ _;exact(by simp[maxLen]);exact(by simp);exact rfl))|refine wk1 ?_|refine wk2 (fun hb hp=> ?_) (fun hb hp=> ?_)|fail))
  apply L.endQ0N;exact rfl;exact rfl;exact Wk.mk' (keys_all rfl) .nil (.cons rfl rfl (Subs.refl _) (.cons rfl rfl (Subs.refl _) (.cons rfl rfl (Subs.refl _) (.cons rfl rfl (Subs.refl _) .nil)))) .nil;exact rfl
 c1 r l hr hl hn:=by
  have kc:=toP (name_any r hr)
  generalize nameM r=p at*
  obtain⟨x,r1⟩:=p
  dsimp only at*
  refine CallG.intro _ Tryz.func32 rfl Tryz.ntmps32 rfl (fun w0 E0 hG=> ?_)
  (repeat' (first|(refine LW.is ?_;first|(apply s_callQ1 (q:=1000) (ha:=rfl);(case hb=>exact rfl);(case hc=>assumption);(case hG=>assumption);exact rfl;exact rfl;exact rfl;exact rfl)|(apply s_appendH 1004 (es:=l.map Str.c) (n:=l.length) (news:= [Str.c x]) (er:=(l++ [x]).map Str.c) (nr:=l.length+1);exact rfl;exact rfl;exact rfl;exact rfl;exact .inl (row_ne (f:=Str.c) (k:=1) (fun _=>rfl) (by decide) hl);exact row_len (f:=Str.c) (k:=1) (fun _=>rfl) l;exact one_len rfl;exact(by rw[List.length_map];exact Nat.le_refl _);exact List.cons_ne_nil _ _;exact(by simp[maxLen];omega);exact(by simp;omega);exact rfl;exact row_more l x;exact rfl))|(refine DR.is ?_;first|(apply d_callQ1 (q:=1000) (ha:=rfl);(case hb=>exact rfl);(case hc=>assumption);(case hG=>assumption);exact rfl;exact rfl;exact rfl;exact rfl)|(apply d_appendH 1004 (es:=l.map Str.c) (n:=l.length) (news:= [Str.c x]) (er:=(l++ [x]).map Str.c) (nr:=l.length+1);exact rfl;exact rfl;exact rfl;exact rfl;exact .inl (row_ne (f:=Str.c) (k:=1) (fun _=>rfl) (by decide) hl);exact row_len (f:=Str.c) (k:=1) (fun _=>rfl) l;exact one_len rfl;exact(by rw[List.length_map];exact Nat.le_refl _);exact List.cons_ne_nil _ _;exact(by simp[maxLen];omega);exact(by simp;omega);exact rfl;exact row_more l x;exact rfl))|refine wk1 ?_|refine wk2 (fun hb hp=> ?_) (fun hb hp=> ?_)|fail))
  apply L.endQ0N;exact rfl;exact rfl;exact Wk.mk' (keys_all rfl) .nil (.cons rfl rfl (Subs.refl _) (.cons rfl rfl (Subs.refl _) (.cons rfl rfl (Subs.refl _) (.cons rfl rfl (Subs.refl _) (.cons rfl rfl (Subs.refl _) .nil))))) .nil;exact rfl
set_option maxHeartbeats 8000000 in
theorem grows4:Grows 31 [.ptr 1001 0,.ptr 1003 0] (sB 7 [] [] .nils .nils .nils .nils .nils) (fun i n=>sB 7 [] [] .nils .nils .nils .nils (.bsh i 0 n 8)) (fun l=>⟨37,.r (l.map Ex.c).flatten 0⟩) (psO 6) where
 gn l h:=row_live exc_len (by decide) h
 c0 r hr:=by
  have kc:=exprP r hr
  generalize psO 6 r=p at*
  obtain⟨x,r1⟩:=p
  dsimp only at*
  have he: [zeroX].set 0 x.cs= [x].map Ex.c:=by rw[List.map_cons,Ex.c_cs];rfl
  refine CallG.intro _ Tryz.func31 rfl Tryz.ntmps31 rfl (fun w0 E0 hG=> ?_)
  (repeat' (first|(refine LW.is ?_;first|(apply s_callQ1 (q:=1000) (ha:=rfl);(case hb=>exact rfl);(case hc=>assumption);(case hG=>assumption);exact rfl;exact rfl;exact rfl;exact rfl)|(apply s_nilR 1002 (news:= [zeroX]);exact rfl;exact rfl;exact rfl;exact one_len rfl;exact List.cons_ne_nil _ _;exact(by simp[maxLen]);exact(by simp);exact rfl)|(apply s_vr;exact rfl;apply v_indexBsh (off':=0);exact rfl;exact rfl;exact(by decide);exact(by decide);exact rfl)|(apply s_storeR (es:= [zeroX]) (i:=0) (e:=x.cs) (er:= [x].map Ex.c);exact rfl;exact rfl;exact rfl;exact rfl;exact rfl;exact rfl;exact one_len rfl;exact rfl;exact Nat.one_pos;exact he))|(refine DR.is ?_;first|(apply d_callQ1 (q:=1000) (ha:=rfl);(case hb=>exact rfl);(case hc=>assumption);(case hG=>assumption);exact rfl;exact rfl;exact rfl;exact rfl)|(apply d_nilR 1002 (news:= [zeroX]);exact rfl;exact rfl;exact rfl;exact one_len rfl;exact List.cons_ne_nil _ _;exact(by simp[maxLen]);exact(by simp);exact rfl)|(apply d_vr;exact rfl;apply v_indexBsh (off':=0);exact rfl;exact rfl;exact(by decide);exact(by decide);exact rfl)|(apply d_storeR (es:= [zeroX]) (i:=0) (e:=x.cs) (er:= [x].map Ex.c);exact rfl;exact rfl;exact rfl;exact rfl;exact rfl;exact rfl;exact one_len rfl;exact rfl;exact Nat.one_pos;exact he))|refine wk1 ?_|refine wk2 (fun hb hp=> ?_) (fun hb hp=> ?_)|fail))
  apply L.endQ0N;exact rfl;exact rfl;exact Wk.mk' (keys_all rfl) .nil (.cons rfl rfl (Subs.refl _) (.cons rfl rfl (Subs.refl _) (.cons rfl rfl (Subs.refl _) (.cons rfl rfl (Subs.refl _) .nil)))) .nil;exact rfl
 c1 r l hr hl hn:=by
  have kc:=exprP r hr
  generalize psO 6 r=p at*
  obtain⟨x,r1⟩:=p
  dsimp only at*
  refine CallG.intro _ Tryz.func31 rfl Tryz.ntmps31 rfl (fun w0 E0 hG=> ?_)
  (repeat' (first|(refine LW.is ?_;first|(apply s_callQ1 (q:=1000) (ha:=rfl);(case hb=>exact rfl);(case hc=>assumption);(case hG=>assumption);exact rfl;exact rfl;exact rfl;exact rfl)|(apply s_appendH 1004 (es:=l.map Ex.c) (n:=l.length) (news:= [zeroX]) (er:=l.map Ex.c++ [zeroX]) (nr:=l.length+1);exact rfl;exact rfl;exact rfl;exact rfl;exact .inl (row_ne exc_len (by decide) hl);exact row_len exc_len l;exact one_len rfl;exact(by rw[List.length_map];exact Nat.le_refl _);exact List.cons_ne_nil _ _;exact(by simp[maxLen];omega);exact(by simp;omega);exact rfl;exact(by rw[List.take_of_length_le (by simp)]);exact rfl)|(apply s_vr;exact rfl;apply v_indexBsh (off':=l.length*8);exact rfl;exact rfl;exact(by omega);exact(by omega);exact(by rw[Int.toNat_natCast,Nat.zero_add]))|(apply s_storeR (es:=l.map Ex.c++ [zeroX]) (i:=l.length) (e:=x.cs) (er:=(l++ [x]).map Ex.c);exact rfl;exact rfl;exact rfl;exact rfl;exact rfl;exact rfl;exact len_x l;exact rfl;exact(by simp);exact more_x l x))|(refine DR.is ?_;first|(apply d_callQ1 (q:=1000) (ha:=rfl);(case hb=>exact rfl);(case hc=>assumption);(case hG=>assumption);exact rfl;exact rfl;exact rfl;exact rfl)|(apply d_appendH 1004 (es:=l.map Ex.c) (n:=l.length) (news:= [zeroX]) (er:=l.map Ex.c++ [zeroX]) (nr:=l.length+1);exact rfl;exact rfl;exact rfl;exact rfl;exact .inl (row_ne exc_len (by decide) hl);exact row_len exc_len l;exact one_len rfl;exact(by rw[List.length_map];exact Nat.le_refl _);exact List.cons_ne_nil _ _;exact(by simp[maxLen];omega);exact(by simp;omega);exact rfl;exact(by rw[List.take_of_length_le (by simp)]);exact rfl)|(apply d_vr;exact rfl;apply v_indexBsh (off':=l.length*8);exact rfl;exact rfl;exact(by omega);exact(by omega);exact(by rw[Int.toNat_natCast,Nat.zero_add]))|(apply d_storeR (es:=l.map Ex.c++ [zeroX]) (i:=l.length) (e:=x.cs) (er:=(l++ [x]).map Ex.c);exact rfl;exact rfl;exact rfl;exact rfl;exact rfl;exact rfl;exact len_x l;exact rfl;exact(by simp);exact more_x l x))|refine wk1 ?_|refine wk2 (fun hb hp=> ?_) (fun hb hp=> ?_)|fail))
  apply L.endQ0N;exact rfl;exact rfl;exact Wk.mk' (keys_all rfl) .nil (.cons rfl rfl (Subs.refl _) (.cons rfl rfl (Subs.refl _) (.cons rfl rfl (Subs.refl _) (.cons rfl rfl (Subs.refl _) (.cons rfl rfl (Subs.refl _) .nil))))) .nil;exact rfl
set_option maxHeartbeats 8000000 in
theorem grows21:Grows 27 [.ptr 1001 0,.ptr 1003 0] (⟨33,.l [.nils]⟩) (fun i n=>⟨33,.l [.bsh i 0 n 8]⟩) (fun l=>⟨37,.r (l.map Ex.c).flatten 0⟩) (psO 6) where
 gn l h:=row_live exc_len (by decide) h
 c0 r hr:=by
  have kc:=exprP r hr
  generalize psO 6 r=p at*
  obtain⟨x,r1⟩:=p
  dsimp only at*
  have he: [zeroX].set 0 x.cs= [x].map Ex.c:=by rw[List.map_cons,Ex.c_cs];rfl
  refine CallG.intro _ Tryz.func27 rfl Tryz.ntmps27 rfl (fun w0 E0 hG=> ?_)
  (repeat' (first|(refine LW.is ?_;first|(apply s_callQ1 (q:=1000) (ha:=rfl);(case hb=>exact rfl);(case hc=>assumption);(case hG=>assumption);exact rfl;exact rfl;exact rfl;exact rfl)|(apply s_nilR 1002 (news:= [zeroX]);exact rfl;exact rfl;exact rfl;exact one_len rfl;exact List.cons_ne_nil _ _;exact(by simp[maxLen]);exact(by simp);exact rfl)|(apply s_vr;exact rfl;apply v_indexBsh (off':=0);exact rfl;exact rfl;exact(by decide);exact(by decide);exact rfl)|(apply s_storeR (es:= [zeroX]) (i:=0) (e:=x.cs) (er:= [x].map Ex.c);exact rfl;exact rfl;exact rfl;exact rfl;exact rfl;exact rfl;exact one_len rfl;exact rfl;exact Nat.one_pos;exact he))|(refine DR.is ?_;first|(apply d_callQ1 (q:=1000) (ha:=rfl);(case hb=>exact rfl);(case hc=>assumption);(case hG=>assumption);exact rfl;exact rfl;exact rfl;exact rfl)|(apply d_nilR 1002 (news:= [zeroX]);exact rfl;exact rfl;exact rfl;exact one_len rfl;exact List.cons_ne_nil _ _;exact(by simp[maxLen]);exact(by simp);exact rfl)|(apply d_vr;exact rfl;apply v_indexBsh (off':=0);exact rfl;exact rfl;exact(by decide);exact(by decide);exact rfl)|(apply d_storeR (es:= [zeroX]) (i:=0) (e:=x.cs) (er:= [x].map Ex.c);exact rfl;exact rfl;exact rfl;exact rfl;exact rfl;exact rfl;exact one_len rfl;exact rfl;exact Nat.one_pos;exact he))|refine wk1 ?_|refine wk2 (fun hb hp=> ?_) (fun hb hp=> ?_)|fail))
  apply L.endQ0N;exact rfl;exact rfl;exact Wk.mk' (keys_all rfl) .nil (.cons rfl rfl (Subs.refl _) (.cons rfl rfl (Subs.refl _) (.cons rfl rfl (Subs.refl _) (.cons rfl rfl (Subs.refl _) .nil)))) .nil;exact rfl
 c1 r l hr hl hn:=by
  have kc:=exprP r hr
  generalize psO 6 r=p at*
  obtain⟨x,r1⟩:=p
  dsimp only at*
  refine CallG.intro _ Tryz.func27 rfl Tryz.ntmps27 rfl (fun w0 E0 hG=> ?_)
  (repeat' (first|(refine LW.is ?_;first|(apply s_callQ1 (q:=1000) (ha:=rfl);(case hb=>exact rfl);(case hc=>assumption);(case hG=>assumption);exact rfl;exact rfl;exact rfl;exact rfl)|(apply s_appendH 1004 (es:=l.map Ex.c) (n:=l.length) (news:= [zeroX]) (er:=l.map Ex.c++ [zeroX]) (nr:=l.length+1);exact rfl;exact rfl;exact rfl;exact rfl;exact .inl (row_ne exc_len (by decide) hl);exact row_len exc_len l;exact one_len rfl;exact(by rw[List.length_map];exact Nat.le_refl _);exact List.cons_ne_nil _ _;exact(by simp[maxLen];omega);exact(by simp;omega);exact rfl;exact(by rw[List.take_of_length_le (by simp)]);exact rfl)|(apply s_vr;exact rfl;apply v_indexBsh (off':=l.length*8);exact rfl;exact rfl;exact(by omega);exact(by omega);exact(by rw[Int.toNat_natCast,Nat.zero_add]))|(apply s_storeR (es:=l.map Ex.c++ [zeroX]) (i:=l.length) (e:=x.cs) (er:=(l++ [x]).map Ex.c);exact rfl;exact rfl;exact rfl;exact rfl;exact rfl;exact rfl;exact len_x l;exact rfl;exact(by simp);exact more_x l x))|(refine DR.is ?_;first|(apply d_callQ1 (q:=1000) (ha:=rfl);(case hb=>exact rfl);(case hc=>assumption);(case hG=>assumption);exact rfl;exact rfl;exact rfl;exact rfl)|(apply d_appendH 1004 (es:=l.map Ex.c) (n:=l.length) (news:= [zeroX]) (er:=l.map Ex.c++ [zeroX]) (nr:=l.length+1);exact rfl;exact rfl;exact rfl;exact rfl;exact .inl (row_ne exc_len (by decide) hl);exact row_len exc_len l;exact one_len rfl;exact(by rw[List.length_map];exact Nat.le_refl _);exact List.cons_ne_nil _ _;exact(by simp[maxLen];omega);exact(by simp;omega);exact rfl;exact(by rw[List.take_of_length_le (by simp)]);exact rfl)|(apply d_vr;exact rfl;apply v_indexBsh (off':=l.length*8);exact rfl;exact rfl;exact(by omega);exact(by omega);exact(by rw[Int.toNat_natCast,Nat.zero_add]))|(apply d_storeR (es:=l.map Ex.c++ [zeroX]) (i:=l.length) (e:=x.cs) (er:=(l++ [x]).map Ex.c);exact rfl;exact rfl;exact rfl;exact rfl;exact rfl;exact rfl;exact len_x l;exact rfl;exact(by simp);exact more_x l x))|refine wk1 ?_|refine wk2 (fun hb hp=> ?_) (fun hb hp=> ?_)|fail))
  apply L.endQ0N;exact rfl;exact rfl;exact Wk.mk' (keys_all rfl) .nil (.cons rfl rfl (Subs.refl _) (.cons rfl rfl (Subs.refl _) (.cons rfl rfl (Subs.refl _) (.cons rfl rfl (Subs.refl _) (.cons rfl rfl (Subs.refl _) .nil))))) .nil;exact rfl
end Go.Proofs.YtadjbegnlimepaaGreatDoor
namespace Go.Proofs.YtadjbegnlimepaaGreatDoor
open Go.Abs
set_option maxRecDepth 100000
attribute [local irreducible] L Code.wp bodyPost Exit.then Exit.inBlock
set_option linter.unusedVariables false
set_option linter.unusedSimpArgs false
variable [Errs]
set_option linter.unusedSectionVars false
theorem mIr{L:List Nat}{t:TypeId}{xs:List IV}:AV.mentsIn L (Box.mk t (.r xs 0)).cs=true:=by simp only[Box.cs_r,List.replicate_zero,List.append_nil];exact AV.mentsIn_iv _ _
set_option maxHeartbeats 8000000 in
theorem grows3(tb:Str):Grows 30 [.ptr 1003 0,.ptr 1001 0] (sB 6 [] tb .nils .nils .nils .nils .nils) (fun i n=>sB 6 [] tb .nils .nils (.bsh i 0 n 9) .nils .nils) (fun l=>⟨57,.r (l.map Ast.c).flatten 0⟩) psSet where
 gn l h:=row_live (f:=Ast.c) (k:=9) (fun _=>rfl) (by decide) h
 c0 r hr:=by
  have k1:=toP (name_any r hr)
  have o1:=(sf_name r).ok hr
  have k2:=take_any (gs:=gsP) (nameM r).2 [[61]] o1 (by decide)
  have o2:=(sf_take (nameM r).2 [[61]]).ok o1
  have k3:=exprP (takeM (nameM r).2 [[61]]) o2
  unfold psSet
  generalize psO 6 (takeM (nameM r).2 [[61]])=p3 at*
  generalize takeM (nameM r).2 [[61]] =r2 at*
  generalize nameM r=p1 at*
  obtain⟨nm,r1⟩:=p1
  obtain⟨e,r3⟩:=p3
  dsimp only at*
  refine CallG.intro _ Tryz.func30 rfl Tryz.ntmps30 rfl (fun w0 E0 hG=> ?_)
  (repeat' (first|(refine LW.is ?_;first|(apply s_callQ1 (q:=1000) (ha:=rfl);(case hb=>exact rfl);(case hc=>assumption);(case hG=>assumption);exact rfl;exact rfl;exact rfl;exact rfl)|(apply s_nilR 1002 (news:= [Ast.c (Ast.mk nm e)]);exact rfl;exact rfl;exact rfl;exact one_len rfl;exact List.cons_ne_nil _ _;exact(by simp[maxLen]);exact(by simp);exact rfl))|(refine DR.is ?_;first|(apply d_callQ1 (q:=1000) (ha:=rfl);(case hb=>exact rfl);(case hc=>assumption);(case hG=>assumption);exact rfl;exact rfl;exact rfl;exact rfl)|(apply d_nilR 1002 (news:= [Ast.c (Ast.mk nm e)]);exact rfl;exact rfl;exact rfl;exact one_len rfl;exact List.cons_ne_nil _ _;exact(by simp[maxLen]);exact(by simp);exact rfl))|refine wk1 ?_|refine wk2 (fun hb hp=> ?_) (fun hb hp=> ?_)|fail))
  apply L.endQ0N;exact rfl;exact rfl;exact Wk.mk' (keys_all rfl) .nil (.cons rfl rfl (Subs.refl _) (.cons rfl rfl (Subs.refl _) (.cons rfl rfl (Subs.refl _) (.cons rfl rfl (Subs.refl _) .nil)))) .nil;exact rfl
 c1 r l hr hl hn:=by
  have k1:=toP (name_any r hr)
  have o1:=(sf_name r).ok hr
  have k2:=take_any (gs:=gsP) (nameM r).2 [[61]] o1 (by decide)
  have o2:=(sf_take (nameM r).2 [[61]]).ok o1
  have k3:=exprP (takeM (nameM r).2 [[61]]) o2
  unfold psSet
  generalize psO 6 (takeM (nameM r).2 [[61]])=p3 at*
  generalize takeM (nameM r).2 [[61]] =r2 at*
  generalize nameM r=p1 at*
  obtain⟨nm,r1⟩:=p1
  obtain⟨e,r3⟩:=p3
  dsimp only at*
  refine CallG.intro _ Tryz.func30 rfl Tryz.ntmps30 rfl (fun w0 E0 hG=> ?_)
  (repeat' (first|(refine LW.is ?_;first|(apply s_callQ1 (q:=1000) (ha:=rfl);(case hb=>exact rfl);(case hc=>assumption);(case hG=>assumption);exact rfl;exact rfl;exact rfl;exact rfl)|(apply s_appendH 1004 (es:=l.map Ast.c) (n:=l.length) (news:= [Ast.c (Ast.mk nm e)]) (er:=(l++ [Ast.mk nm e]).map Ast.c) (nr:=l.length+1);exact rfl;exact rfl;exact rfl;exact rfl;exact .inl (row_ne (f:=Ast.c) (k:=9) (fun _=>rfl) (by decide) hl);exact row_len (f:=Ast.c) (k:=9) (fun _=>rfl) l;exact one_len rfl;exact(by rw[List.length_map];exact Nat.le_refl _);exact List.cons_ne_nil _ _;exact(by simp[maxLen];omega);exact(by simp;omega);exact rfl;exact row_more l (Ast.mk nm e);exact rfl))|(refine DR.is ?_;first|(apply d_callQ1 (q:=1000) (ha:=rfl);(case hb=>exact rfl);(case hc=>assumption);(case hG=>assumption);exact rfl;exact rfl;exact rfl;exact rfl)|(apply d_appendH 1004 (es:=l.map Ast.c) (n:=l.length) (news:= [Ast.c (Ast.mk nm e)]) (er:=(l++ [Ast.mk nm e]).map Ast.c) (nr:=l.length+1);exact rfl;exact rfl;exact rfl;exact rfl;exact .inl (row_ne (f:=Ast.c) (k:=9) (fun _=>rfl) (by decide) hl);exact row_len (f:=Ast.c) (k:=9) (fun _=>rfl) l;exact one_len rfl;exact(by rw[List.length_map];exact Nat.le_refl _);exact List.cons_ne_nil _ _;exact(by simp[maxLen];omega);exact(by simp;omega);exact rfl;exact row_more l (Ast.mk nm e);exact rfl))|refine wk1 ?_|refine wk2 (fun hb hp=> ?_) (fun hb hp=> ?_)|fail))
  apply L.endQ0N;exact rfl;exact rfl;exact Wk.mk' (keys_all rfl) .nil (.cons rfl rfl (Subs.refl _) (.cons rfl rfl (Subs.refl _) (.cons rfl rfl (Subs.refl _) (.cons rfl rfl (Subs.refl _) (.cons rfl rfl (Subs.refl _) .nil))))) .nil;exact rfl
set_option maxHeartbeats 16000000 in
theorem grows2(tb:Str):Grows 26 [.ptr 1003 0,.ptr 1001 0] (sB 4 [] tb .nils .nils .nils .nils .nils) (fun i n=>sB 4 [] tb .nils (.bsh i 0 n 1) .nils .nils .nils) (fun l=>⟨33,.r (l.map exRow).flatten 0⟩) psRow where
 gn l h:=row_live (f:=exRow) (k:=1) (fun _=>rfl) (by decide) h
 c0 r hr:=by
  have k1:=take_any (gs:=gsP) r [[40]] hr (by decide)
  have o1:=(sf_take r [[40]]).ok hr
  unfold psRow
  have hne:=list_ne (step:=psO 6) (r:=takeM r [[40]])
  have o2:=(sf_list (eats_O 6) (takeM r [[40]])).ok o1
  have k3:=take_any (gs:=gsP) (psList (psO 6) (takeM r [[40]])).2 [[41]] o2 (by decide)
  have kb:=list_bad grows21 (takeM r [[40]])
  have kl:=list_any grows21 (eats_O 6) (takeM r [[40]]) o1
  have hz:(takeM r [[40]]).bad=true→psList (psO 6) (takeM r [[40]])=([],takeM r [[40]]):=fun h=>by unfold psList psListL;rw[if_pos h]
  generalize hq:psList (psO 6) (takeM r [[40]])=p at*
  generalize takeM r [[40]] =r1 at*
  obtain⟨row,r2⟩:=p
  dsimp only at*
  generalize takeM r2 [[41]] =r3 at*
  clear hq
  refine CallG.intro _ Tryz.func26 rfl Tryz.ntmps26 rfl (fun w0 E0 hG=> ?_)
  cases hb:r1.bad with
  |true=>
   have hz:=hz hb
   cases hz
   have kb:=(kb hb).sws [(1001,2),(1002,1005)] (args2:= [.ptr 1000 0,.fn 27 [.ptr 2 0,.ptr 1003 0]]) (bx2:= [(1000,rdB r1),(2,⟨33,.l [.nils]⟩),(1003,pB)]) (bx2':= [(1000,rdB r1),(2,⟨33,.l [.nils]⟩),(1003,pB)]) (tk2':= []) (res2:= .tup []) rfl rfl rfl rfl rfl
   (repeat' (first|(apply s_callW [];exact rfl;exact hG;exact kb;exact Subs.refl _;exact .cons rfl rfl (Subs.refl _) (.cons rfl rfl (Subs.refl _) (.cons rfl rfl (Subs.refl _) .nil));exact rfl;exact rfl;exact(by simp[-Box.cs_r,mIr,AV.mentsIn,AV.mentIn,keys]);exact rfl)|(refine LW.is ?_;first|(apply s_callQ1 (q:=1000) (ha:=rfl);(case hb=>exact rfl);(case hc=>assumption);(case hG=>assumption);exact rfl;exact rfl;exact rfl;exact rfl)|(apply s_nilR 1002 (news:= [exRow []]);exact rfl;exact rfl;exact rfl;exact one_len rfl;exact List.cons_ne_nil _ _;exact(by simp[maxLen]);exact(by simp);exact rfl))|(refine DR.is ?_;first|(apply d_callQ1 (q:=1000) (ha:=rfl);(case hb=>exact rfl);(case hc=>assumption);(case hG=>assumption);exact rfl;exact rfl;exact rfl;exact rfl)|(apply d_nilR 1002 (news:= [exRow []]);exact rfl;exact rfl;exact rfl;exact one_len rfl;exact List.cons_ne_nil _ _;exact(by simp[maxLen]);exact(by simp);exact rfl))|refine wk1 ?_|refine wk2 (fun hb hp=> ?_) (fun hb hp=> ?_)|fail))
   apply L.endQ0N;exact rfl;exact rfl;exact Wk.mk' (keys_all rfl) .nil (.cons rfl rfl (Subs.refl _) (.cons rfl rfl (Subs.refl _) (.cons rfl rfl (Subs.refl _) (.cons rfl rfl (Subs.refl _) .nil)))) .nil;exact rfl
  |false=>
   have hr0:=hne hb
   have kl:=(kl hb).sws [(1001,2),(1002,1005)] (args2:= [.ptr 1000 0,.fn 27 [.ptr 2 0,.ptr 1003 0]]) (bx2:= [(1000,rdB r1),(2,⟨33,.l [.nils]⟩),(1003,pB)]) (bx2':= [(1000,rdB r2),(2,⟨33,.l [.bsh 1005 0 row.length 8]⟩),(1003,pB),(1005,⟨37,.r (row.map Ex.c).flatten 0⟩)]) (tk2':= []) (res2:= .tup []) rfl rfl rfl rfl rfl
   (repeat' (first|(apply L.pubB 1005 2 (es:=row.map Ex.c) (k:=8);exact rfl;exact rfl;exact row_len exc_len row;decide;exact(by simpa using hr0);exact List.length_map _;exact rfl;exact List.cons_ne_nil _ _;exact rfl;exact .cons .here .nil)|(apply s_callW [1005];exact rfl;exact hG;exact kl;exact Subs.refl _;exact .cons rfl rfl (Subs.refl _) (.cons rfl rfl (Subs.refl _) (.cons rfl rfl (Subs.refl _) .nil));exact rfl;exact rfl;exact(by simp[-Box.cs_r,mIr,AV.mentsIn,AV.mentIn,keys]);exact rfl)|(refine LW.is ?_;first|(apply s_callQ1 (q:=1000) (ha:=rfl);(case hb=>exact rfl);(case hc=>assumption);(case hG=>assumption);exact rfl;exact rfl;exact rfl;exact rfl)|(apply s_nilR 1002 (news:= [exRow row]);exact rfl;exact rfl;exact rfl;exact one_len rfl;exact List.cons_ne_nil _ _;exact(by simp[maxLen]);exact(by simp);exact rfl))|(refine DR.is ?_;first|(apply d_callQ1 (q:=1000) (ha:=rfl);(case hb=>exact rfl);(case hc=>assumption);(case hG=>assumption);exact rfl;exact rfl;exact rfl;exact rfl)|(apply d_nilR 1002 (news:= [exRow row]);exact rfl;exact rfl;exact rfl;exact one_len rfl;exact List.cons_ne_nil _ _;exact(by simp[maxLen]);exact(by simp);exact rfl))|refine wk1 ?_|refine wk2 (fun hb hp=> ?_) (fun hb hp=> ?_)|fail))
   apply L.endQ0N;exact rfl;exact rfl;exact Wk.mk' (keys_all rfl) .nil (.cons rfl rfl (Subs.refl _) (.cons rfl rfl (Subs.refl _) (.cons rfl rfl (Subs.refl _) (.cons rfl rfl (Subs.refl _) .nil)))) .nil;exact rfl
 c1 r l hr hl hn:=by
  have k1:=take_any (gs:=gsP) r [[40]] hr (by decide)
  have o1:=(sf_take r [[40]]).ok hr
  unfold psRow
  have hne:=list_ne (step:=psO 6) (r:=takeM r [[40]])
  have o2:=(sf_list (eats_O 6) (takeM r [[40]])).ok o1
  have k3:=take_any (gs:=gsP) (psList (psO 6) (takeM r [[40]])).2 [[41]] o2 (by decide)
  have kb:=list_bad grows21 (takeM r [[40]])
  have kl:=list_any grows21 (eats_O 6) (takeM r [[40]]) o1
  have hz:(takeM r [[40]]).bad=true→psList (psO 6) (takeM r [[40]])=([],takeM r [[40]]):=fun h=>by unfold psList psListL;rw[if_pos h]
  generalize hq:psList (psO 6) (takeM r [[40]])=p at*
  generalize takeM r [[40]] =r1 at*
  obtain⟨row,r2⟩:=p
  dsimp only at*
  generalize takeM r2 [[41]] =r3 at*
  clear hq
  have hlv:(Box.mk 33 (.r (l.map exRow).flatten 0)).cs.isEmpty=false:=row_live (f:=exRow) (k:=1) (fun _=>rfl) (by decide) hl
  refine CallG.intro _ Tryz.func26 rfl Tryz.ntmps26 rfl (fun w0 E0 hG=> ?_)
  cases hb:r1.bad with
  |true=>
   have hz:=hz hb
   cases hz
   have kb:=(kb hb).sws [(1001,2),(1002,1005)] (args2:= [.ptr 1000 0,.fn 27 [.ptr 2 0,.ptr 1003 0]]) (bx2:= [(1000,rdB r1),(2,⟨33,.l [.nils]⟩),(1003,pB)]) (bx2':= [(1000,rdB r1),(2,⟨33,.l [.nils]⟩),(1003,pB)]) (tk2':= []) (res2:= .tup []) rfl rfl rfl rfl rfl
   (repeat' (first|(apply s_callW [];exact rfl;exact hG;exact kb;exact Subs.refl _;exact .cons rfl rfl (Subs.refl _) (.cons rfl rfl (Subs.refl _) (.cons rfl rfl (Subs.refl _) .nil));exact rfl;exact rfl;exact(by simp[-Box.cs_r,mIr,AV.mentsIn,AV.mentIn,keys]);exact rfl)|(refine LW.is ?_;first|(apply s_callQ1 (q:=1000) (ha:=rfl);(case hb=>exact rfl);(case hc=>assumption);(case hG=>assumption);exact rfl;exact rfl;exact rfl;exact rfl)|(apply s_appendH 1004 (es:=l.map exRow) (n:=l.length) (news:= [exRow []]) (er:=(l++ [[]]).map exRow) (nr:=l.length+1);exact rfl;exact rfl;exact rfl;exact rfl;exact .inl (row_ne (f:=exRow) (k:=1) (fun _=>rfl) (by decide) hl);exact row_len (f:=exRow) (k:=1) (fun _=>rfl) l;exact one_len rfl;exact(by rw[List.length_map];exact Nat.le_refl _);exact List.cons_ne_nil _ _;exact(by simp[maxLen];omega);exact(by simp;omega);exact rfl;exact row_more l [];exact rfl))|(refine DR.is ?_;first|(apply d_callQ1 (q:=1000) (ha:=rfl);(case hb=>exact rfl);(case hc=>assumption);(case hG=>assumption);exact rfl;exact rfl;exact rfl;exact rfl)|(apply d_appendH 1004 (es:=l.map exRow) (n:=l.length) (news:= [exRow []]) (er:=(l++ [[]]).map exRow) (nr:=l.length+1);exact rfl;exact rfl;exact rfl;exact rfl;exact .inl (row_ne (f:=exRow) (k:=1) (fun _=>rfl) (by decide) hl);exact row_len (f:=exRow) (k:=1) (fun _=>rfl) l;exact one_len rfl;exact(by rw[List.length_map];exact Nat.le_refl _);exact List.cons_ne_nil _ _;exact(by simp[maxLen];omega);exact(by simp;omega);exact rfl;exact row_more l [];exact rfl))|refine wk1 ?_|refine wk2 (fun hb hp=> ?_) (fun hb hp=> ?_)|fail))
   apply L.endQ0N;exact rfl;exact rfl;exact Wk.mk' (keys_all rfl) .nil (.cons rfl rfl (Subs.refl _) (.cons rfl rfl (Subs.refl _) (.cons rfl rfl (Subs.refl _) (.cons rfl rfl (Subs.refl _) (.cons rfl rfl (Subs.refl _) .nil))))) .nil;exact rfl
  |false=>
   have hr0:=hne hb
   have kl:=(kl hb).sws [(1001,2),(1002,1005)] (args2:= [.ptr 1000 0,.fn 27 [.ptr 2 0,.ptr 1003 0]]) (bx2:= [(1000,rdB r1),(2,⟨33,.l [.nils]⟩),(1003,pB)]) (bx2':= [(1000,rdB r2),(2,⟨33,.l [.bsh 1005 0 row.length 8]⟩),(1003,pB),(1005,⟨37,.r (row.map Ex.c).flatten 0⟩)]) (tk2':= []) (res2:= .tup []) rfl rfl rfl rfl rfl
   (repeat' (first|(apply L.pubB 1005 2 (es:=row.map Ex.c) (k:=8);exact(by simp[-Box.cs_r,keys,List.lookup,hlv]);exact rfl;exact row_len exc_len row;decide;exact(by simpa using hr0);exact List.length_map _;exact rfl;exact List.cons_ne_nil _ _;exact rfl;exact .cons .here .nil)|(apply s_callW [1005];exact rfl;exact hG;exact kl;exact Subs.refl _;exact .cons rfl rfl (Subs.refl _) (.cons rfl rfl (Subs.refl _) (.cons rfl rfl (Subs.refl _) .nil));exact rfl;exact rfl;exact(by simp[-Box.cs_r,mIr,AV.mentsIn,AV.mentIn,keys]);exact rfl)|(refine LW.is ?_;first|(apply s_callQ1 (q:=1000) (ha:=rfl);(case hb=>exact rfl);(case hc=>assumption);(case hG=>assumption);exact rfl;exact rfl;exact rfl;exact rfl)|(apply s_appendH 1004 (es:=l.map exRow) (n:=l.length) (news:= [exRow row]) (er:=(l++ [row]).map exRow) (nr:=l.length+1);exact rfl;exact rfl;exact rfl;exact rfl;exact .inl (row_ne (f:=exRow) (k:=1) (fun _=>rfl) (by decide) hl);exact row_len (f:=exRow) (k:=1) (fun _=>rfl) l;exact one_len rfl;exact(by rw[List.length_map];exact Nat.le_refl _);exact List.cons_ne_nil _ _;exact(by simp[maxLen];omega);exact(by simp;omega);exact rfl;exact row_more l row;exact rfl))|(refine DR.is ?_;first|(apply d_callQ1 (q:=1000) (ha:=rfl);(case hb=>exact rfl);(case hc=>assumption);(case hG=>assumption);exact rfl;exact rfl;exact rfl;exact rfl)|(apply d_appendH 1004 (es:=l.map exRow) (n:=l.length) (news:= [exRow row]) (er:=(l++ [row]).map exRow) (nr:=l.length+1);exact rfl;exact rfl;exact rfl;exact rfl;exact .inl (row_ne (f:=exRow) (k:=1) (fun _=>rfl) (by decide) hl);exact row_len (f:=exRow) (k:=1) (fun _=>rfl) l;exact one_len rfl;exact(by rw[List.length_map];exact Nat.le_refl _);exact List.cons_ne_nil _ _;exact(by simp[maxLen];omega);exact(by simp;omega);exact rfl;exact row_more l row;exact rfl))|refine wk1 ?_|refine wk2 (fun hb hp=> ?_) (fun hb hp=> ?_)|fail))
   apply L.endQ0N;exact rfl;exact rfl;exact Wk.mk' (keys_all rfl) .nil (.cons rfl rfl (Subs.refl _) (.cons rfl rfl (Subs.refl _) (.cons rfl rfl (Subs.refl _) (.cons rfl rfl (Subs.refl _) (.cons rfl rfl (Subs.refl _) .nil))))) .nil;exact rfl
end Go.Proofs.YtadjbegnlimepaaGreatDoor
