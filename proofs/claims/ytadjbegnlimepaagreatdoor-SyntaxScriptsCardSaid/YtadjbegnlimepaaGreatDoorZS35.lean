/- Several texts in one, each with its own sentence ahead of it. Conditions: each one says its own. -/
import Derived.Test.YtadjbegnlimepaaGreatDoorZS34
set_option linter.all false
namespace Go.Proofs.YtadjbegnlimepaaGreatDoor
open Go.Abs
set_option maxRecDepth 100000
set_option linter.unusedVariables false
set_option linter.unusedSimpArgs false
inductive StD:List Str→Stm→Prop
 |create {n:Str} {d:List Str} {l:List Col} (hn:namedM n=true) (h:Ls ColD d l):StD (wCREATE::wTABLE::n:: [40]::(d++ [[41]])) {stm0 with kind:=1,name:=n,cols:=l}
 |mark {n t c:Str} (hn:namedM n=true) (ht:namedM t=true) (hc:namedM c=true):StD [wCREATE,wINDEX,n,wON,t,[40],c,[41]] {stm0 with kind:=2,name:=n,table:=t,col:=c}
 |drop {n:Str} (hn:namedM n=true):StD [wDROP,wTABLE,n] {stm0 with kind:=3,name:=n}
 |insert {n:Str} {d:List Str} {l:List (List Ex)} (hn:namedM n=true) (h:Ls RowD d l):StD (wINSERT::wINTO::n::wVALUES::d) {stm0 with kind:=4,table:=n,rows:=l}
 |delete {n:Str} {d:List Str} {e:Ex} (hn:namedM n=true) (h:WhD d e):StD (wDELETE::wFROM::n::d) {stm0 with kind:=5,table:=n,wh:=e}
 |update {n:Str} {c d:List Str} {l:List Ast} {e:Ex} (hn:namedM n=true) (hs:Ls SetD c l) (h:WhD d e):StD (wUPDATE::n::wSET::(c++d)) {stm0 with kind:=6,table:=n,sets:=l,wh:=e}
 |select {o f w d m:List Str} {ol:List Ex} {fl:List Str} {e:Ex} {od:List Ex×Bool} {n:Int} (ho:OutD o ol) (hf:Ls NameD f fl) (hw:WhD w e) (hd:OrdD d od) (hm:LimD m n):StD (wSELECT::(o++wFROM::(f++(w++(d++m))))) {stm0 with kind:=7,out:=ol,frm:=fl,wh:=e,ord:=od.1,down:=od.2,n:=n}
theorem snd_create:SndA (fun c s=> ∃(n:Str) (d:List Str) (l:List Col),namedM n=true∧Ls ColD d l∧c=n:: [40]::(d++ [[41]])∧s={stm0 with kind:=1,name:=n,cols:=l}) psCreate:=fun r hb=>by
 unfold psCreate at hb⊢
 dsimp only at hb⊢
 obtain⟨e1,e2⟩:=take_l hb
 obtain⟨c,f1,f2⟩:=snd_list Loc.col snd_col _ e2
 obtain⟨g1,g2⟩:=take_l ((Loc.list Loc.col).bd _ e2)
 obtain⟨k1,k2,_⟩:=name_l g2
 exact⟨_,by rw[k1,g1,f1,e1];simp,(nameM r).1,c,_,k2,f2,rfl,rfl⟩
theorem snd_mark:SndA (fun c s=> ∃n t k:Str,namedM n=true∧namedM t=true∧namedM k=true∧c= [n,wON,t,[40],k,[41]] ∧s={stm0 with kind:=2,name:=n,table:=t,col:=k}) psMark:=fun r hb=>by
 unfold psMark psMark1 psMark2 at hb⊢
 dsimp only at hb⊢
 obtain⟨a1,a2⟩:=take_l hb
 obtain⟨b1,b2,b3⟩:=name_l a2
 obtain⟨c1,c2⟩:=take_l b3
 obtain⟨d1,d2,d3⟩:=name_l c2
 obtain⟨e1,e2⟩:=take_l d3
 obtain⟨f1,f2,_⟩:=name_l e2
 refine⟨_,?_,_,_,_,f2,d2,b2,rfl,rfl⟩
 rw[f1,e1,d1,c1,b1,a1];rfl
theorem snd_drop:SndA (fun c s=> ∃n:Str,namedM n=true∧c= [n] ∧s={stm0 with kind:=3,name:=n}) psDrop:=fun r hb=>by
 unfold psDrop at hb⊢
 dsimp only at hb⊢
 obtain⟨f1,f2,_⟩:=name_l hb
 exact⟨_,f1,_,f2,rfl,rfl⟩
theorem snd_insert:SndA (fun c s=> ∃(n:Str) (d:List Str) (l:List (List Ex)),namedM n=true∧Ls RowD d l∧c=n::wVALUES::d∧s={stm0 with kind:=4,table:=n,rows:=l}) psInsert:=fun r hb=>by
 unfold psInsert at hb⊢
 dsimp only at hb⊢
 obtain⟨c,f1,f2⟩:=snd_list Loc.row snd_row _ hb
 obtain⟨g1,g2⟩:=take_l ((Loc.list Loc.row).bd _ hb)
 obtain⟨k1,k2,_⟩:=name_l g2
 exact⟨_,by rw[k1,g1,f1];rfl,(nameM r).1,c,_,k2,f2,rfl,rfl⟩
theorem snd_delete:SndA (fun c s=> ∃(n:Str) (d:List Str) (e:Ex),namedM n=true∧WhD d e∧c=n::d∧s={stm0 with kind:=5,table:=n,wh:=e}) psDelete:=fun r hb=>by
 unfold psDelete at hb⊢
 dsimp only at hb⊢
 obtain⟨c,f1,f2⟩:=snd_where _ hb
 obtain⟨k1,k2,_⟩:=name_l (Loc.wh.bd _ hb)
 exact⟨_,by rw[k1,f1];rfl,(nameM r).1,c,_,k2,f2,rfl,rfl⟩
theorem snd_update:SndA (fun c s=> ∃(n:Str) (c' d:List Str) (l:List Ast) (e:Ex),namedM n=true∧Ls SetD c' l∧WhD d e∧c=n::wSET::(c'++d)∧s={stm0 with kind:=6,table:=n,sets:=l,wh:=e}) psUpdate:=fun r hb=>by
 unfold psUpdate psUpd1 at hb⊢
 dsimp only at hb⊢
 obtain⟨c,f1,f2⟩:=snd_where _ hb
 have h2:=Loc.wh.bd _ hb
 obtain⟨d,g1,g2⟩:=snd_list Loc.set snd_set _ h2
 obtain⟨j1,j2⟩:=take_l ((Loc.list Loc.set).bd _ h2)
 obtain⟨k1,k2,_⟩:=name_l j2
 exact⟨_,by rw[k1,j1,g1,f1];simp,(nameM r).1,d,c,_,_,k2,g2,f2,rfl,rfl⟩
theorem snd_select:SndA (fun c s=> ∃(o f w d m:List Str) (ol:List Ex) (fl:List Str) (e:Ex) (od:List Ex×Bool) (n:Int),OutD o ol∧Ls NameD f fl∧WhD w e∧OrdD d od∧LimD m n∧c=o++wFROM::(f++(w++(d++m)))∧
 s={stm0 with kind:=7,out:=ol,frm:=fl,wh:=e,ord:=od.1,down:=od.2,n:=n}) psSelect:=fun r hb=>by
 unfold psSelect at hb⊢
 dsimp only at hb⊢
 obtain⟨m,a1,a2⟩:=snd_lim _ hb
 have h1:=Loc.limit.bd _ hb
 obtain⟨d,b1,b2⟩:=snd_ord _ h1
 have h2:=Loc.ord.bd _ h1
 obtain⟨w,c1,c2⟩:=snd_where _ h2
 have h3:=Loc.wh.bd _ h2
 have h3':(psList nameM (takeM (psOut r).2 [wFROM])).2.bad=false:=h3
 obtain⟨f,d1,d2⟩:=snd_list Loc.name snd_name _ h3'
 obtain⟨e1,e2⟩:=take_l ((Loc.list Loc.name).bd _ h3')
 obtain⟨o,f1,f2⟩:=snd_out _ e2
 refine⟨_,?_,o,f,w,d,m,_,_,_,_,_,f2,d2,c2,b2,a2,rfl,rfl⟩
 have d1':(takeM (psOut r).2 [wFROM]).l=f++(psFrom (psOut r).2).2.l:=d1
 rw[f1,e1,d1',c1,b1,a1]
 simp
theorem snd_stmt:SndA StD psStmt:=fun r hb=>by
 unfold psStmt at hb⊢
 by_cases k1:(atRd r [wCREATE,wTABLE]).1=true
 · rw[if_pos k1] at hb⊢
   obtain⟨c,e1,n,d,l,h1,h2,rfl,h4⟩:=snd_create _ hb
   exact⟨wCREATE::wTABLE::n:: [40]::(d++ [[41]]),by rw[(at_l1 k1).1,e1];rfl,by rw[h4];exact .create h1 h2⟩
 rw[if_neg k1] at hb⊢
 by_cases k2:(atRd r [wCREATE,wINDEX]).1=true
 · rw[if_pos k2] at hb⊢
   obtain⟨c,e1,n,t,k,h1,h2,h3,rfl,h4⟩:=snd_mark _ hb
   exact⟨[wCREATE,wINDEX,n,wON,t,[40],k,[41]],by rw[(at_l1 k2).1,e1];rfl,by rw[h4];exact .mark h1 h2 h3⟩
 rw[if_neg k2] at hb⊢
 by_cases k3:(atRd r [wDROP,wTABLE]).1=true
 · rw[if_pos k3] at hb⊢
   obtain⟨c,e1,n,h1,rfl,h4⟩:=snd_drop _ hb
   exact⟨[wDROP,wTABLE,n],by rw[(at_l1 k3).1,e1];rfl,by rw[h4];exact .drop h1⟩
 rw[if_neg k3] at hb⊢
 by_cases k4:(atRd r [wINSERT,wINTO]).1=true
 · rw[if_pos k4] at hb⊢
   obtain⟨c,e1,n,d,l,h1,h2,rfl,h4⟩:=snd_insert _ hb
   exact⟨wINSERT::wINTO::n::wVALUES::d,by rw[(at_l1 k4).1,e1];rfl,by rw[h4];exact .insert h1 h2⟩
 rw[if_neg k4] at hb⊢
 by_cases k5:(atRd r [wDELETE,wFROM]).1=true
 · rw[if_pos k5] at hb⊢
   obtain⟨c,e1,n,d,e,h1,h2,rfl,h4⟩:=snd_delete _ hb
   exact⟨wDELETE::wFROM::n::d,by rw[(at_l1 k5).1,e1];rfl,by rw[h4];exact .delete h1 h2⟩
 rw[if_neg k5] at hb⊢
 by_cases k6:(atRd r [wUPDATE]).1=true
 · rw[if_pos k6] at hb⊢
   obtain⟨c,e1,n,c',d,l,e,h1,h2,h3,rfl,h4⟩:=snd_update _ hb
   exact⟨wUPDATE::n::wSET::(c'++d),by rw[(at_l1 k6).1,e1];rfl,by rw[h4];exact .update h1 h2 h3⟩
 rw[if_neg k6] at hb⊢
 by_cases k7:(atRd r [wSELECT]).1=true
 · rw[if_pos k7] at hb⊢
   obtain⟨c,e1,o,f,w,d,m,ol,fl,e,od,n,h1,h2,h3,h5,h6,rfl,h4⟩:=snd_select _ hb
   exact⟨wSELECT::(o++wFROM::(f++(w++(d++m)))),by rw[(at_l1 k7).1,e1];rfl,by rw[h4];exact .select h1 h2 h3 h5 h6⟩
 rw[if_neg k7] at hb
 cases hb
theorem at_not2{a w:Str}{x:List Str}{b:Bool}{u:Str}(h:w≠u):atRd ⟨a::w::x,b⟩ [a,u] =(false,⟨a::w::x,b⟩):=by
 unfold atRd
 dsimp only
 split
 · rfl
 · rw[if_neg]
   intro e
   rw[eqSl_iff] at e
   simp at e
   exact h e
theorem head_of{c:List Str}{w:Str}{x:List Str}{us:List Str}(h:c= [] ∨ ∃u t,c=u::t∧u∈us): ∃v y,c++w::x=v::y∧(v=w∨v∈us):=by
 rcases h with rfl|⟨u,t,rfl,hu⟩
 · exact⟨w,x,rfl,.inl rfl⟩
 · exact⟨u,t++w::x,rfl,.inr hu⟩
theorem lim_head{c:List Str}{n:Int}(h:LimD c n):c= [] ∨ ∃u t,c=u::t∧u∈ [wLIMIT]:=by
 cases h with
 |no=>exact .inl rfl
 |n _ _=>exact .inr ⟨_,_,rfl,by simp⟩
theorem ord_head'{c:List Str}{e:List Ex×Bool}(h:OrdD c e):c= [] ∨ ∃u t,c=u::t∧u∈ [wORDER]:=by
 cases h with
 |no=>exact .inl rfl
 |up _=>exact .inr ⟨_,_,rfl,by simp⟩
 |dn _=>exact .inr ⟨_,_,rfl,by simp⟩
theorem wh_head{c:List Str}{e:Ex}(h:WhD c e):c= [] ∨ ∃u t,c=u::t∧u∈ [wWHERE]:=by
 cases h with
 |no=>exact .inl rfl
 |wh _=>exact .inr ⟨_,_,rfl,by simp⟩
theorem ls_ne{α:Type}{P:List Str→α→Prop}(hP: ∀c a,P c a→c≠ []){c:List Str}{l:List α}(h:Ls P c l):c≠ []:=by
 cases h with
 |one h=>exact hP _ _ h
 |cons h t=>simp
theorem first_star{lv:Lv}{k:Nat}{c:List Str}{e:Ex}(h:Dv lv k c e): ∃u t,c=u::t∧u≠ [42]:=by
 have nn: ∀{s:Str},namedM s=true→s≠ [42]:=fun h=>named_ne h (by decide)
 induction h with
 |oA _ ih=>exact ih
 |oO _ _ ih _=>obtain⟨u,t,rfl,h⟩:=ih;exact⟨u,_,rfl,h⟩
 |aT _ ih=>exact ih
 |aA _ _ ih _=>obtain⟨u,t,rfl,h⟩:=ih;exact⟨u,_,rfl,h⟩
 |tN _ _=>exact⟨_,_,rfl,by decide⟩
 |tS _ ih=>exact ih
 |tI _ ih=>obtain⟨u,t,rfl,h⟩:=ih;exact⟨u,_,rfl,h⟩
 |tE _ _ ih _=>obtain⟨u,t,rfl,h⟩:=ih;exact⟨u,_,rfl,h⟩
 |tL _ _ ih _=>obtain⟨u,t,rfl,h⟩:=ih;exact⟨u,_,rfl,h⟩
 |sM _ ih=>exact ih
 |sP _ _ ih _=>obtain⟨u,t,rfl,h⟩:=ih;exact⟨u,_,rfl,h⟩
 |sN _ _ ih _=>obtain⟨u,t,rfl,h⟩:=ih;exact⟨u,_,rfl,h⟩
 |mB _ _=>exact⟨_,_,rfl,by decide⟩
 |mL h=>
  cases h with
  |nul=>exact⟨_,_,rfl,by decide⟩
  |txt h _ _=>exact⟨_,_,rfl,fun e=>by rw[e] at h;exact absurd h (by decide)⟩
  |num h _ _=>exact⟨_,_,rfl,fun e=>by rw[e] at h;exact absurd h (by decide)⟩
  |neg _ _=>exact⟨_,_,rfl,by decide⟩
  |ref h=>exact⟨_,_,rfl,nn h⟩
  |dot h _=>exact⟨_,_,rfl,nn h⟩
theorem stmt_read{c:List Str}{s:Stm}(h:StD c s)(x:List Str):psStmt ⟨c++ [59]::x,false⟩=(s,⟨[59]::x,false⟩):=by
 have s59:Stop [59]:=stop_of (by decide)
 cases h with
 | @create n d l hn h=>
   have el:(wCREATE::wTABLE::n:: [40]::(d++ [[41]]))++ [59]::x=wCREATE::wTABLE::n:: [40]::(d++ [41]:: [59]::x):=by simp
   rw[el]
   unfold psStmt
   rw[at_two,if_pos rfl]
   unfold psCreate
   rw[name_read hn];dsimp only
   have e1:takeM ⟨[40]::(d++ [41]:: [59]::x),false⟩ [[40]] =⟨d++ [41]:: [59]::x,false⟩:=by unfold takeM;rw[at_one,if_pos rfl]
   rw[e1,list_read Loc.col cpl_col h (w:= [41]) (stop_of (by decide)) (by decide) ([59]::x)]
   dsimp only
   unfold takeM
   rw[at_one,if_pos rfl]
 | @mark n t k hn ht hc=>
   show psStmt ⟨wCREATE::wINDEX::n::wON::t:: [40]::k:: [41]:: [59]::x,false⟩=_
   unfold psStmt
   rw[at_not2 (by decide),if_neg Bool.false_ne_true,at_two,if_pos rfl]
   unfold psMark psMark1
   rw[name_read hn];dsimp only
   unfold takeM
   rw[at_one,if_pos rfl,name_read ht];dsimp only
   unfold psMark2 takeM
   rw[name_read ht];dsimp only
   rw[at_one,if_pos rfl,name_read hc];dsimp only
   rw[at_one,if_pos rfl]
 | @drop n hn=>
   show psStmt ⟨wDROP::wTABLE::n:: [59]::x,false⟩=_
   unfold psStmt
   rw[at_not (by decide),if_neg Bool.false_ne_true,at_not (by decide),if_neg Bool.false_ne_true,at_two,if_pos rfl]
   unfold psDrop
   rw[name_read hn]
 | @insert n d l hn h=>
   show psStmt ⟨wINSERT::wINTO::n::wVALUES::(d++ [59]::x),false⟩=_
   unfold psStmt
   rw[at_not (by decide),if_neg Bool.false_ne_true,at_not (by decide),if_neg Bool.false_ne_true,at_not (by decide),if_neg Bool.false_ne_true,at_two,if_pos rfl]
   unfold psInsert
   rw[name_read hn];dsimp only
   unfold takeM
   rw[at_one,if_pos rfl,list_read Loc.row cpl_row h s59 (by decide) x]
 | @delete n d e hn h=>
   show psStmt ⟨wDELETE::wFROM::n::(d++ [59]::x),false⟩=_
   unfold psStmt
   rw[at_not (by decide),if_neg Bool.false_ne_true,at_not (by decide),if_neg Bool.false_ne_true,at_not (by decide),if_neg Bool.false_ne_true,at_not (by decide),if_neg Bool.false_ne_true,at_two,if_pos rfl]
   unfold psDelete
   rw[name_read hn];dsimp only
   rw[where_read h s59 (by decide) x]
 | @update n c d l e hn hs h=>
   have el:(wUPDATE::n::wSET::(c++d))++ [59]::x=wUPDATE::n::wSET::(c++(d++ [59]::x)):=by simp
   rw[el]
   unfold psStmt
   rw[at_not (by decide),if_neg Bool.false_ne_true,at_not (by decide),if_neg Bool.false_ne_true,at_not (by decide),if_neg Bool.false_ne_true,at_not (by decide),if_neg Bool.false_ne_true,at_not (by decide),if_neg Bool.false_ne_true,at_one,if_pos rfl]
   unfold psUpdate psUpd1
   rw[name_read hn];dsimp only
   unfold takeM
   rw[at_one,if_pos rfl]
   obtain⟨v,y,e1,hv⟩:=head_of (w:= [59]) (x:=x) (wh_head h)
   have hS:Stop v∧v≠ [44]:=by
    rcases hv with rfl|hv
    · exact⟨s59,by decide⟩
    · rw[List.mem_singleton] at hv;subst hv;exact⟨stop_of (by decide),by decide⟩
   rw[e1,list_read Loc.set cpl_set hs hS.1 hS.2 y]
   dsimp only
   rw[←e1,where_read h s59 (by decide) x]
 | @select o f w d m ol fl e od n ho hf hw hd hm=>
   have el:(wSELECT::(o++wFROM::(f++(w++(d++m)))))++ [59]::x=wSELECT::(o++wFROM::(f++(w++(d++(m++ [59]::x))))):=by simp
   rw[el]
   unfold psStmt
   rw[at_not (by decide),if_neg Bool.false_ne_true,at_not (by decide),if_neg Bool.false_ne_true,at_not (by decide),if_neg Bool.false_ne_true,at_not (by decide),if_neg Bool.false_ne_true,at_not (by decide),if_neg Bool.false_ne_true,
    at_not (by decide),if_neg Bool.false_ne_true,at_one,if_pos rfl]
   obtain⟨v1,y1,g1,hv1⟩:=head_of (w:= [59]) (x:=x) (lim_head hm)
   have t1:v1∈ [[59],wLIMIT]:=by rcases hv1 with rfl|h<;>simp_all
   obtain⟨v2,y2,g2,hv2⟩:=head_of (w:=v1) (x:=y1) (ord_head' hd)
   have t2:v2∈ [[59],wLIMIT,wORDER]:=by
    rcases hv2 with rfl|h
    · simp only[List.mem_cons,List.not_mem_nil,or_false] at t1⊢;rcases t1 with h|h<;>simp[h]
    · rw[List.mem_singleton] at h;simp[h]
   obtain⟨v3,y3,g3,hv3⟩:=head_of (w:=v2) (x:=y2) (wh_head hw)
   have t3:v3∈ [[59],wLIMIT,wORDER,wWHERE]:=by
    rcases hv3 with rfl|h
    · simp only[List.mem_cons,List.not_mem_nil,or_false] at t2⊢;rcases t2 with h|h|h<;>simp[h]
    · rw[List.mem_singleton] at h;simp[h]
   have st: ∀v∈ [[59],wLIMIT,wORDER,wWHERE],Stop v∧v≠ [44]:=fun v hv=>by
    simp only[List.mem_cons,List.not_mem_nil,or_false] at hv
    rcases hv with rfl|rfl|rfl|rfl<;>exact⟨stop_of (by decide),by decide⟩
   have hO:psOut ⟨o++wFROM::(f++(w++(d++(m++ [59]::x)))),false⟩=(ol,⟨wFROM::(f++(w++(d++(m++ [59]::x)))),false⟩):=by
    cases ho with
    |all=>
     show psOut ⟨[42]::wFROM::_,false⟩=_
     unfold psOut
     rw[at_one,if_pos rfl]
    |some h=>
     unfold psOut
     have hne: ∃u t,o=u::t∧u≠ [42]:=by
      have key: ∀{c:List Str} {e:Ex},Dv .O 6 c e→ ∃u t,c=u::t∧u≠ [42]:=fun{c e} hd=>first_star hd
      cases h with
      |one h=>exact key h
      |cons h t=>obtain⟨u,y,rfl,hu⟩:=key h;exact⟨u,_,rfl,hu⟩
     obtain⟨u,t,rfl,hu⟩:=hne
     have e0:atRd ⟨(u::t)++wFROM::(f++(w++(d++(m++ [59]::x)))),false⟩ [[42]] =(false,⟨(u::t)++wFROM::(f++(w++(d++(m++ [59]::x)))),false⟩):=at_not hu
     rw[e0,if_neg Bool.false_ne_true]
     exact list_read (Loc.o 6) (cpl_o 6) h (stop_of (by decide)) (by decide) _
   have hF:psFrom ⟨wFROM::(f++(w++(d++(m++ [59]::x)))),false⟩=(fl,⟨w++(d++(m++ [59]::x)),false⟩):=by
    unfold psFrom takeM
    rw[at_one,if_pos rfl,g1,g2,g3]
    exact list_read Loc.name cpl_name hf (st v3 t3).1 (st v3 t3).2 y3
   have hW:psWhere ⟨w++(d++(m++ [59]::x)),false⟩=(e,⟨d++(m++ [59]::x),false⟩):=by
    rw[g1,g2]
    refine where_read hw (st v2 (by simp only[List.mem_cons,List.not_mem_nil,or_false] at t2⊢;rcases t2 with h|h|h<;>simp[h])).1 (fun e=> ?_) y2
    subst e
    simp only[List.mem_cons,List.not_mem_nil,or_false] at t2
    rcases t2 with h|h|h<;>exact absurd h (by decide)
   have hD:psOrd ⟨d++(m++ [59]::x),false⟩=(od,⟨m++ [59]::x,false⟩):=by
    rw[g1]
    refine ord_read hd (st v1 (by simp only[List.mem_cons,List.not_mem_nil,or_false] at t1⊢;rcases t1 with h|h<;>simp[h])).1 (fun e=> ?_) (fun e=> ?_) y1
    · subst e
      simp only[List.mem_cons,List.not_mem_nil,or_false] at t1
      rcases t1 with h|h<;>exact absurd h (by decide)
    · subst e
      simp only[List.mem_cons,List.not_mem_nil,or_false] at t1
      rcases t1 with h|h<;>exact absurd h (by decide)
   have hL:=lim_read hm (w:= [59]) (by decide) x
   unfold psSelect
   rw[hO];dsimp only
   rw[hF];dsimp only
   rw[hW];dsimp only
   rw[hD];dsimp only
   rw[hL]
theorem dv_semi{lv:Lv}{k:Nat}{c:List Str}{e:Ex}(h:Dv lv k c e)(ht:TokA c): [59] ∉c:=by
 induction h with
 |oA _ ih=>exact ih ht
 |oO _ _ ih ih2=>have:=ih (ht.sub (fun w hw=>by simp[hw]));have:=ih2 (ht.sub (fun w hw=>by simp[hw]));simp[wOR, *]
 |aT _ ih=>exact ih ht
 |aA _ _ ih ih2=>have:=ih (ht.sub (fun w hw=>by simp[hw]));have:=ih2 (ht.sub (fun w hw=>by simp[hw]));simp[wAND, *]
 |tN _ ih=>have:=ih (ht.sub (fun w hw=>by simp[hw]));simp[wNOT, *]
 |tS _ ih=>exact ih ht
 |tI _ ih=>have:=ih (ht.sub (fun w hw=>by simp[hw]));simp[wIS,wNULL, *]
 |tE _ _ ih ih2=>have:=ih (ht.sub (fun w hw=>by simp[hw]));have:=ih2 (ht.sub (fun w hw=>by simp[hw]));simp[*]
 |tL _ _ ih ih2=>have:=ih (ht.sub (fun w hw=>by simp[hw]));have:=ih2 (ht.sub (fun w hw=>by simp[hw]));simp[*]
 |sM _ ih=>exact ih ht
 |sP _ _ ih ih2=>have:=ih (ht.sub (fun w hw=>by simp[hw]));have:=ih2 (ht.sub (fun w hw=>by simp[hw]));simp[*]
 |sN _ _ ih ih2=>have:=ih (ht.sub (fun w hw=>by simp[hw]));have:=ih2 (ht.sub (fun w hw=>by simp[hw]));simp[*]
 |mB _ ih=>have:=ih (ht.sub (fun w hw=>by simp[hw]));simp[*]
 |mL h=>
  have nn: ∀{s:Str},namedM s=true→([59]:Str)≠s:=fun h e=>by rw[←e] at h;exact absurd h (by decide)
  have nd: ∀{s:Str},digC (s.headD 0)=true→([59]:Str)≠s:=fun h e=>by rw[←e] at h;exact absurd h (by decide)
  cases h with
  |nul=>simp[wNULL]
  |txt h h0 hg=>simp;intro e;rw[←e] at h;exact absurd h (by decide)
  |num h h0 hn=>simp;exact nd h
  |neg h0 hn=>simp;exact nd (num_dig (ht _ (by simp)).1.2.2 hn)
  |ref h=>simp;exact nn h
  |dot h h2=>simp;exact⟨nn h,nn h2⟩
theorem ls_semi{α:Type}{P:List Str→α→Prop}(hP: ∀c a,P c a→TokA c→ [59] ∉c){c:List Str}{l:List α}(h:Ls P c l):TokA c→ [59] ∉c:=by
 induction h with
 |one h=>exact hP _ _ h
 |cons h t ih=>intro ht;have:=hP _ _ h (ht.sub (fun w hw=>by simp[hw]));have:=ih (ht.sub (fun w hw=>by simp[hw]));simp[*]
theorem st_semi{c:List Str}{s:Stm}(h:StD c s)(ht:TokA c): [59] ∉c:=by
 have nn: ∀{s:Str},namedM s=true→([59]:Str)≠s:=fun h e=>by rw[←e] at h;exact absurd h (by decide)
 have hw: ∀{d:List Str} {e:Ex},WhD d e→TokA d→ [59] ∉d:=fun{d e} h ht=>by
  cases h with
  |no=>simp
  |wh h=>have:=dv_semi h (ht.sub (fun w hw=>by simp[hw]));simp[wWHERE, *]
 have hx: ∀{c:List Str} {l:List Ex},Ls (Dv .O 6) c l→TokA c→ [59] ∉c:=fun h ht=>ls_semi (P:=Dv .O 6) (fun c a h ht=>dv_semi h ht) h ht
 cases h with
 | @create n d l hn h=>
   have:=ls_semi (P:=ColD) (fun c a h ht=>by cases h<;>simp[wINT,wTEXT,wMUST] <;>(first|exact nn ‹_› |(rename_i h;exact nn h))) h (ht.sub (fun w hw=>by simp[hw]))
   simp[wCREATE,wTABLE, *];try exact nn hn
 |mark _ _ _=>rename_i h1 h2 h3;simp[wCREATE,wINDEX,wON];exact⟨nn h1,nn h2,nn h3⟩
 |drop hn=>simp[wDROP,wTABLE];try exact nn hn
 | @insert n d l hn h=>
   have:=ls_semi (P:=RowD) (fun c a h ht=>by
    cases h with
    |r h=>have:=hx h (ht.sub (fun w hw=>by simp[hw]));simp[*]) h (ht.sub (fun w hw=>by simp[hw]))
   simp[wINSERT,wINTO,wVALUES, *];try exact nn hn
 | @delete n d e hn h=>
   have:=hw h (ht.sub (fun w hw=>by simp[hw]))
   simp[wDELETE,wFROM, *];try exact nn hn
 | @update n c d l e hn hs h=>
   have:=hw h (ht.sub (fun w hw=>by simp[hw]))
   have:=ls_semi (P:=SetD) (fun c a h ht=>by
    cases h with
    |s hn h=>have:=dv_semi h (ht.sub (fun w hw=>by simp[hw]));simp[*];try exact nn hn) hs (ht.sub (fun w hw=>by simp[hw]))
   simp[wUPDATE,wSET, *];try exact nn hn
 | @select o f w d m ol fl e od n ho hf hwh hd hm=>
   have a1: [59] ∉o:=by
    cases ho with
    |all=>simp
    |some h=>exact hx h (ht.sub (fun w hw=>by simp[hw]))
   have a2:=ls_semi (P:=NameD) (fun c a h ht=>by cases h with|n h=>simp;exact nn h) hf (ht.sub (fun w hw=>by simp[hw]))
   have a3:=hw hwh (ht.sub (fun w hw=>by simp[hw]))
   have a4: [59] ∉d:=by
    cases hd with
    |no=>simp
    |up h=>have:=dv_semi h (ht.sub (fun w hw=>by simp[hw]));simp[wORDER,wBY, *]
    |dn h=>have:=dv_semi h (ht.sub (fun w hw=>by simp[hw]));simp[wORDER,wBY,wDESC, *]
   have a5: [59] ∉m:=by
    cases hm with
    |no=>simp
    |n h0 h=>
     have hd:=num_dig (ht _ (by simp)).1.2.2 h
     simp[wLIMIT]
     intro e;rw[←e] at hd;exact absurd hd (by decide)
   simp[wSELECT,wFROM, *]
end Go.Proofs.YtadjbegnlimepaaGreatDoor
namespace Go.Proofs.YtadjbegnlimepaaGreatDoor
open Go.Abs
set_option maxRecDepth 100000
set_option linter.unusedVariables false
set_option linter.unusedSimpArgs false
theorem cut_len{l ats:List Str}{p:Nat×Nat}(h:cutM l ats=some p):p.1<l.length:=by
 obtain⟨a,w,b,e,_,e2⟩:=cut_is h
 rw[e2,e];simp
def partsN:Nat→List Str→List (List Str)
 |0,l=> [l]
 |n+1,l=>match cutM l [[44]] with
  |none=> [l]
  |some p=>l.take p.1::partsN n (l.drop (p.1+1))
def partsM(l:List Str):List (List Str):=partsN l.length l
theorem partsN_two: ∀(n m:Nat) (l:List Str),l.length≤n→l.length≤m→partsN n l=partsN m l
 |n,m,[],h,h2=>by
  have e:cutM ([]:List Str) [[44]] =none:=rfl
  cases n<;>cases m<;>simp only[partsN,e]
 |0,m,w::t,h,h2=>by simp at h
 |n,0,w::t,h,h2=>by simp at h2
 |n+1,m+1,w::t,h,h2=>by
  rw[partsN,partsN]
  cases e:cutM (w::t) [[44]] with
  |none=>rfl
  |some p=>
   have:=cut_len e
   simp only[List.length_cons] at this h h2
   dsimp only
   rw[partsN_two n m _ (by simp only[List.length_drop,List.length_cons];omega) (by simp only[List.length_drop,List.length_cons];omega)]
theorem partsN_more(n:Nat)(l:List Str)(h:l.length≤n):partsN n l=partsM l:=partsN_two n _ l h (Nat.le_refl _)
theorem parts_none{l:List Str}(h:cutM l [[44]] =none):partsM l= [l]:=by
 unfold partsM
 cases l with
 |nil=>rfl
 |cons w t=>rw[List.length_cons,partsN,h]
theorem parts_some{l:List Str}{p:Nat×Nat}(h:cutM l [[44]] =some p):partsM l=l.take p.1::partsM (l.drop (p.1+1)):=by
 have hp:=cut_len h
 cases l with
 |nil=>simp at hp
 |cons w t=>
  rw[partsM,List.length_cons,partsN,h]
  dsimp only
  rw[partsN_more t.length _ (by simp only[List.length_drop,List.length_cons];omega)]
def allM{α:Type}(f:List Str→Option α):List (List Str)→Option (List α)
 | [] =>some []
 |c::l=>match f c with
  |none=>none
  |some a=>match allM f l with
   |none=>none
   |some m=>some (a::m)
def lsM{α:Type}(f:List Str→Option α)(l:List Str):Option (List α):=allM f (partsM l)
theorem all_cons{α:Type}{f:List Str→Option α}{c:List Str}{l:List (List Str)}{m:List α}:allM f (c::l)=some m↔ ∃a m',f c=some a∧allM f l=some m'∧m=a::m':=by
 rw[allM]
 cases f c with
 |none=>simp
 |some a=>
  cases allM f l with
  |none=>simp
  |some m'=>simp[eq_comm]
theorem ls_snd{α:Type}{P:List Str→α→Prop}{f:List Str→Option α}(hf: ∀c a,TokA c→f c=some a→P c a): ∀(n:Nat) (l:List Str) (m:List α),l.length≤n→TokA l→lsM f l=some m→Ls P l m
 |n,l,m,hn,ht,h=>by
  unfold lsM at h
  cases e:cutM l [[44]] with
  |none=>
   rw[parts_none e,all_cons] at h
   obtain⟨a,m',h1,h2,rfl⟩:=h
   rw[allM] at h2
   injection h2 with h2
   rw[←h2]
   exact .one (hf _ _ ht h1)
  |some p=>
   rw[parts_some e,all_cons] at h
   obtain⟨a,m',h1,h2,rfl⟩:=h
   obtain⟨x,w,b,e1,hw,e2⟩:=cut_is e
   have hw:w= [44]:=by simpa using hw
   subst hw
   rw[e2] at h1 h2
   dsimp only at h1 h2
   rw[e1,take_at.1] at h1
   rw[e1,take_at.2] at h2
   have hl:=congrArg List.length e1
   simp only[List.length_append,List.length_cons] at hl
   match n,hn with
   |0,hn=>omega
   |n+1,hn=>
    rw[e1]
    exact .cons (hf _ _ (ht.sub (fun w hw=>by rw[e1];simp[hw])) h1) (ls_snd hf n b m' (by omega) (ht.sub (fun w hw=>by rw[e1];simp[hw])) h2)
theorem fl_free{Q:Str→Prop}{c us:List Str}(h:Fl Q c)(hq: ∀u∈us,¬Q u): ∀x w y,c=x++w::y→dep x=0→w∉us:=fun x w y e hd hu=>hq w hu (h.fr x w y e hd)
theorem ls_cpl{α:Type}{P:List Str→α→Prop}{f:List Str→Option α}(hf: ∀c a,TokA c→P c a→f c=some a){Q:Str→Prop}(hQ: ¬Q [44])(hP: ∀c a,P c a→TokA c→Fl Q c){c:List Str}{m:List α}(h:Ls P c m):TokA c→lsM f c=some m:=by
 have q: ∀u∈([[44]]:List Str),¬Q u:=fun u hu=>by simp at hu;rw[hu];exact hQ
 induction h with
 |one h=>
  intro ht
  unfold lsM
  rw[parts_none (cut_none (fl_free (hP _ _ h ht) q)),all_cons]
  exact⟨_,_,hf _ _ ht h,rfl,rfl⟩
 | @cons c d a l h t ih=>
   intro ht
   have h1:TokA c:=ht.sub (fun w hw=>by simp[hw])
   unfold lsM
   have e:=cut_at (b:=d) (ats:= [[44]]) (w:= [44]) (fl_free (hP _ _ h h1) q) (hP _ _ h h1).z (by simp)
   rw[parts_some e,all_cons]
   dsimp only
   rw[take_at.1,take_at.2]
   exact⟨_,_,hf _ _ h1 h,ih (ht.sub (fun w hw=>by simp[hw])),rfl⟩
def wK:List Str:= [[41],[59],wLIMIT,wORDER,wWHERE,wFROM,wDESC]
theorem e_fl{k:Nat}{c:List Str}{e:Ex}(h:Dv .O k c e)(ht:TokA c):Fl (fun w=>w∉ [44]::wK) c:=(dv_fl h ht).imp fun w hw hk=>by
 simp only[wK,List.mem_cons,List.not_mem_nil,or_false] at hk
 rcases hk with rfl|rfl|rfl|rfl|rfl|rfl|rfl|rfl<;>exact not_ok (by kernel_rfl) (by decide) hw
theorem n_k{n:Str}(h:namedM n=true):n∉ [44]::wK∧n≠ [40] ∧n≠ [41]:=by
 refine⟨fun hk=> ?_,named_ne h (by kernel_rfl),named_ne h (by kernel_rfl)⟩
 simp only[wK,List.mem_cons,List.not_mem_nil,or_false] at hk
 rcases hk with rfl|rfl|rfl|rfl|rfl|rfl|rfl|rfl<;>exact named_ne h (by kernel_rfl) rfl
theorem fl_nil{P:Str→Prop}:Fl P []:=⟨rfl,fun x y e=>by
 have:=congrArg List.length e
 cases x with
 |nil=>exact Int.le_refl _
 |cons=>simp at this,fun x w y e=>by have:=congrArg List.length e;simp at this⟩
theorem ls_fl{α:Type}{P:List Str→α→Prop}{Q:Str→Prop}(hP: ∀c a,P c a→TokA c→Fl Q c)(hq:Q [44]){c:List Str}{l:List α}(h:Ls P c l):TokA c→Fl Q c:=by
 induction h with
 |one h=>exact hP _ _ h
 |cons h t ih=>
  intro ht
  exact(hP _ _ h (ht.sub (fun w hw=>by simp[hw]))).app (.cons hq (by decide) (by decide) (ih (ht.sub (fun w hw=>by simp[hw]))))
theorem not_c{c:List Str}(h:Fl (fun w=>w∉ [44]::wK) c):Fl (fun w=>w∉wK) c:=h.imp fun w hw hk=>hw (List.mem_cons_of_mem _ hk)
def insM(l:List Str):Option (List Str):=
 if 2≤l.length∧l.headD [] = [40] ∧l.getD (l.length - 1) [] = [41] ∧cutM ((l.drop 1).take (l.length - 2)) [[41]] =none then some ((l.drop 1).take (l.length - 2)) else none
theorem br_app2{l:List Str}(h1:l.headD [] = [40])(h2:l.getD (l.length - 1) [] = [41])(h3:2≤l.length):l= [40]::((l.drop 1).take (l.length - 2)++ [[41]]):=by
 cases l with
 |nil=>simp at h3
 |cons a l=>
  have h1:a= [40]:=h1
  subst h1
  have e1:l.drop (l.length - 1)= [[41]]:=by
   simp only[List.length_cons] at h2 h3
   rw[List.getD_eq_getElem?_getD,List.getElem?_eq_getElem (by simp)] at h2
   rw[List.drop_eq_getElem_cons (by omega),List.drop_eq_nil_of_le (by omega)]
   have:l[l.length - 1] = [41]:=by
    have h2:([40]::l)[l.length] = [41]:=h2
    rw[←h2]
    obtain⟨m,hm⟩: ∃m,l.length=m+1:=⟨l.length - 1,by omega⟩
    simp[hm]
   rw[this]
  show _= [40]::(l.take (l.length+1 - 2)++ [[41]])
  rw[←e1,show l.length+1 - 2=l.length - 1 by omega,List.take_append_drop]
theorem ins_snd{l d:List Str}(h:insM l=some d):l= [40]::(d++ [[41]]):=by
 unfold insM at h
 split at h
 · rename_i k
   injection h with h
   rw[←h]
   exact br_app2 k.2.1 k.2.2.1 k.1
 · cases h
theorem br_mid{d:List Str}:(([40]::(d++ [[41]]):List Str).drop 1).take (([40]::(d++ [[41]]):List Str).length - 2)=d:=by
 have:([40]::(d++ [[41]]):List Str).length - 2=d.length:=by simp
 rw[this]
 simp
theorem ins_cpl{d:List Str}{Q:Str→Prop}(hd:Fl Q d)(hq: ¬Q [41]):insM ([40]::(d++ [[41]]))=some d:=by
 unfold insM
 rw[br_mid,if_pos ⟨by simp,rfl,by simp[List.getD_eq_getElem?_getD],cut_none (fl_free hd (fun u hu=>by simp at hu;rw[hu];exact hq))⟩]
def exM(p:List Str):Option Ex:=if(refO p 6).2=true then some (refO p 6).1 else none
theorem ex_iff{c:List Str}{e:Ex}(ht:TokA c):exM c=some e↔Dv .O 6 c e:=by
 rw[←refO_iff ht]
 unfold exM
 constructor
 · intro h
   split at h
   · rename_i k;injection h with h;rw[←h];exact Prod.ext rfl k
   · cases h
 · intro h;rw[h];rfl
def dcCol(p:List Str):Option Col:=
 if(2≤p.length∧p.length≤3)∧namedM (p.headD [])=true∧(p.getD 1 [] =wINT∨p.getD 1 [] =wTEXT)∧(p.length=3→p.getD 2 [] =wMUST) then some ⟨p.headD [],if p.getD 1 [] =wTEXT then 2 else 1,decide (p.length=3)⟩ else none
theorem col_iff{c:List Str}{a:Col}:dcCol c=some a↔ColD c a:=by
 unfold dcCol
 constructor
 · intro h
   split at h
   · rename_i k
     obtain⟨k1,k2,k3,k4⟩:=k
     injection h with h
     match c,k1 with
     | [n,t],_=>
       rcases k3 with k3|k3
       · have:t=wINT:=k3
         subst this
         rw[←h];exact .i k2
       · have:t=wTEXT:=k3
         subst this
         rw[←h];exact .t k2
     | [n,t,m],_=>
       have:m=wMUST:=k4 rfl
       subst this
       rcases k3 with k3|k3
       · have:t=wINT:=k3
         subst this
         rw[←h];exact .im k2
       · have:t=wTEXT:=k3
         subst this
         rw[←h];exact .tm k2
     | [],k1=>simp at k1
     | [_],k1=>simp at k1
     |_::_::_::_::_,k1=>simp only[List.length_cons] at k1;omega
   · cases h
 · intro h
   cases h with
   |i h=>rw[if_pos ⟨⟨by simp,by simp⟩,h,.inl rfl,fun k=>by simp at k⟩];rfl
   |im h=>rw[if_pos ⟨⟨by simp,by simp⟩,h,.inl rfl,fun k=>rfl⟩];rfl
   |t h=>rw[if_pos ⟨⟨by simp,by simp⟩,h,.inr rfl,fun k=>by simp at k⟩];rfl
   |tm h=>rw[if_pos ⟨⟨by simp,by simp⟩,h,.inr rfl,fun k=>rfl⟩];rfl
def nmM(p:List Str):Option Str:=if p.length=1∧namedM (p.headD [])=true then some (p.headD []) else none
theorem nm_iff{c:List Str}{a:Str}:nmM c=some a↔NameD c a:=by
 unfold nmM
 constructor
 · intro h
   split at h
   · rename_i k
     injection h with h
     match c,k with
     | [n],k=>rw[←h];exact .n k.2
     | [],k=>simp at k
     |_::_::_,k=>simp at k
   · cases h
 · intro h
   cases h with
   |n h=>rw[if_pos ⟨rfl,h⟩];rfl
theorem nm_fl{c:List Str}{a:Str}(h:NameD c a):Fl (fun w=>w∉ [44]::wK) c:=by
 cases h with
 |n h=>exact .one (n_k h).1 (n_k h).2.1 (n_k h).2.2
def rowM(p:List Str):Option (List Ex):=match insM p with
 |none=>none
 |some d=>lsM exM d
theorem row_iff{c:List Str}{a:List Ex}(ht:TokA c):rowM c=some a↔RowD c a:=by
 unfold rowM
 constructor
 · intro h
   cases e:insM c with
   |none=>rw[e] at h;cases h
   |some d=>
    rw[e] at h
    have e1:=ins_snd e
    rw[e1]
    exact .r (ls_snd (fun c a ht h=>(ex_iff ht).1 h) _ d a (Nat.le_refl _) (ht.sub (fun w hw=>by rw[e1];simp[hw])) h)
 · intro h
   cases h with
   | @r d _ h=>
     have hd:TokA d:=ht.sub (fun w hw=>by simp[hw])
     rw[ins_cpl (ls_fl (P:=Dv .O 6) (fun c a h ht=>not_c (e_fl h ht)) (by decide) h hd) (fun k=>k (by simp[wK]))]
     exact ls_cpl (fun c a ht h=>(ex_iff ht).2 h) (fun k=>k (by simp)) (fun c a h ht=>e_fl h ht) h hd
theorem row_fl{c:List Str}{a:List Ex}(h:RowD c a)(ht:TokA c):Fl (fun w=>w∉ [44]::wK) c:=by
 cases h with
 | @r d _ h=>exact(ls_fl (P:=Dv .O 6) (fun c a h ht=>not_c (e_fl h ht)) (by decide) h (ht.sub (fun w hw=>by simp[hw]))).brk (by decide)
def setM(p:List Str):Option Ast:=
 if 3≤p.length∧namedM (p.headD [])=true∧p.getD 1 [] = [61] then(exM (p.drop 2)).map fun e=>⟨p.headD [],e⟩ else none
theorem set_iff{c:List Str}{a:Ast}(ht:TokA c):setM c=some a↔SetD c a:=by
 unfold setM
 constructor
 · intro h
   split at h
   · rename_i k
     match c,k with
     |n::t::d,k=>
      have:t= [61]:=k.2.2
      subst this
      cases e:exM d with
      |none=>
       have h:(exM d).map (fun e=>(⟨n,e⟩:Ast))=some a:=h
       rw[e] at h;cases h
      |some x=>
       have h:(exM d).map (fun e=>(⟨n,e⟩:Ast))=some a:=h
       rw[e] at h
       injection h with h
       rw[←h]
       exact .s k.2.1 ((ex_iff (ht.sub (fun w hw=>by simp[hw]))).1 e)
     | [],k=>simp at k
     | [_],k=>simp at k
   · cases h
 · intro h
   cases h with
   | @s n d e hn h=>
     have:=List.length_pos_iff.2 (dv_ne h)
     rw[if_pos ⟨by simp only[List.length_cons];omega,hn,rfl⟩]
     show(exM d).map (fun e=>(⟨n,e⟩:Ast))=_
     rw[(ex_iff (ht.sub (fun w hw=>by simp[hw]))).2 h];rfl
theorem set_fl{c:List Str}{a:Ast}(h:SetD c a)(ht:TokA c):Fl (fun w=>w∉ [44]::wK) c:=by
 cases h with
 |s hn h=>exact .cons (n_k hn).1 (n_k hn).2.1 (n_k hn).2.2 (.cons (by decide) (by decide) (by decide) (e_fl h (ht.sub (fun w hw=>by simp[hw]))))
theorem col_fl{c:List Str}{a:Col}(h:ColD c a):Fl (fun w=>w∉ [44]::wK) c:=by
 cases h<;>rename_i hn<;>first
  |exact .cons (n_k hn).1 (n_k hn).2.1 (n_k hn).2.2 (.one (by decide) (by decide) (by decide))
  |exact .cons (n_k hn).1 (n_k hn).2.1 (n_k hn).2.2 (.cons (by decide) (by decide) (by decide) (.one (by decide) (by decide) (by decide)))
end Go.Proofs.YtadjbegnlimepaaGreatDoor
