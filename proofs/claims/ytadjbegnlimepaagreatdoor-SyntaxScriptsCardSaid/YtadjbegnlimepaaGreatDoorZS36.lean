/- Several texts in one, each with its own sentence ahead of it. Conditions: each one says its own. -/
import Derived.Test.YtadjbegnlimepaaGreatDoorZS35
set_option linter.all false
namespace Go.Proofs.YtadjbegnlimepaaGreatDoor
open Go.Abs
set_option maxRecDepth 100000
set_option linter.unusedVariables false
set_option linter.unusedSimpArgs false
def dcWh(l:List Str):List Str×Ex×Bool:=match cutM l [wWHERE] with
 |none=>(l,nilE,true)
 |some p=>(l.take p.1,refO (l.drop (p.1+1)) 6)
theorem one_mem{w u:Str}(h:w∈ [u]):w=u:=by simpa using h
theorem dcWh_snd{l:List Str}(ht:TokA l)(h:(dcWh l).2.2=true): ∃d,l=(dcWh l).1++d∧WhD d (dcWh l).2.1:=by
 unfold dcWh at h⊢
 cases e:cutM l [wWHERE] with
 |none=>exact⟨[],by simp,.no⟩
 |some p=>
  rw[e] at h
  obtain⟨a,w,b,e1,hw,e2⟩:=cut_is e
  have:=one_mem hw
  subst this
  dsimp only at h⊢
  rw[e2] at h⊢
  dsimp only at h⊢
  refine⟨wWHERE::b,?_,?_⟩
  · conv=>rhs;rw[e1,take_at.1]
    exact e1
  · rw[e1,take_at.2] at h⊢
    exact .wh ((refO_iff (ht.sub (fun w hw=>by rw[e1];simp[hw]))).1 (Prod.ext rfl h))
theorem dcWh_cpl{Q:Str→Prop}{a d:List Str}{e:Ex}(ha:Fl Q a)(hq: ¬Q wWHERE)(h:WhD d e)(ht:TokA d):dcWh (a++d)=(a,e,true):=by
 have q: ∀u∈([wWHERE]:List Str),¬Q u:=fun u hu=>by rw[one_mem hu];exact hq
 unfold dcWh
 cases h with
 |no=>rw[List.append_nil,cut_none (fl_free ha q)]
 | @wh d e h=>
   rw[cut_at (fl_free ha q) ha.z (by simp)]
   dsimp only
   rw[take_at.1,take_at.2,(refO_iff (ht.sub (fun w hw=>by simp[hw]))).2 h]
def dcCre(l:List Str):Option Stm:=
 if l≠ [] ∧namedM (l.headD [])=true then match insM (l.drop 1) with
  |none=>none
  |some d=>(lsM dcCol d).map fun cs=>{stm0 with kind:=1,name:=l.headD [],cols:=cs}
 else none
theorem dcCre_snd{l:List Str}{s:Stm}(ht:TokA l)(h:dcCre l=some s):StD (wCREATE::wTABLE::l) s:=by
 unfold dcCre at h
 split at h
 · rename_i k
   match l,k with
   |n::t,k=>
    cases e:insM t with
    |none=>have h:(match insM t with|none=>none|some d=>(lsM dcCol d).map fun cs=>{stm0 with kind:=1,name:=n,cols:=cs})=some s:=h
           rw[e] at h;cases h
    |some d=>
     have h:(match insM t with|none=>none|some d=>(lsM dcCol d).map fun cs=>{stm0 with kind:=1,name:=n,cols:=cs})=some s:=h
     rw[e] at h
     dsimp only at h
     obtain⟨cs,h1,h2⟩:=Option.map_eq_some_iff.1 h
     rw[←h2,ins_snd e]
     exact .create k.2 (ls_snd (P:=ColD) (fun c a _ h=>col_iff.1 h) _ d cs (Nat.le_refl _) (ht.sub (fun w hw=>by rw[ins_snd e];simp[hw])) h1)
   | [],k=>exact absurd rfl k.1
 · cases h
theorem dcCre_cpl{n:Str}{d:List Str}{l:List Col}(hn:namedM n=true)(h:Ls ColD d l)(ht:TokA d):dcCre (n:: [40]::(d++ [[41]]))=some {stm0 with kind:=1,name:=n,cols:=l}:=by
 unfold dcCre
 rw[if_pos ⟨by simp,hn⟩]
 show(match insM ([40]::(d++ [[41]])) with|none=>none|some d=>(lsM dcCol d).map fun cs=>{stm0 with kind:=1,name:=n,cols:=cs})=_
 rw[ins_cpl (ls_fl (P:=ColD) (fun c a h ht=>not_c (col_fl h)) (by decide) h ht) (fun k=>k (by simp[wK]))]
 dsimp only
 rw[ls_cpl (P:=ColD) (fun c a _ h=>col_iff.2 h) (fun k=>k (by simp)) (fun c a h ht=>col_fl h) h ht]
 rfl
def dcMar(l:List Str):Option Stm:=
 if(l.length=6∧l.getD 1 [] =wON∧l.getD 3 [] = [40] ∧l.getD 5 [] = [41])∧namedM (l.headD [])=true∧namedM (l.getD 2 [])=true∧namedM (l.getD 4 [])=true then
  some {stm0 with kind:=2,name:=l.headD [],table:=l.getD 2 [],col:=l.getD 4 []} else none
theorem dcMar_snd{l:List Str}{s:Stm}(h:dcMar l=some s):StD (wCREATE::wINDEX::l) s:=by
 unfold dcMar at h
 split at h
 · rename_i k
   obtain⟨⟨k1,k2,k3,k4⟩,k5,k6,k7⟩:=k
   match l,k1 with
   | [a,b,c,d,e,f],_=>
     have e1:b=wON:=k2
     have e2:d= [40]:=k3
     have e3:f= [41]:=k4
     subst e1 e2 e3
     injection h with h
     rw[←h]
     exact .mark k5 k6 k7
 · cases h
def dcDro(l:List Str):Option Stm:=if l.length=1∧namedM (l.headD [])=true then some {stm0 with kind:=3,name:=l.headD []} else none
theorem dcDro_snd{l:List Str}{s:Stm}(h:dcDro l=some s):StD (wDROP::wTABLE::l) s:=by
 unfold dcDro at h
 split at h
 · rename_i k
   match l,k.1 with
   | [a],_=>
     injection h with h
     rw[←h]
     exact .drop k.2
 · cases h
def dcIns(l:List Str):Option Stm:=
 if 3≤l.length∧namedM (l.headD [])=true∧l.getD 1 [] =wVALUES then(lsM rowM (l.drop 2)).map fun rs=>{stm0 with kind:=4,table:=l.headD [],rows:=rs} else none
theorem dcIns_snd{l:List Str}{s:Stm}(ht:TokA l)(h:dcIns l=some s):StD (wINSERT::wINTO::l) s:=by
 unfold dcIns at h
 split at h
 · rename_i k
   match l,k with
   |n::t::d,k=>
    have e1:t=wVALUES:=k.2.2
    subst e1
    obtain⟨rs,h1,h2⟩:=Option.map_eq_some_iff.1 h
    rw[←h2]
    have td:TokA d:=ht.sub (fun w hw=>by simp[hw])
    exact .insert k.2.1 (ls_snd (P:=RowD) (fun c a ht h=>(row_iff ht).1 h) _ d rs (Nat.le_refl _) td h1)
   | [],k=>simp at k
   | [_],k=>simp at k
 · cases h
theorem dcIns_cpl{n:Str}{d:List Str}{l:List (List Ex)}(hn:namedM n=true)(h:Ls RowD d l)(ht:TokA d):dcIns (n::wVALUES::d)=some {stm0 with kind:=4,table:=n,rows:=l}:=by
 have h0:=List.length_pos_iff.2 (ls_ne (P:=RowD) (fun c a h=>by cases h;simp) h)
 unfold dcIns
 rw[if_pos ⟨by simp only[List.length_cons];omega,hn,rfl⟩]
 show(lsM rowM d).map _=_
 rw[ls_cpl (P:=RowD) (fun c a ht h=>(row_iff ht).2 h) (fun k=>k (by simp)) (fun c a h ht=>row_fl h ht) h ht]
 rfl
def dcDel(l:List Str):Option Stm:=
 if((dcWh l).1.length=1∧namedM ((dcWh l).1.headD [])=true)∧(dcWh l).2.2=true then some {stm0 with kind:=5,table:=(dcWh l).1.headD [],wh:=(dcWh l).2.1} else none
theorem dcDel_snd{l:List Str}{s:Stm}(ht:TokA l)(h:dcDel l=some s):StD (wDELETE::wFROM::l) s:=by
 unfold dcDel at h
 split at h
 · rename_i k
   obtain⟨d,e1,e2⟩:=dcWh_snd ht k.2
   injection h with h
   generalize dcWh l=w at*
   obtain⟨a,e,b⟩:=w
   dsimp only at*
   match a,k.1.1 with
   | [n],_=>
     rw[e1,←h]
     exact .delete k.1.2 e2
 · cases h
theorem dcDel_cpl{n:Str}{d:List Str}{e:Ex}(hn:namedM n=true)(h:WhD d e)(ht:TokA d):dcDel (n::d)=some {stm0 with kind:=5,table:=n,wh:=e}:=by
 have:=dcWh_cpl (a:= [n]) (Q:=fun w=>w∉ [44]::wK) (.one (n_k hn).1 (n_k hn).2.1 (n_k hn).2.2) (fun k=>k (by simp[wK])) h ht
 unfold dcDel
 rw[show dcWh (n::d)=([n],e,true) from this,if_pos ⟨⟨rfl,hn⟩,rfl⟩]
 rfl
def dcUpd(l:List Str):Option Stm:=
 if 2≤(dcWh l).1.length∧namedM ((dcWh l).1.headD [])=true∧(dcWh l).1.getD 1 [] =wSET then match lsM setM ((dcWh l).1.drop 2) with
  |none=>none
  |some m=>if(dcWh l).2.2=true then some {stm0 with kind:=6,table:=(dcWh l).1.headD [],sets:=m,wh:=(dcWh l).2.1} else none
 else none
theorem dcUpd_snd{l:List Str}{s:Stm}(ht:TokA l)(h:dcUpd l=some s):StD (wUPDATE::l) s:=by
 unfold dcUpd at h
 split at h
 · rename_i k
   cases e:lsM setM ((dcWh l).1.drop 2) with
   |none=>rw[e] at h;cases h
   |some m=>
    rw[e] at h
    dsimp only at h
    split at h
    · rename_i k2
      obtain⟨d,e1,e2⟩:=dcWh_snd ht k2
      injection h with h
      generalize dcWh l=w at*
      obtain⟨a,x,b⟩:=w
      dsimp only at*
      match a,k with
      |n::t::c,k=>
       have e3:t=wSET:=k.2.2
       subst e3
       rw[←h]
       have:=StD.update k.2.1 (ls_snd (P:=SetD) (fun c a ht h=>(set_iff ht).1 h) _ c m (Nat.le_refl _) (ht.sub (fun w hw=>by rw[e1];simp[hw])) e) e2
       rw[e1]
       exact this
      | [],k=>simp at k
      | [_],k=>simp at k
    · cases h
 · cases h
theorem dcUpd_cpl{n:Str}{c d:List Str}{l:List Ast}{e:Ex}(hn:namedM n=true)(hs:Ls SetD c l)(h:WhD d e)(tc:TokA c)(td:TokA d):dcUpd (n::wSET::(c++d))=some {stm0 with kind:=6,table:=n,sets:=l,wh:=e}:=by
 have fc:=ls_fl (P:=SetD) (fun c a h ht=>not_c (set_fl h ht)) (by decide) hs tc
 have:=dcWh_cpl (a:=n::wSET::c) (Q:=fun w=>w∉wK) (.cons (fun k=>(n_k hn).1 (by simp[k])) (n_k hn).2.1 (n_k hn).2.2 (.cons (by decide) (by decide) (by decide) fc)) (fun k=>k (by simp[wK])) h td
 unfold dcUpd
 rw[show dcWh (n::wSET::(c++d))=(n::wSET::c,e,true) from this,if_pos ⟨by simp,hn,rfl⟩]
 show(match lsM setM c with|none=>none|some m=>_)=_
 rw[ls_cpl (P:=SetD) (fun c a ht h=>(set_iff ht).2 h) (fun k=>k (by simp)) (fun c a h ht=>set_fl h ht) hs tc]
 rfl
def dcLim(l:List Str):List Str×Int×Bool:=
 if 1<l.length∧l.getD (l.length - 2) [] =wLIMIT then(l.take (l.length - 2),numR (l.getD (l.length - 1) [])) else(l,-1,true)
theorem two_last{l:List Str}{u:Str}(h1:1<l.length)(h2:l.getD (l.length - 2) [] =u):l=l.take (l.length - 2)++ [u,l.getD (l.length - 1) []]:=by
 have e1:l.drop (l.length - 2)= [u,l.getD (l.length - 1) []]:=by
  rw[List.drop_eq_getElem_cons (by omega),List.drop_eq_getElem_cons (by omega)]
  rw[List.getD_eq_getElem?_getD,List.getElem?_eq_getElem (by omega)] at h2
  rw[List.getD_eq_getElem?_getD,List.getElem?_eq_getElem (by omega)]
  have h2:l[l.length - 2] =u:=h2
  rw[h2,List.drop_eq_nil_of_le (by omega)]
  have:l[l.length - 2+1] =l[l.length - 1]:=by
   have:l.length - 2+1=l.length - 1:=by omega
   simp only[this]
  rw[this];rfl
 conv=>lhs;rw[←List.take_append_drop (l.length - 2) l,e1]
theorem two_end{a:List Str}{u v:Str}:(a++ [u,v]).length=a.length+2∧(a++ [u,v]).getD a.length [] =u∧(a++ [u,v]).getD (a.length+1) [] =v∧(a++ [u,v]).take a.length=a:=by
 refine⟨by simp,?_,?_,by simp⟩
 · simp[List.getD_eq_getElem?_getD]
 · simp[List.getD_eq_getElem?_getD,List.getElem?_append_right]
theorem dcLim_snd{l:List Str}(ht:TokA l)(h:(dcLim l).2.2=true): ∃m,l=(dcLim l).1++m∧LimD m (dcLim l).2.1:=by
 unfold dcLim at h⊢
 split at h
 · rename_i k
   rw[if_pos k]
   dsimp only at h⊢
   have e:=two_last k.1 k.2
   have tv:=ht (l.getD (l.length - 1) []) (by
    have k1:=k.1
    rw[List.getD_eq_getElem?_getD,List.getElem?_eq_getElem (by omega)]
    exact List.getElem_mem _)
   exact⟨_,e,.n tv.2 ((num_same tv.1.2.2 _).2 (Prod.ext rfl h))⟩
 · rename_i k
   rw[if_neg k]
   exact⟨[],by simp,.no⟩
theorem dcLim_cpl{a m:List Str}{n:Int}(ha:wLIMIT∉a)(h:LimD m n)(ht:TokA m):dcLim (a++m)=(a,n,true):=by
 unfold dcLim
 cases h with
 |no=>
  rw[List.append_nil,if_neg]
  rintro ⟨k1,k2⟩
  apply ha
  have:=two_last k1 k2
  rw[this];simp
 | @n s n h0 h=>
   obtain⟨e1,e2,e3,e4⟩:=two_end (a:=a) (u:=wLIMIT) (v:=s)
   rw[e1,show a.length+2 - 2=a.length by omega,show a.length+2 - 1=a.length+1 by omega,e2,e3,e4,if_pos ⟨by omega,rfl⟩,(num_same (ht s (by simp)).1.2.2 _).1 h]
def dcBy(b:List Str):List Str×Bool:=if 0<b.length∧b.getD (b.length - 1) [] =wDESC then(b.take (b.length - 1),true) else(b,false)
def dcOrd(l:List Str):Option (List Str×(List Ex×Bool)×Bool):=match cutM l [wORDER] with
 |none=>some (l,([],false),true)
 |some p=>if(dcBy (l.drop (p.1+1))).1≠ [] ∧(dcBy (l.drop (p.1+1))).1.headD [] =wBY then
   some (l.take p.1,([(refO ((dcBy (l.drop (p.1+1))).1.drop 1) 6).1],(dcBy (l.drop (p.1+1))).2),(refO ((dcBy (l.drop (p.1+1))).1.drop 1) 6).2) else none
theorem one_last{l:List Str}{u:Str}(h1:0<l.length)(h2:l.getD (l.length - 1) [] =u):l=l.take (l.length - 1)++ [u]:=by
 have e1:l.drop (l.length - 1)= [u]:=by
  rw[List.drop_eq_getElem_cons (by omega),List.drop_eq_nil_of_le (by omega)]
  rw[List.getD_eq_getElem?_getD,List.getElem?_eq_getElem (by omega)] at h2
  have h2:l[l.length - 1] =u:=h2
  rw[h2]
 conv=>lhs;rw[←List.take_append_drop (l.length - 1) l,e1]
theorem dcBy_is(b:List Str):b=(dcBy b).1++(if(dcBy b).2 then [wDESC] else []):=by
 unfold dcBy
 split
 · rename_i k;exact one_last k.1 k.2
 · simp
theorem dcOrd_snd{l:List Str}(ht:TokA l){o:List Str×(List Ex×Bool)×Bool}(h:dcOrd l=some o)(hk:o.2.2=true): ∃d,l=o.1++d∧OrdD d o.2.1:=by
 unfold dcOrd at h
 cases e:cutM l [wORDER] with
 |none=>
  rw[e] at h
  injection h with h
  rw[←h]
  exact⟨[],by simp,.no⟩
 |some p=>
  rw[e] at h
  dsimp only at h
  obtain⟨a,w,b,e1,hw,e2⟩:=cut_is e
  have:=one_mem hw
  subst this
  rw[e2] at h
  dsimp only at h
  rw[e1,take_at.1,take_at.2] at h
  have tb:TokA b:=ht.sub (fun w hw=>by rw[e1];simp[hw])
  split at h
  · rename_i k
    injection h with h
    rw[←h] at hk⊢
    dsimp only at hk⊢
    have e3:=dcBy_is b
    generalize dcBy b=q at*
    obtain⟨c,dn⟩:=q
    dsimp only at*
    match c,k with
    |u::c,k=>
     have:u=wBY:=k.2
     subst this
     have tc:TokA c:=tb.sub (fun w hw=>by rw[e3];simp[hw])
     have:=(refO_iff tc).1 (Prod.ext rfl hk:refO c 6=((refO c 6).1,true))
     refine⟨wORDER::b,e1,?_⟩
     rw[e3]
     cases dn with
     |false=>rw[if_neg Bool.false_ne_true,List.append_nil];exact .up this
     |true=>rw[if_pos rfl];exact .dn this
    | [],k=>exact absurd rfl k.1
  · cases h
theorem dcBy_dn{d:List Str}:dcBy (wBY::(d++ [wDESC]))=(wBY::d,true):=by
 unfold dcBy
 have e1:(wBY::(d++ [wDESC]):List Str).length - 1=d.length+1:=by simp
 rw[e1,if_pos ⟨by simp,by simp[List.getD_eq_getElem?_getD]⟩]
 simp
theorem fl_last{P:Str→Prop}{c:List Str}{u:Str}(h:Fl P (c++ [u]))(hu: ¬P u)(h1:depW 0 u=0):False:=by
 refine hu (h.fr c u [] rfl ?_)
 have:=h.z
 rw[dep_app] at this
 simp only[dep,h1] at this
 omega
theorem dcBy_up'{d:List Str}{e:Ex}(h:Dv .O 6 d e)(ht:TokA d):dcBy (wBY::d)=(wBY::d,false):=by
 unfold dcBy
 rw[if_neg]
 rintro ⟨k1,k2⟩
 have e1:=one_last k1 k2
 have hl:(wBY::d).length - 1=d.length:=by simp
 rw[hl] at e1
 have h0:=dv_ne h
 cases d with
 |nil=>exact h0 rfl
 |cons u d=>
  have e:=congrArg (List.drop 1) e1
  simp at e
  have f:=e_fl h ht
  rw[e] at f
  exact fl_last f (fun k=>k (by simp[wK])) (by decide)
theorem dcOrd_cpl{Q:Str→Prop}{a d:List Str}{od:List Ex×Bool}(ha:Fl Q a)(hq: ¬Q wORDER)(h:OrdD d od)(ht:TokA d):dcOrd (a++d)=some (a,od,true):=by
 have q: ∀u∈([wORDER]:List Str),¬Q u:=fun u hu=>by rw[one_mem hu];exact hq
 unfold dcOrd
 cases h with
 |no=>rw[List.append_nil,cut_none (fl_free ha q)]
 | @up d e h=>
   have td:TokA d:=ht.sub (fun w hw=>by simp[hw])
   rw[cut_at (fl_free ha q) ha.z (by simp)]
   dsimp only
   rw[take_at.1,take_at.2,dcBy_up' h td]
   dsimp only
   rw[if_pos ⟨by simp,rfl⟩,show(wBY::d:List Str).drop 1=d from rfl,(refO_iff td).2 h]
 | @dn d e h=>
   have td:TokA d:=ht.sub (fun w hw=>by simp[hw])
   rw[cut_at (fl_free ha q) ha.z (by simp)]
   dsimp only
   rw[take_at.1,take_at.2,dcBy_dn]
   dsimp only
   rw[if_pos ⟨by simp,rfl⟩,show(wBY::d:List Str).drop 1=d from rfl,(refO_iff td).2 h]
def dcOut(a:List Str):Option (List Ex):=if a= [[42]] then some [] else lsM exM a
theorem dcOut_snd{a:List Str}{l:List Ex}(ht:TokA a)(h:dcOut a=some l):OutD a l:=by
 unfold dcOut at h
 split at h
 · rename_i k
   injection h with h
   rw[k,←h]
   exact .all
 · exact .some (ls_snd (P:=Dv .O 6) (fun c a ht h=>(ex_iff ht).1 h) _ a l (Nat.le_refl _) ht h)
theorem star_ne{d:List Str}{l:List Ex}(h:Ls (Dv .O 6) d l):d≠ [[42]]:=by
 intro e
 cases h with
 |one h=>
  obtain⟨u,t,e1,e2⟩:=first_star h
  rw[e1] at e
  injection e with e
  exact e2 e
 | @cons c d a l h t=>
   obtain⟨u,t,e1,e2⟩:=first_star h
   rw[e1] at e
   injection e with e
   exact e2 e
theorem dcOut_cpl{d:List Str}{l:List Ex}(h:OutD d l)(ht:TokA d):dcOut d=some l:=by
 unfold dcOut
 cases h with
 |all=>rw[if_pos rfl]
 |some h=>
  rw[if_neg (star_ne h)]
  exact ls_cpl (P:=Dv .O 6) (fun c a ht h=>(ex_iff ht).2 h) (fun k=>k (by simp)) (fun c a h ht=>e_fl h ht) h ht
theorem out_fl{d:List Str}{l:List Ex}(h:OutD d l)(ht:TokA d):Fl (fun w=>w∉wK) d:=by
 cases h with
 |all=>exact .one (by decide) (by decide) (by decide)
 |some h=>exact ls_fl (P:=Dv .O 6) (fun c a h ht=>not_c (e_fl h ht)) (by decide) h ht
def dcSel(l:List Str):Option Stm:=match dcOrd (dcLim l).1 with
 |none=>none
 |some o=>match cutM (dcWh o.1).1 [wFROM] with
  |none=>none
  |some p=>match lsM nmM ((dcWh o.1).1.drop (p.1+1)) with
   |none=>none
   |some fl=>match dcOut ((dcWh o.1).1.take p.1) with
    |none=>none
    |some ol=>if(dcLim l).2.2=true∧o.2.2=true∧(dcWh o.1).2.2=true then some {stm0 with kind:=7,out:=ol,frm:=fl,wh:=(dcWh o.1).2.1,ord:=o.2.1.1,down:=o.2.1.2,n:=(dcLim l).2.1} else none
theorem dcSel_snd{l:List Str}{s:Stm}(ht:TokA l)(h:dcSel l=some s):StD (wSELECT::l) s:=by
 unfold dcSel at h
 cases e1:dcOrd (dcLim l).1 with
 |none=>rw[e1] at h;cases h
 |some o=>
  rw[e1] at h;dsimp only at h
  cases e2:cutM (dcWh o.1).1 [wFROM] with
  |none=>rw[e2] at h;cases h
  |some p=>
   rw[e2] at h;dsimp only at h
   cases e3:lsM nmM ((dcWh o.1).1.drop (p.1+1)) with
   |none=>rw[e3] at h;cases h
   |some fl=>
    rw[e3] at h;dsimp only at h
    cases e4:dcOut ((dcWh o.1).1.take p.1) with
    |none=>rw[e4] at h;cases h
    |some ol=>
     rw[e4] at h;dsimp only at h
     split at h
     · rename_i k
       injection h with h
       obtain⟨m,f1,f2⟩:=dcLim_snd ht k.1
       have t1:TokA (dcLim l).1:=ht.sub (fun w hw=>by rw[f1];simp[hw])
       obtain⟨d,f3,f4⟩:=dcOrd_snd t1 e1 k.2.1
       have t2:TokA o.1:=t1.sub (fun w hw=>by rw[f3];simp[hw])
       obtain⟨w,f5,f6⟩:=dcWh_snd t2 k.2.2
       have t3:TokA (dcWh o.1).1:=t2.sub (fun w hw=>by rw[f5];simp[hw])
       obtain⟨a,u,b,f7,hu,f8⟩:=cut_is e2
       have:=one_mem hu
       subst this
       rw[f8] at e3 e4
       dsimp only at e3 e4
       rw[f7,take_at.2] at e3
       rw[f7,take_at.1] at e4
       have g1:=dcOut_snd (t3.sub (fun w hw=>by rw[f7];simp[hw])) e4
       have g2:=ls_snd (P:=NameD) (fun c a _ h=>nm_iff.1 h) _ b fl (Nat.le_refl _) (t3.sub (fun w hw=>by rw[f7];simp[hw])) e3
       have:=StD.select g1 g2 f6 f4 f2
       have el:l=a++wFROM::(b++(w++(d++m))):=by
        rw[f1,f3,f5,f7];simp
       rw[el,←h]
       rw[←el]
       rw[←el] at this
       exact this
     · cases h
theorem dv_lim{lv:Lv}{k:Nat}{c:List Str}{e:Ex}(h:Dv lv k c e)(ht:TokA c):wLIMIT∉c:=by
 have a1:wLIMIT≠wOR:=by decide
 have a2:wLIMIT≠wAND:=by decide
 have a3:wLIMIT≠wNOT:=by decide
 have a4:wLIMIT≠wIS:=by decide
 have a5:wLIMIT≠wNULL:=by decide
 have a6:wLIMIT≠ [61]:=by decide
 have a7:wLIMIT≠ [60]:=by decide
 have a8:wLIMIT≠ [43]:=by decide
 have a9:wLIMIT≠ [45]:=by decide
 have b1:wLIMIT≠ [40]:=by decide
 have b2:wLIMIT≠ [41]:=by decide
 have b3:wLIMIT≠ [46]:=by decide
 induction h with
 |oA _ ih=>exact ih ht
 |oO _ _ ih ih2=>have:=ih (ht.sub (fun w hw=>by simp[hw]));have:=ih2 (ht.sub (fun w hw=>by simp[hw]));simp[*]
 |aT _ ih=>exact ih ht
 |aA _ _ ih ih2=>have:=ih (ht.sub (fun w hw=>by simp[hw]));have:=ih2 (ht.sub (fun w hw=>by simp[hw]));simp[*]
 |tN _ ih=>have:=ih (ht.sub (fun w hw=>by simp[hw]));simp[*]
 |tS _ ih=>exact ih ht
 |tI _ ih=>have:=ih (ht.sub (fun w hw=>by simp[hw]));simp[*]
 |tE _ _ ih ih2=>have:=ih (ht.sub (fun w hw=>by simp[hw]));have:=ih2 (ht.sub (fun w hw=>by simp[hw]));simp[*]
 |tL _ _ ih ih2=>have:=ih (ht.sub (fun w hw=>by simp[hw]));have:=ih2 (ht.sub (fun w hw=>by simp[hw]));simp[*]
 |sM _ ih=>exact ih ht
 |sP _ _ ih ih2=>have:=ih (ht.sub (fun w hw=>by simp[hw]));have:=ih2 (ht.sub (fun w hw=>by simp[hw]));simp[*]
 |sN _ _ ih ih2=>have:=ih (ht.sub (fun w hw=>by simp[hw]));have:=ih2 (ht.sub (fun w hw=>by simp[hw]));simp[*]
 |mB _ ih=>have:=ih (ht.sub (fun w hw=>by simp[hw]));simp[*]
 |mL h=>
  have nn: ∀{s:Str},namedM s=true→wLIMIT≠s:=fun h e=>named_ne h (by kernel_rfl) e.symm
  have nd: ∀{s:Str},digC (s.headD 0)=true→wLIMIT≠s:=fun h e=>by rw[←e] at h;exact absurd h (by decide)
  cases h with
  |nul=>simp[*]
  |txt h h0 hg=>simp;intro e;rw[←e] at h;exact absurd h (by decide)
  |num h h0 hn=>simp;exact nd h
  |neg h0 hn=>simp;exact⟨a9,nd (num_dig (ht _ (by simp)).1.2.2 hn)⟩
  |ref h=>simp;exact nn h
  |dot h h2=>simp;exact⟨nn h,b3,nn h2⟩
theorem ls_not{α:Type}{u:Str}(hu:u≠ [44]){P:List Str→α→Prop}(hP: ∀c a,P c a→TokA c→u∉c){c:List Str}{l:List α}(h:Ls P c l):TokA c→u∉c:=by
 induction h with
 |one h=>exact hP _ _ h
 |cons h t ih=>intro ht;have:=hP _ _ h (ht.sub (fun w hw=>by simp[hw]));have:=ih (ht.sub (fun w hw=>by simp[hw]));simp[*]
theorem dcSel_cpl{o f w d m:List Str}{ol:List Ex}{fl:List Str}{e:Ex}{od:List Ex×Bool}{n:Int}(ho:OutD o ol)(hf:Ls NameD f fl)(hw:WhD w e)(hd:OrdD d od)(hm:LimD m n)(ht:TokA (o++wFROM::(f++(w++(d++m))))):
 dcSel (o++wFROM::(f++(w++(d++m))))=some {stm0 with kind:=7,out:=ol,frm:=fl,wh:=e,ord:=od.1,down:=od.2,n:=n}:=by
 have zto:TokA o:=ht.sub (fun w hw=>by simp[hw])
 have tf:TokA f:=ht.sub (fun w hw=>by simp[hw])
 have tw:TokA w:=ht.sub (fun w hw=>by simp[hw])
 have td:TokA d:=ht.sub (fun w hw=>by simp[hw])
 have tm:TokA m:=ht.sub (fun w hw=>by simp[hw])
 have fo:=out_fl ho zto
 have ff:Fl (fun w=>w∉wK) f:=ls_fl (P:=NameD) (fun c a h ht=>not_c (nm_fl h)) (by decide) hf tf
 have a2:wLIMIT≠wWHERE:=by decide
 have a3:wLIMIT≠wORDER:=by decide
 have a4:wLIMIT≠wBY:=by decide
 have a5:wLIMIT≠wDESC:=by decide
 have a6:wLIMIT≠wFROM:=by decide
 have nf:wLIMIT∉f:=ls_not (P:=NameD) (by decide) (fun c a h ht=>by cases h with|n h=>simp;exact fun e=>named_ne h (by kernel_rfl) e.symm) hf tf
 have no:wLIMIT∉o:=by
  cases ho with
  |all=>decide
  |some h=>exact ls_not (P:=Dv .O 6) (by decide) (fun c a h ht=>dv_lim h ht) h zto
 have nw:wLIMIT∉w:=by
  cases hw with
  |no=>simp
  |wh h=>have:=dv_lim h (tw.sub (fun w hw=>by simp[hw]));simp[*]
 have nd:wLIMIT∉d:=by
  cases hd with
  |no=>simp
  |up h=>have:=dv_lim h (td.sub (fun w hw=>by simp[hw]));simp[*]
  |dn h=>have:=dv_lim h (td.sub (fun w hw=>by simp[hw]));simp[*]
 have ki: ∀w:Str,w∉wK→w∉ [wORDER,wWHERE]:=fun w hw k=>hw (by simp at k;rcases k with rfl|rfl<;>simp[wK])
 have fo':Fl (fun w=>w∉ [wORDER,wWHERE]) o:=fo.imp ki
 have ff':Fl (fun w=>w∉ [wORDER,wWHERE]) f:=ff.imp ki
 have fA:Fl (fun w=>w∉ [wORDER,wWHERE]) (o++wFROM::f):=fo'.app (.cons (by decide) (by decide) (by decide) ff')
 have fw:Fl (fun w=>w∉ [wORDER]) w:=by
  cases hw with
  |no=>exact fl_nil
  |wh h=>exact .cons (by decide) (by decide) (by decide) ((e_fl h (tw.sub (fun w hw=>by simp[hw]))).imp (fun w hw k=>hw (by simp at k;rw[k];simp[wK])))
 have fA':Fl (fun w=>w∉ [wORDER]) (o++wFROM::f):=fA.imp (fun w hw k=>hw (by simp at k;rw[k];simp))
 have fB:Fl (fun w=>w∉ [wORDER]) ((o++wFROM::f)++w):=fA'.app fw
 have e0:o++wFROM::(f++(w++(d++m)))=(((o++wFROM::f)++w)++d)++m:=by simp
 have n0:wLIMIT∉((o++wFROM::f)++w)++d:=by simp[*]
 rw[e0]
 unfold dcSel
 rw[dcLim_cpl n0 hm tm]
 dsimp only
 rw[dcOrd_cpl fB (fun k=>k (by simp)) hd td]
 dsimp only
 rw[dcWh_cpl fA (fun k=>k (by simp)) hw tw]
 dsimp only
 rw[cut_at (fl_free fo (fun u hu k=>k (by rw[one_mem hu];simp[wK]))) fo.z (by simp)]
 dsimp only
 rw[take_at.1,take_at.2,ls_cpl (P:=NameD) (fun c a _ h=>nm_iff.2 h) (fun k=>k (by simp)) (fun c a h ht=>nm_fl h) hf tf]
 dsimp only
 rw[dcOut_cpl ho zto]
 dsimp only
 rw[if_pos ⟨rfl,rfl,rfl⟩]
def hdW(ws l:List Str):Bool:=decide (l.take ws.length=ws)
theorem hd_ne{w u:Str}{us t:List Str}(h:w≠u):hdW (u::us) (w::t)=false:=by simp[hdW,h]
theorem hd_ne2{a w u:Str}{t:List Str}(h:w≠u):hdW [a,u] (a::w::t)=false:=by simp[hdW,h]
theorem hd_1{a:Str}{t:List Str}:hdW [a] (a::t)=true:=by simp[hdW]
theorem hd_2{a b:Str}{t:List Str}:hdW [a,b] (a::b::t)=true:=by simp[hdW]
theorem hd_is{ws l:List Str}(h:hdW ws l=true):l=ws++l.drop ws.length:=by
 unfold hdW at h
 have h:=of_decide_eq_true h
 conv=>lhs;rw[←List.take_append_drop ws.length l,h]
def dcStmt(l:List Str):Option Stm:=
 if hdW [wCREATE,wTABLE] l=true then dcCre (l.drop 2)
 else if hdW [wCREATE,wINDEX] l=true then dcMar (l.drop 2)
 else if hdW [wDROP,wTABLE] l=true then dcDro (l.drop 2)
 else if hdW [wINSERT,wINTO] l=true then dcIns (l.drop 2)
 else if hdW [wDELETE,wFROM] l=true then dcDel (l.drop 2)
 else if hdW [wUPDATE] l=true then dcUpd (l.drop 1)
 else if hdW [wSELECT] l=true then dcSel (l.drop 1)
 else none
theorem dcStmt_iff{l:List Str}{s:Stm}(ht:TokA l):dcStmt l=some s↔StD l s:=by
 constructor
 · intro h
   unfold dcStmt at h
   have t1:TokA (l.drop 1):=ht.sub (fun w hw=>List.mem_of_mem_drop hw)
   have t2:TokA (l.drop 2):=ht.sub (fun w hw=>List.mem_of_mem_drop hw)
   split at h
   · rename_i k;have:=dcCre_snd t2 h;rw[hd_is k];exact this
   split at h
   · rename_i k;have:=dcMar_snd h;rw[hd_is k];exact this
   split at h
   · rename_i k;have:=dcDro_snd h;rw[hd_is k];exact this
   split at h
   · rename_i k;have:=dcIns_snd t2 h;rw[hd_is k];exact this
   split at h
   · rename_i k;have:=dcDel_snd t2 h;rw[hd_is k];exact this
   split at h
   · rename_i k;have:=dcUpd_snd t1 h;rw[hd_is k];exact this
   split at h
   · rename_i k;have:=dcSel_snd t1 h;rw[hd_is k];exact this
   · cases h
 · intro h
   unfold dcStmt
   cases h with
   |create hn h=>rw[if_pos hd_2];exact dcCre_cpl hn h (ht.sub (fun w hw=>by simp[hw]))
   |mark hn h1 h2=>
    rw[hd_ne2 (by decide),if_neg Bool.false_ne_true,if_pos hd_2]
    show dcMar _=_
    unfold dcMar
    rw[if_pos ⟨⟨rfl,rfl,rfl,rfl⟩,hn,h1,h2⟩]
    rfl
   |drop hn=>
    rw[hd_ne (by decide),if_neg Bool.false_ne_true,hd_ne (by decide),if_neg Bool.false_ne_true,if_pos hd_2]
    show dcDro _=_
    unfold dcDro
    rw[if_pos ⟨rfl,hn⟩]
    rfl
   |insert hn h=>
    rw[hd_ne (by decide),if_neg Bool.false_ne_true,hd_ne (by decide),if_neg Bool.false_ne_true,hd_ne (by decide),if_neg Bool.false_ne_true,if_pos hd_2]
    exact dcIns_cpl hn h (ht.sub (fun w hw=>by simp[hw]))
   |delete hn h=>
    rw[hd_ne (by decide),if_neg Bool.false_ne_true,hd_ne (by decide),if_neg Bool.false_ne_true,hd_ne (by decide),if_neg Bool.false_ne_true,hd_ne (by decide),if_neg Bool.false_ne_true,if_pos hd_2]
    exact dcDel_cpl hn h (ht.sub (fun w hw=>by simp[hw]))
   |update hn hs h=>
    rw[hd_ne (by decide),if_neg Bool.false_ne_true,hd_ne (by decide),if_neg Bool.false_ne_true,hd_ne (by decide),if_neg Bool.false_ne_true,hd_ne (by decide),if_neg Bool.false_ne_true,hd_ne (by decide),if_neg Bool.false_ne_true,if_pos hd_1]
    exact dcUpd_cpl hn hs h (ht.sub (fun w hw=>by simp[hw])) (ht.sub (fun w hw=>by simp[hw]))
   |select ho hf hw hd hm=>
    rw[hd_ne (by decide),if_neg Bool.false_ne_true,hd_ne (by decide),if_neg Bool.false_ne_true,hd_ne (by decide),if_neg Bool.false_ne_true,hd_ne (by decide),if_neg Bool.false_ne_true,hd_ne (by decide),if_neg Bool.false_ne_true,hd_ne (by decide),if_neg Bool.false_ne_true,if_pos hd_1]
    exact dcSel_cpl ho hf hw hd hm (ht.sub (fun w hw=>List.mem_cons_of_mem _ hw))
end Go.Proofs.YtadjbegnlimepaaGreatDoor
