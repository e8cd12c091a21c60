/- Several texts in one, each with its own sentence ahead of it. Conditions: each one says its own. -/
import Derived.Lib.IndexMore
import Derived.Lib.SlTrimSet
import Derived.Test.YthcjohcakdnmmaaGreatDoorZS15
import Derived.Test.YthcjohcakdnmmaaGreatDoorZS16
import Derived.Test.YthcjohcakdnmmaaGreatDoorZS18
import Derived.Test.YthcjohcakdnmmaaGreatDoorZS19
import Derived.Test.YthcjohcakdnmmaaGreatDoorZS20
import Derived.Test.YthcjohcakdnmmaaGreatDoorZS21
import Derived.Test.YthcjohcakdnmmaaGreatDoorZS22
set_option linter.all false
namespace Go.Proofs.YthcjohcakdnmmaaGreatDoor
open Go.Abs
set_option maxRecDepth 100000
attribute [local irreducible] L Code.wp bodyPost Exit.then Exit.inBlock
set_option linter.unusedVariables false
set_option linter.unusedSimpArgs false
theorem be4_len(x:Int):(be4 x).length=4:=rfl
def fitV(c:Col)(v:Val):Bool:= !(!goodM v||((v.k !=c.t) && (c.m||(v.k !=0))))
end Go.Proofs.YthcjohcakdnmmaaGreatDoor
namespace Go.Proofs.YthcjohcakdnmmaaGreatDoor
open Go.Abs
set_option maxRecDepth 100000
attribute [local irreducible] L Code.wp bodyPost Exit.then Exit.inBlock
set_option linter.unusedVariables false
set_option linter.unusedSimpArgs false
end Go.Proofs.YthcjohcakdnmmaaGreatDoor
namespace Go.Proofs.YthcjohcakdnmmaaGreatDoor
open Go.Abs
set_option maxRecDepth 100000
attribute [local irreducible] L Code.wp bodyPost Exit.then Exit.inBlock
set_option linter.unusedVariables false
set_option linter.unusedSimpArgs false
end Go.Proofs.YthcjohcakdnmmaaGreatDoor
namespace Go.Proofs.YthcjohcakdnmmaaGreatDoor
open Go.Abs
set_option linter.unusedVariables false
set_option maxRecDepth 100000
theorem fit_col{xs:List IV}(h:Fits book [.str,.int .i64,.bool] xs): ∃v:Col,xs=v.c∧v.n.length≤140737488355328:=by
 obtain⟨x,xs,rfl,h1,h⟩:=h.cons_inv
 obtain⟨y,xs,rfl,h2,h⟩:=h.cons_inv
 obtain⟨z,xs,rfl,h3,h⟩:=h.cons_inv
 obtain rfl:=h.nil_inv
 obtain⟨s,rfl,c⟩:=h1.str_inv
 obtain⟨k,rfl,_⟩:=h2.int_inv
 obtain⟨b,rfl⟩:=h3.bool_inv
 have hr:reachBytes=140737488351232:=rfl
 exact⟨⟨s,k,b⟩,rfl,by show s.length≤_;omega⟩
theorem fit_tab{xs:List IV}(h:Fits book [.str,.sl 71] xs): ∃v:Tab,xs=v.c∧v.Ok:=by
 obtain⟨x,xs,rfl,h1,h⟩:=h.cons_inv
 obtain⟨y,xs,rfl,h2,h⟩:=h.cons_inv
 obtain rfl:=h.nil_inv
 obtain⟨s,rfl,c⟩:=h1.str_inv
 obtain⟨es,rfl,hl,he⟩:=h2.sl_inv (n:=32) (cts:= [.str,.int .i64,.bool]) rfl
 obtain⟨vs,rfl,hv⟩:=map_of (f:=Col.c) (Q:=fun _ v=>v.n.length≤140737488355328) (fun e h=>fit_col (he e h))
 have hr:reachBytes=140737488351232:=rfl
 simp only[List.length_map] at hl
 exact⟨⟨s,vs⟩,rfl,by show s.length≤_;omega,by show vs.length≤_;omega,hv⟩
theorem fit_idx{xs:List IV}(h:Fits book [.str,.str,.str] xs): ∃v:Idx,xs=v.c∧v.n.length≤140737488355328:=by
 obtain⟨x,xs,rfl,h1,h⟩:=h.cons_inv
 obtain⟨y,xs,rfl,h2,h⟩:=h.cons_inv
 obtain⟨z,xs,rfl,h3,h⟩:=h.cons_inv
 obtain rfl:=h.nil_inv
 obtain⟨s,rfl,c⟩:=h1.str_inv
 obtain⟨u,rfl,_⟩:=h2.str_inv
 obtain⟨v,rfl,_⟩:=h3.str_inv
 have hr:reachBytes=140737488351232:=rfl
 exact⟨⟨s,u,v⟩,rfl,by show s.length≤_;omega⟩
theorem fit_cat{xs:List IV}(h:Fits book [.sl 47,.sl 64] xs): ∃v:Cat,xs=v.c∧v.Ok:=by
 obtain⟨x,xs,rfl,h1,h⟩:=h.cons_inv
 obtain⟨y,xs,rfl,h2,h⟩:=h.cons_inv
 obtain rfl:=h.nil_inv
 obtain⟨es,rfl,hl,he⟩:=h1.sl_inv (n:=40) (cts:= [.str,.sl 71]) rfl
 obtain⟨ts,rfl,hv⟩:=map_of (f:=Tab.c) (Q:=fun _ v=>v.Ok) (fun e h=>fit_tab (he e h))
 obtain⟨fs,rfl,hl2,he2⟩:=h2.sl_inv (n:=48) (cts:= [.str,.str,.str]) rfl
 obtain⟨is,rfl,hv2⟩:=map_of (f:=Idx.c) (Q:=fun _ v=>v.n.length≤140737488355328) (fun e h=>fit_idx (he2 e h))
 have hr:reachBytes=140737488351232:=rfl
 simp only[List.length_map] at hl hl2
 exact⟨⟨ts,is⟩,rfl,by show ts.length≤_;omega,by show is.length≤_;omega,hv,hv2⟩
end Go.Proofs.YthcjohcakdnmmaaGreatDoor
namespace Go.Proofs.YthcjohcakdnmmaaGreatDoor
open Go.Abs
set_option linter.unusedVariables false
set_option linter.unusedSimpArgs false
theorem contains_nil(p:List UInt8):Lib.contains [] p=p.isEmpty:=by
 unfold Lib.contains Lib.index
 cases p<;>rfl
theorem contains_cons(b:UInt8)(l p:List UInt8):Lib.contains (b::l) p=(p.isPrefixOf (b::l)||Lib.contains l p):=by
 have h:=Lib.index_ge l p
 unfold Lib.contains
 rw[Lib.index]
 cases h1:p.isPrefixOf (b::l) with
 |true=>simp
 |false=>
  simp only[Bool.false_eq_true,if_false,Bool.false_or]
  by_cases h2:Lib.index l p= -1
  · rw[h2];rfl
  · have h3:(Lib.index l p== -1)=false:=by simpa using h2
    rw[h3]
    simp only[Bool.false_eq_true,if_false]
    exact decide_eq_decide.2 (by omega)
def noSp(w:List UInt8):Bool:=w.all (· !=32)
theorem contains_skip(q r:List UInt8): ∀w:List UInt8,noSp w=true→Lib.contains (w++r) (32::q)=Lib.contains r (32::q)
 | [],_=>rfl
 |x::w,h=>by
  simp only[noSp,List.all_cons,Bool.and_eq_true,bne_iff_ne] at h
  have e:(32==x)=false:=by simpa using fun e:(32:UInt8)=x=>h.1 e.symm
  rw[List.cons_append,contains_cons,List.isPrefixOf,e,Bool.false_and,Bool.false_or]
  exact contains_skip q r w h.2
theorem prefix_word(r:List UInt8): ∀s w:List UInt8,noSp s=true→noSp w=true→(s++ [32]).isPrefixOf (w++32::r)=(s==w)
 | [],[],_,_=>by simp[List.isPrefixOf]
 | [],x::w,_,h=>by
   simp only[noSp,List.all_cons,Bool.and_eq_true,bne_iff_ne] at h
   have e:(32==x)=false:=by simpa using fun e:(32:UInt8)=x=>h.1 e.symm
   simp only[List.nil_append,List.cons_append,List.isPrefixOf,e,Bool.false_and];rfl
 |a::s,[],h,_=>by
  simp only[noSp,List.all_cons,Bool.and_eq_true,bne_iff_ne] at h
  have e:(a==32)=false:=by simpa using h.1
  simp only[List.nil_append,List.cons_append,List.isPrefixOf,e,Bool.false_and];rfl
 |a::s,x::w,h1,h2=>by
  simp only[noSp,List.all_cons,Bool.and_eq_true,bne_iff_ne] at h1 h2
  simp only[List.cons_append,List.isPrefixOf,prefix_word r s w h1.2 h2.2]
  rfl
def joinW(ws:List (List UInt8)):List UInt8:=ws.flatMap (fun w=>w++ [32])
theorem contains_words(s:List UInt8)(hs:noSp s=true): ∀ws:List (List UInt8),ws.all noSp=true→Lib.contains (32::joinW ws) (32::(s++ [32]))=ws.any (fun y=>s==y)
 | [],_=>by
   rw[joinW,List.flatMap_nil,contains_cons,contains_nil]
   cases s<;>simp[List.isPrefixOf]
 |w::ws,h=>by
  simp only[List.all_cons,Bool.and_eq_true] at h
  have e:joinW (w::ws)=w++32::joinW ws:=by simp[joinW]
  rw[e,contains_cons,contains_skip _ _ w h.1,contains_words s hs ws h.2,List.any_cons,List.isPrefixOf,prefix_word _ s w hs h.1]
  simp
def azS:List UInt8:= [97,98,99,100,101,102,103,104,105,106,107,108,109,110,111,112,113,114,115,116,117,118,119,120,121,122]
theorem az_low: ∀b:UInt8,azS.contains b=lowC b:=by
 have h: ∀n:Fin 256,azS.contains (UInt8.ofNat n.val)=lowC (UInt8.ofNat n.val):=by decide+kernel
 intro b
 have:=h ⟨b.toNat,b.toNat_lt⟩
 simpa using this
theorem dropWhile_nil{p:UInt8→Bool}: ∀l:List UInt8,(l.dropWhile p== [])=l.all p
 | [] =>rfl
 |x::l=>by
  rw[List.dropWhile_cons,List.all_cons]
  cases p x with
  |true=>simpa using dropWhile_nil l
  |false=>simp
theorem dropWhile_head{p:UInt8→Bool}: ∀(l:List UInt8),(l.dropWhile p).all p=true→l.all p=true
 | [],_=>rfl
 |x::l,h=>by
  rw[List.dropWhile_cons] at h
  cases hp:p x with
  |true=>rw[hp] at h;rw[List.all_cons,hp,dropWhile_head l (by simpa using h)];rfl
  |false=>rw[hp] at h;simp[hp] at h
theorem all_dropWhile{p:UInt8→Bool}: ∀(l:List UInt8),l.all p=true→(l.dropWhile p).all p=true
 | [],_=>rfl
 |x::l,h=>by
  rw[List.all_cons,Bool.and_eq_true] at h
  rw[List.dropWhile_cons,h.1]
  simpa using all_dropWhile l h.2
theorem trim_nil(s:List UInt8):(Lib.trimS s azS== [])=s.all lowC:=by
 have e:(fun x=>azS.contains x)=lowC:=funext az_low
 unfold Lib.trimS Lib.trimLeftS Lib.trimRightS
 rw[e,dropWhile_nil,List.all_reverse]
 cases h:s.all lowC with
 |true=>exact all_dropWhile _ (by rw[List.all_reverse];exact h)
 |false=>
  cases h2:(s.reverse.dropWhile lowC).all lowC with
  |false=>rfl
  |true=>have:=dropWhile_head _ h2;rw[List.all_reverse,h] at this;cases this
theorem low_noSp{s:List UInt8}(h:s.all lowC=true):noSp s=true:=by
 unfold noSp
 rw[List.all_eq_true] at h⊢
 intro x hx
 have:=h x hx
 simp only[lowC,Bool.and_eq_true,decide_eq_true_eq] at this
 simp only[bne_iff_ne,ne_eq]
 intro e;subst e
 exact absurd this.1 (by decide)
theorem words_noSp:words.all noSp=true:=by unfold words;decide+kernel
def isNameR(s:Str):Bool:=((!(s== []) && decide ((s.length:Int)<9)) && (Lib.trimS s azS== [])) && !Lib.contains (32::joinW words) ([32] ++s++ [32])
theorem isNameR_eq(s:Str):isNameR s=namedM s:=by
 unfold isNameR namedM
 rw[trim_nil]
 cases h:s.all lowC with
 |false=>simp
 |true=>
  rw[show [32] ++s++ [32] =32::(s++ [32]) from rfl,contains_words s (low_noSp h) words words_noSp]
  have e1:(!(s== []))=decide (1≤s.length):=by cases s<;>simp
  have e2:decide ((s.length:Int)<9)=decide (s.length≤8):=decide_eq_decide.2 (by omega)
  rw[e1,e2]
  cases decide (1≤s.length)<;>cases decide (s.length≤8)<;>simp
end Go.Proofs.YthcjohcakdnmmaaGreatDoor
namespace Go.Proofs.YthcjohcakdnmmaaGreatDoor
open Go.Abs
set_option linter.unusedVariables false
set_option linter.unusedSimpArgs false
end Go.Proofs.YthcjohcakdnmmaaGreatDoor
namespace Go.Proofs.YthcjohcakdnmmaaGreatDoor
open Go.Abs
set_option linter.unusedVariables false
set_option linter.unusedSimpArgs false
theorem gtS(a b:Str):(!(Op.bytesLess a b||a==b))=Op.bytesLess b a:=by
 rw[leS,ltS,Bool.eq_iff_iff]
 simp
def colR(t:Tab)(i:Nat)(c:Col):Bool:=namedM c.n && ((c.t==1||c.t==2) && (colM t c.n==(i:Int) && (decide ((0:Int)<(i:Int))||c.m)))
def isTabR(t:Tab):Bool:=(namedM t.n && (decide (0<t.cols.length) && decide (t.cols.length<5))) && t.cols.zipIdx.all (fun p=>colR t p.2 p.1)
theorem isTabR_eq(t:Tab):isTabR t=goodTabM t:=by
 rw[Bool.eq_iff_iff]
 simp only[isTabR,goodTabM,colsOk,Bool.and_eq_true,decide_eq_true_eq,List.all_eq_true]
 constructor
 · rintro ⟨⟨h1,h2,h3⟩,h4⟩
   refine⟨fun p hp=> ?_,h1,by omega,by omega,?_⟩
   · have:=h4 p hp
     simp only[colR,Bool.and_eq_true,Bool.or_eq_true,beq_iff_eq,decide_eq_true_eq] at this
     simp only[colOk,Bool.not_eq_true',Bool.or_eq_false_iff,Bool.and_eq_false_iff,bne_eq_false_iff_eq,Bool.not_eq_false']
     exact⟨⟨this.1,this.2.1⟩,this.2.2.1⟩
   · cases hc:t.cols with
     |nil=>rw[hc] at h2;simp at h2
     |cons c cs=>
      have:=h4 (c,0) (by rw[hc];simp)
      simp only[colR,Bool.and_eq_true,Bool.or_eq_true,decide_eq_true_eq] at this
      rcases this.2.2.2 with h|h
      · exact absurd h (by simp)
      · simpa using h
 · rintro ⟨h4,h1,h2,h3,h5⟩
   refine⟨⟨h1,by omega,by omega⟩,fun p hp=> ?_⟩
   have:=h4 p hp
   simp only[colOk,Bool.not_eq_true',Bool.or_eq_false_iff,Bool.and_eq_false_iff,bne_eq_false_iff_eq,Bool.not_eq_false'] at this
   simp only[colR,Bool.and_eq_true,Bool.or_eq_true,beq_iff_eq,decide_eq_true_eq]
   refine⟨this.1.1,this.1.2,this.2,?_⟩
   obtain⟨c,i⟩:=p
   cases i with
   |zero=>
    right
    have h6:=List.mem_zipIdx_iff_getElem?.1 hp
    cases hc:t.cols with
    |nil=>rw[hc] at h6;simp at h6
    |cons c' cs=>
     rw[hc] at h6 h5
     simp at h6 h5
     rw[←h6];exact h5
   |succ i=>left;show(0:Int)<((i+1:Nat):Int);omega
def lastT(c:Cat)(i:Nat):Str:=if i=0 then [] else(c.ts.getD (i - 1) ⟨[],[]⟩).n
def lastX(c:Cat)(i:Nat):Str:=if i=0 then [] else(c.is.getD (i - 1) ⟨[],[],[]⟩).n
def tabR(c:Cat)(i:Nat)(t:Tab):Bool:=goodTabM t && Op.bytesLess (lastT c i) t.n
def idxR(c:Cat)(i:Nat)(x:Idx):Bool:=(findT c x.tb).2 && (namedM x.n && (Op.bytesLess (lastX c i) x.n && decide (0≤colM (findT c x.tb).1 x.co)))
def isCatR(c:Cat):Bool:=((decide (c.ts.length<4) && decide (c.is.length<5)) && c.ts.zipIdx.all (fun p=>tabR c p.2 p.1)) && c.is.zipIdx.all (fun p=>idxR c p.2 p.1)
theorem less_nil{s:Str}(h:namedM s=true):Op.bytesLess [] s=true:=by
 cases s with
 |nil=>simp[namedM] at h
 |cons a s=>rw[ltS];simp
theorem good_named{t:Tab}(h:goodTabM t=true):namedM t.n=true:=by
 simp only[goodTabM,Bool.and_eq_true] at h;exact h.2.1
theorem tabR_eq(c:Cat)(i:Nat)(t:Tab):tabR c i t=tabOk c i t:=by
 unfold tabR tabOk lastT
 cases hg:goodTabM t with
 |false=>simp
 |true=>
  cases i with
  |zero=>simp[less_nil (good_named hg)]
  |succ i=>
   have:decide ((0:Int)<((i+1:Nat):Int))=true:=decide_eq_true (by omega)
   rw[this];simp
theorem idxR_eq(c:Cat)(i:Nat)(x:Idx):idxR c i x=idxOk c i x:=by
 unfold idxR idxOk lastX
 generalize colM (findT c x.tb).1 x.co=k
 have hk:decide (k<0)= !decide (0≤k):=by rw[Bool.eq_iff_iff];simp
 rw[hk]
 cases hg:namedM x.n with
 |false=>simp
 |true=>
  cases(findT c x.tb).2 with
  |false=>simp
  |true=>
   cases i with
   |zero=>simp[less_nil hg]
   |succ i=>
    have:decide ((0:Int)<((i+1:Nat):Int))=true:=decide_eq_true (by omega)
    rw[this]
    rw[if_neg (by omega)]
    cases Op.bytesLess (c.is.getD (i+1 - 1) ⟨[],[],[]⟩).n x.n<;>cases decide (0≤k)<;>rfl
theorem isCatR_eq(c:Cat):isCatR c=goodCatM c:=by
 have e1:c.ts.zipIdx.all (fun p=>tabR c p.2 p.1)=tabsOk c:=by unfold tabsOk;congr 1;funext p;exact tabR_eq c p.2 p.1
 have e2:c.is.zipIdx.all (fun p=>idxR c p.2 p.1)=idxsOk c:=by unfold idxsOk;congr 1;funext p;exact idxR_eq c p.2 p.1
 have e3:decide (c.ts.length<4)=decide ((c.ts.length:Int)≤3):=decide_eq_decide.2 (by omega)
 have e4:decide (c.is.length<5)=decide ((c.is.length:Int)≤4):=decide_eq_decide.2 (by omega)
 unfold isCatR goodCatM
 rw[e1,e2,e3,e4]
 cases tabsOk c<;>cases idxsOk c<;>simp
end Go.Proofs.YthcjohcakdnmmaaGreatDoor
namespace Go.Proofs.YthcjohcakdnmmaaGreatDoor
open Go.Abs
set_option maxRecDepth 100000
open Go.Shelf
attribute [local irreducible] L Code.wp bodyPost Exit.then Exit.inBlock
set_option linter.unusedVariables false
set_option linter.unusedSimpArgs false
theorem contains_any{gs:Globs}(m:Int)(hgm:maxG m∈gs)(s sub:Str)(hs:s.length<4294967281):
 CallG gs Tryz.prog 67 [aS s,aS sub] [] [] [] (aB (Lib.contains s sub)):=by
 refine CallG.below (v:= .bool (Lib.contains s sub)) rfl ?_
 intro E w us hr hG
 rw[hr.im2]
 exact(Any.strings_Contains Tryz.lays144 ⟨s.toArray⟩ ⟨sub.toArray⟩ m w hs (hG.int hgm)).mono (by rintro e w' ⟨rfl,rfl⟩;exact⟨rfl,Below.same⟩)
theorem trim_any{gs:Globs}(s:Str)(hs:s.length≤9223372036854775807):
 CallG gs Tryz.prog 66 [aS s,aS azS] [] [] [] (aS (Lib.trimS s azS)):=by
 refine CallG.below (v:= .string ⟨(Lib.trimS s azS).toArray⟩) rfl ?_
 intro E w us hr hG
 rw[hr.im2]
 exact Any.strings_Trim_laid Tryz.lays160 (by kernel_rfl) ⟨s.toArray⟩ ⟨azS.toArray⟩ w hs (by decide) (ascii_of_all (by decide))
theorem words_text:(([32,97,110,100,32,98,121,32,99,114,101,97,116,101,32,100,101,108,101,116,101,32,100,101,115,99,32,100,114,111,112,32,102,114].append [111,109,32,105,110,100,101,120,32,105,110,115,101,114,116,32,105,110,116,32,105,110,116,111,32,105,115,32,108,105,109,105,116,32]).append ([109,117,115,116,32,110,111,116,32,110,117,108,108,32,111,110,32,111,114,32,111,114,100,101,114,32,115,101,108,101,99,116,32,115].append [101,116,32,116,97,98,108,101,32,116,101,120,116,32,117,112,100,97,116,101,32,118,97,108,117,101,115,32,119,104,101,114,101,32]):List UInt8)=32::joinW words:=by
 unfold words;rfl
set_option maxRecDepth 100000 in
theorem words_textLen:(32::joinW words).length<4294967281:=by rw[←words_text];decide
set_option maxRecDepth 100000 in
set_option maxHeartbeats 4000000 in
theorem isName_any{gs:Globs}(m:Int)(hgm:maxG m∈gs)(s:Str)(hs:s.length≤140737488355328):
 CallG gs Tryz.prog 34 [aS s] [] [] [] (aB (namedM s)):=by
 have k1:=trim_any (gs:=gs) s (by omega)
 have k2:=contains_any m hgm (32::joinW words) ([32] ++s++ [32]) words_textLen
 rw[←words_text] at k2
 have hR:=isNameR_eq s
 rw[isNameR,←words_text] at hR
 rw[←hR]
 refine CallG.intro _ Tryz.func34 rfl Tryz.ntmps34 rfl (fun w0 E0 hG=> ?_)
 cases h1: !(s== []) with
 |false=>
  (repeat' (first|refine wk1 ?_|refine wk2 (fun hb hp=> ?_) (fun hb hp=> ?_)|fail))
  all_goals refine wkf ?_
  all_goals simp
 |true=>
  cases h2:decide ((s.length:Int)<9) with
  |false=>
   (repeat' (first|refine wk1 ?_|refine wk2 (fun hb hp=> ?_) (fun hb hp=> ?_)|fail))
   all_goals refine wkf ?_
   all_goals simp
  |true=>
   cases h3:Lib.trimS s azS== [] with
   |false=>
    (repeat' (first|refine wk1 ?_|refine wk2 (fun hb hp=> ?_) (fun hb hp=> ?_)|fail))
    all_goals refine wkf ?_
    all_goals simp
   |true=>
    (repeat' (first|refine wk1 ?_|refine wk2 (fun hb hp=> ?_) (fun hb hp=> ?_)|fail))
    all_goals refine wkf ?_
    all_goals rfl
set_option maxRecDepth 100000 in
set_option maxHeartbeats 4000000 in
theorem colOf_any(t:Tab)(name:Str)(hl:t.cols.length≤140737488355328):
 CallA Tryz.prog 16 [.agg (t.c.map .iv),aS name] [] [] [] (aI (colM t name)):=by
 refine CallA.intro _ Tryz.func16 rfl Tryz.ntmps16 rfl (fun w0 E0=> ?_)
 (repeat' (first|refine wk1 ?_|refine wk2 (fun hb hp=> ?_) (fun hb hp=> ?_)|fail))
 refine L.loopP (ι:=Nat) (fun i=>⟨[(9,aI (i:Int)),(8,aI ((t.cols.map Col.c).length:Int)),(2,.ptr 2 0),(1,aS name)],[(2,⟨47,.l [aS t.n,.iv (.sl (t.cols.map Col.c))]⟩)],[]⟩) (fun i=>t.cols.length - i) (fun i=> ∀y∈t.cols.take i,(y.n==name)=false) (i0:=0) ?_ (by simp) ?_
 · exact wkk
 intro i hI K hK
 cases hx:t.cols[i]? with
 |none=>
  have hlt:=ltF (l:=t.cols.map Col.c) (getFN hx)
  (repeat' (first|refine wk1 ?_|refine wk2 (fun hb hp=> ?_) (fun hb hp=> ?_)|fail))
  all_goals refine wkf ?_
  rw[colM,idx_no (take_full hI hx)]
 |some y=>
  have hlt:=ltT (l:=t.cols.map Col.c) (getF (f:=Col.c) hx)
  have hlt':=ltN hx
  have g1:(t.cols.map Col.c)[((i:Nat):Int).toNat]?=some [S y.n,I y.t,.im (.bool y.m)]:=by rw[Int.toNat_natCast,List.getElem?_map,hx];rfl
  cases hq:(y.n==name) with
  |true=>
   (repeat' (first|refine wk1 ?_|refine wk2 (fun hb hp=> ?_) (fun hb hp=> ?_)|fail))
   all_goals refine wkf ?_
   rw[colM,idx_at (p:=fun c:Col=>c.n==name) hI hx hq]
  |false=>
   (repeat' (first|refine wk1 ?_|refine wk2 (fun hb hp=> ?_) (fun hb hp=> ?_)|fail))
   refine hK _ (i+1) (take_snoc (p:=fun c:Col=>c.n==name) hI hx hq) (by omega) ?_
   exact wkk
set_option maxRecDepth 100000 in
set_option maxHeartbeats 4000000 in
theorem tableOf_any(c:Cat)(name:Str)(hl:c.ts.length≤140737488355328):
 CallA Tryz.prog 18 [.agg (c.c.map .iv),aS name] [] [] [] (.tup [.agg ((findT c name).1.c.map .iv),.iv (B (findT c name).2)]):=by
 refine CallA.intro _ Tryz.func18 rfl Tryz.ntmps18 rfl (fun w0 E0=> ?_)
 (repeat' (first|refine wk1 ?_|refine wk2 (fun hb hp=> ?_) (fun hb hp=> ?_)|fail))
 refine L.loopP (ι:=Nat) (fun i=>⟨[(10,aI (i:Int)),(9,aI ((c.ts.map Tab.c).length:Int)),(2,.ptr 2 0),(1,aS name),(4,.ptr 4 0)],[(2,⟨25,.l [.iv (.sl (c.ts.map Tab.c)),.iv (.sl (c.is.map Idx.c))]⟩),(4,⟨47,.l [.iv (S []),.nils]⟩)],[]⟩) (fun i=>c.ts.length - i) (fun i=>c.ts.find? (fun t=>t.n==name)=(c.ts.drop i).find? (fun t=>t.n==name)) (i0:=0) ?_ rfl ?_
 · exact wkk
 intro i hI K hK
 cases hx:c.ts[i]? with
 |none=>
  have hlt:=ltF (l:=c.ts.map Tab.c) (getFN hx)
  rw[dropN hx] at hI
  have e:findT c name=(⟨[],[]⟩,false):=by rw[findT,hI];rfl
  rw[e]
  (repeat' (first|refine wk1 ?_|refine wk2 (fun hb hp=> ?_) (fun hb hp=> ?_)|fail))
  all_goals refine wkf ?_
  all_goals rfl
 |some t=>
  have hlt:=ltT (l:=c.ts.map Tab.c) (getF (f:=Tab.c) hx)
  have hlt':=ltN hx
  have g1:(c.ts.map Tab.c)[((i:Nat):Int).toNat]?=some [S t.n,.sl (t.cols.map Col.c)]:=by rw[Int.toNat_natCast,List.getElem?_map,hx];rfl
  rw[dropC hx,List.find?_cons] at hI
  cases hq:(t.n==name) with
  |true=>
   have e:findT c name=(t,true):=by rw[findT,hI,hq]
   rw[e]
   (repeat' (first|refine wk1 ?_|refine wk2 (fun hb hp=> ?_) (fun hb hp=> ?_)|fail))
   all_goals refine wkf ?_
   all_goals rfl
  |false=>
   rw[hq] at hI
   (repeat' (first|refine wk1 ?_|refine wk2 (fun hb hp=> ?_) (fun hb hp=> ?_)|fail))
   refine hK _ (i+1) hI (by omega) ?_
   exact wkk
end Go.Proofs.YthcjohcakdnmmaaGreatDoor
namespace Go.Proofs.YthcjohcakdnmmaaGreatDoor
open Go.Abs
set_option linter.unusedVariables false
set_option linter.unusedSimpArgs false
def dcCols(ts:List Tab):List (Str×Col):=ts.flatMap fun t=>t.cols.map fun c=>(t.n,c)
def dcHit(s name:Str)(x:Str×Col):Bool:=x.2.n==name && (s== [] ||s==x.1)
def dcFindL(s name:Str):List (Str×Col)→Nat→Nat→Nat→Nat×Nat
 | [],_,n,f=>(n,f)
 |x::l,i,n,f=>if dcHit s name x then dcFindL s name l (i+1) i (f+1) else dcFindL s name l (i+1) n f
def colZ:Str×Col:=([],⟨[],0,false⟩)
def dcFind(l:List (Str×Col))(s name:Str):Int×Int×Int:=if(dcFindL s name l 0 0 0).2=1 then(((dcFindL s name l 0 0 0).1:Int),(l.getD (dcFindL s name l 0 0 0).1 colZ).2.t,0) else(0,0,3)
section
variable {s name:Str}
theorem dcFindL_app: ∀(a b:List (Str×Col)) (i n f:Nat),dcFindL s name (a++b) i n f=dcFindL s name b (i+a.length) (dcFindL s name a i n f).1 (dcFindL s name a i n f).2
 | [],b,i,n,f=>rfl
 |x::a,b,i,n,f=>by
  rw[List.cons_append,dcFindL,dcFindL]
  split
  · rw[dcFindL_app a b];congr 1;simp only[List.length_cons];omega
  · rw[dcFindL_app a b];congr 1;simp only[List.length_cons];omega
theorem dcFindL_no: ∀(l:List (Str×Col)) (i n f:Nat),(∀x∈l,dcHit s name x=false)→dcFindL s name l i n f=(n,f)
 | [],i,n,f,_=>rfl
 |x::l,i,n,f,h=>by
  rw[dcFindL,h x (by simp),if_neg Bool.false_ne_true]
  exact dcFindL_no l _ n f (fun y hy=>h y (by simp[hy]))
theorem dcFindL_le: ∀(l:List (Str×Col)) (i n f:Nat),f≤(dcFindL s name l i n f).2
 | [],i,n,f=>Nat.le_refl _
 |x::l,i,n,f=>by
  rw[dcFindL]
  split
  · exact Nat.le_trans (Nat.le_succ f) (dcFindL_le l _ _ _)
  · exact dcFindL_le l _ _ _
theorem dcFindL_one{a b:List (Str×Col)}{x:Str×Col}(i n f:Nat)(ha: ∀y∈a,dcHit s name y=false)(hb: ∀y∈b,dcHit s name y=false)(hx:dcHit s name x=true):dcFindL s name (a++x::b) i n f=(i+a.length,f+1):=by
 rw[dcFindL_app,dcFindL_no a _ _ _ ha,dcFindL,if_pos hx,dcFindL_no b _ _ _ hb]
def Uniq(t:Tab):Prop:= ∀(i:Nat) (c:Col),t.cols[i]?=some c→colM t c.n=(i:Int)
theorem colM_some{t:Tab}{j:Nat}(h:t.cols.findIdx? (fun c=>c.n==name)=some j):colM t name=(j:Int):=by unfold colM idxM;rw[h]
theorem colM_none{t:Tab}(h:t.cols.findIdx? (fun c=>c.n==name)=none):colM t name= -1:=by unfold colM idxM;rw[h]
theorem dcFind_tab(t:Tab)(hu:Uniq t)(i n f:Nat):dcFindL s name (t.cols.map fun c=>(t.n,c)) i n f=if hitM s name t then(i+(colM t name).toNat,f+1) else(n,f):=by
 cases hs:(s== [] ||s==t.n) with
 |false=>
  have h0:hitM s name t=false:=by unfold hitM;rw[hs,Bool.and_false]
  rw[h0,if_neg Bool.false_ne_true]
  refine dcFindL_no _ _ _ _ (fun x hx=> ?_)
  obtain⟨c,_,rfl⟩:=List.mem_map.1 hx
  unfold dcHit
  dsimp only
  rw[hs,Bool.and_false]
 |true=>
  cases hj:t.cols.findIdx? (fun c=>c.n==name) with
  |none=>
   have h0:hitM s name t=false:=by unfold hitM;rw[colM_none hj];rfl
   rw[h0,if_neg Bool.false_ne_true]
   refine dcFindL_no _ _ _ _ (fun x hx=> ?_)
   obtain⟨c,hc,rfl⟩:=List.mem_map.1 hx
   have:=List.findIdx?_eq_none_iff.1 hj c hc
   unfold dcHit
   dsimp only
   rw[this,Bool.false_and]
  |some j=>
   have h0:hitM s name t=true:=by unfold hitM;rw[colM_some hj,hs,Bool.and_true];exact decide_eq_true (by omega)
   rw[h0,if_pos rfl,colM_some hj,Int.toNat_natCast]
   obtain⟨hlt,hp,_⟩:=List.findIdx?_eq_some_iff_getElem.1 hj
   have hother: ∀(k:Nat) (c:Col),t.cols[k]?=some c→k≠j→(c.n==name)=false:=fun k c hk hkj=>by
    cases hc:c.n==name with
    |false=>rfl
    |true=>
     have e:=hu k c hk
     rw[beq_iff_eq.1 hc,colM_some hj] at e
     exact absurd (by omega) hkj
   have hsplit:t.cols=t.cols.take j++t.cols[j]::t.cols.drop (j+1):=by rw[←List.drop_eq_getElem_cons hlt,List.take_append_drop]
   have hl:(t.cols.map fun c=>(t.n,c))=(t.cols.take j).map (fun c=>(t.n,c))++(t.n,t.cols[j])::(t.cols.drop (j+1)).map (fun c=>(t.n,c)):=by
    conv=>lhs;rw[hsplit]
    rw[List.map_append,List.map_cons]
   rw[hl,dcFindL_one]
   · rw[List.length_map,List.length_take,Nat.min_eq_left (Nat.le_of_lt hlt)]
   · intro y hy
     obtain⟨c,hc,rfl⟩:=List.mem_map.1 hy
     obtain⟨k,hk,rfl⟩:=List.mem_take_iff_getElem.1 hc
     unfold dcHit
     dsimp only
     rw[hother k _ (List.getElem?_eq_getElem (by omega)) (by omega),Bool.false_and]
   · intro y hy
     obtain⟨c,hc,rfl⟩:=List.mem_map.1 hy
     obtain⟨k,hk⟩:=List.mem_iff_getElem?.1 hc
     rw[List.getElem?_drop] at hk
     unfold dcHit
     dsimp only
     rw[hother _ c hk (by omega),Bool.false_and]
   · unfold dcHit
     dsimp only
     rw[hp,hs];rfl
theorem find_go: ∀(ts:List Tab) (pre:List (Str×Col)) (n f:Nat) (place kind:Int),(∀t∈ts,Uniq t)→((f=0∧place= -1)∨(f=1∧place=(n:Int)∧n<pre.length∧kind=(pre.getD n colZ).2.t))→
 (if(dcFindL s name (dcCols ts) pre.length n f).2=1 then(((dcFindL s name (dcCols ts) pre.length n f).1:Int),((pre++dcCols ts).getD (dcFindL s name (dcCols ts) pre.length n f).1 colZ).2.t,(0:Int)) else(0,0,3))=findGo s name ts (pre.length:Int) place kind
 | [],pre,n,f,place,kind,_,hI=>by
   have hneg: ¬((n:Int)<0):=by omega
   rw[show dcCols [] = [] from rfl,List.append_nil,findGo,dcFindL]
   rcases hI with⟨rfl,rfl⟩|⟨rfl,rfl,h1,rfl⟩
   · simp
   · rw[if_neg hneg];simp
 |t::ts,pre,n,f,place,kind,hu,hI=>by
  have hcs:dcCols (t::ts)=(t.cols.map fun c=>(t.n,c))++dcCols ts:=by unfold dcCols;rw[List.flatMap_cons]
  have hlen:(pre++t.cols.map fun c=>(t.n,c)).length=pre.length+t.cols.length:=by rw[List.length_append,List.length_map]
  have hat:((pre++t.cols.map fun c=>(t.n,c)).length:Int)=(pre.length:Int)+t.cols.length:=by rw[hlen];omega
  have hut: ∀t'∈ts,Uniq t':=fun t' h=>hu t' (by simp[h])
  rw[hcs,dcFindL_app,dcFind_tab t (hu t (by simp)),List.length_map,←hlen,←List.append_assoc,findGo,←hat]
  cases hh:hitM s name t with
  |false=>
   simp only[if_neg Bool.false_ne_true]
   refine find_go ts _ n f place kind hut ?_
   rcases hI with h|⟨h1,h2,h3,h4⟩
   · exact .inl h
   · refine .inr ⟨h1,h2,by rw[hlen];omega,?_⟩
     rw[h4,List.getD_eq_getElem?_getD,List.getD_eq_getElem?_getD,List.getElem?_append_left h3]
  |true=>
   simp only[if_true]
   rcases hI with⟨rfl,rfl⟩|⟨rfl,rfl,h3,h4⟩
   · rw[if_neg (show¬((0:Int)≤ -1) by omega)]
     have hc:0≤colM t name:=by
      unfold hitM at hh
      rw[Bool.and_eq_true] at hh
      exact of_decide_eq_true hh.1
     have hlt:(colM t name).toNat<t.cols.length:=by
      cases hj:t.cols.findIdx? (fun c=>c.n==name) with
      |none=>rw[colM_none hj] at hc;omega
      |some j=>rw[colM_some hj,Int.toNat_natCast];exact(List.findIdx?_eq_some_iff_getElem.1 hj).1
     refine find_go ts _ _ 1 _ _ hut (.inr ⟨rfl,by omega,by rw[hlen];omega,?_⟩)
     rw[List.getD_eq_getElem?_getD,List.getElem?_append_right (by omega),show pre.length+(colM t name).toNat - pre.length=(colM t name).toNat by omega]
     unfold colTy
     simp only[List.getD_eq_getElem?_getD,List.getElem?_map,List.getElem?_eq_getElem hlt,Option.map_some,Option.getD_some]
   · rw[if_pos (show(0:Int)≤(n:Int) by omega)]
     have:=dcFindL_le (s:=s) (name:=name) (dcCols ts) (pre++t.cols.map fun c=>(t.n,c)).length (pre.length+(colM t name).toNat) (1+1)
     exact if_neg (fun e=>by omega)
theorem find_same(ts:List Tab)(hu: ∀t∈ts,Uniq t):dcFind (dcCols ts) s name=findM ts s name:=by
 have:=find_go (s:=s) (name:=name) ts [] 0 0 (-1) 0 hu (.inl ⟨rfl,rfl⟩)
 exact this
end
theorem good_uniq{t:Tab}(h:goodTabM t=true):Uniq t:=fun i c hc=>by
 unfold goodTabM colsOk at h
 rw[Bool.and_eq_true,List.all_eq_true] at h
 have:=h.1 (c,i) (by rw[List.mem_zipIdx_iff_getElem?];exact hc)
 unfold colOk at this
 simp only[Bool.not_eq_true',Bool.or_eq_false_iff,bne_eq_false_iff_eq] at this
 exact this.2
end Go.Proofs.YthcjohcakdnmmaaGreatDoor
namespace Go.Proofs.YthcjohcakdnmmaaGreatDoor
open Go.Abs
set_option linter.unusedVariables false
set_option linter.unusedSimpArgs false
def dcOne(cs:List (Str×Col))(op:Int)(v:Val)(s name:Str)(n f:Int)(es:List Ex)(tys:List Int):BR:=
 if op=2 then(if(dcFind cs s name).2.2≠0 then(nilE,0,3) else(.mk op v s name (dcFind cs s name).1 es,(dcFind cs s name).2.1,0))
 else bindOne [] op v s name n f es tys
def dcBind(cs:List (Str×Col)):Ex→BR
 | .mk op v s name n l=>dcOne cs op v s name n (errM ((l.attach.map fun x=>dcBind cs x.1).map (·.2.2))) ((l.attach.map fun x=>dcBind cs x.1).map (·.1)) ((l.attach.map fun x=>dcBind cs x.1).map (·.2.1))
 decreasing_by
  all_goals
   have:=List.sizeOf_lt_of_mem x.2
   simp;omega
theorem dcBind_eq(cs:List (Str×Col))(op:Int)(v:Val)(s name:Str)(n:Int)(l:List Ex):
 dcBind cs (.mk op v s name n l)=dcOne cs op v s name n (errM (l.map fun x=>(dcBind cs x).2.2)) (l.map fun x=>(dcBind cs x).1) (l.map fun x=>(dcBind cs x).2.1):=by
 rw[dcBind]
 have e:(l.attach.map fun x=>dcBind cs x.1)=l.map (dcBind cs):=by simp
 rw[e,List.map_map,List.map_map,List.map_map];rfl
inductive RefE:Ex→Prop
 |mk {op:Int} {v:Val} {s name:Str} {n:Int} {l:List Ex} (h2:op=2→l= []) (h: ∀x∈l,RefE x):RefE (.mk op v s name n l)
theorem errM_nil:errM [] =0:=rfl
theorem errM_z: ∀{l:List Int},errM l=0→ ∀x∈l,x=0
 | [],_,x,hx=>by cases hx
 |y::l,h,x,hx=>by
  unfold errM at h
  rw[List.find?_cons] at h
  cases hy:(y !=0) with
  |true=>
   rw[hy] at h
   simp at h
   rw[h] at hy;cases hy
  |false=>
   rw[hy] at h
   have y0:y=0:=by simpa using hy
   rcases List.mem_cons.1 hx with rfl|hx
   · exact y0
   · exact errM_z (l:=l) h x hx
theorem findM_err(ts:List Tab)(s name:Str):(findM ts s name).2.2=0∨findM ts s name=(0,0,3):=by
 have: ∀(ts:List Tab) (a p k:Int),(findGo s name ts a p k).2.2=0∨findGo s name ts a p k=(0,0,3):=by
  intro ts
  induction ts with
  |nil=>intro a p k;rw[findGo];split<;>simp
  |cons t ts ih=>intro a p k;rw[findGo];split;(split;exact .inr rfl;exact ih _ _ _);exact ih _ _ _
 exact this ts 0 (-1) 0
theorem bind_same{ts:List Tab}(hu: ∀t∈ts,Uniq t): ∀(e:Ex),RefE e→(dcBind (dcCols ts) e).2.2=(bindM ts e).2.2∧((bindM ts e).2.2=0→dcBind (dcCols ts) e=bindM ts e)
 | .mk op v s name n l,hr=>by
   obtain⟨h2,hl⟩:(op=2→l= [])∧ ∀x∈l,RefE x:=by cases hr with|mk h2 h=>exact⟨h2,h⟩
   have ih: ∀x∈l,(dcBind (dcCols ts) x).2.2=(bindM ts x).2.2∧((bindM ts x).2.2=0→dcBind (dcCols ts) x=bindM ts x):=fun x hx=>bind_same hu x (hl x hx)
   rw[dcBind_eq,bindM_eq]
   have he:(l.map fun x=>(dcBind (dcCols ts) x).2.2)=l.map fun x=>(bindM ts x).2.2:=List.map_congr_left (fun x hx=>(ih x hx).1)
   rw[he]
   by_cases h:op=2
   · subst h
     rw[h2 rfl]
     unfold dcOne bindOne
     rw[if_pos rfl,find_same ts hu]
     simp only[List.map_nil,errM_nil]
     rw[if_neg (show¬((0:Int)≠0) by simp),if_neg (show¬((2:Int)=1) by decide)]
     simp only[if_true]
     rcases findM_err ts s name with h0|h0
     · rw[if_neg (by rw[h0];simp),h0]
       exact⟨rfl,fun _=>rfl⟩
     · rw[h0,if_pos (by simp)]
       exact⟨rfl,fun h=>by cases h⟩
   · unfold dcOne
     rw[if_neg h]
     by_cases hf:errM (l.map fun x=>(bindM ts x).2.2)=0
     · have hz: ∀x∈l,dcBind (dcCols ts) x=bindM ts x:=fun x hx=>(ih x hx).2 (errM_z hf _ (List.mem_map.2 ⟨x,hx,rfl⟩))
       have e1:(l.map fun x=>(dcBind (dcCols ts) x).1)=l.map fun x=>(bindM ts x).1:=List.map_congr_left (fun x hx=>by rw[hz x hx])
       have e2:(l.map fun x=>(dcBind (dcCols ts) x).2.1)=l.map fun x=>(bindM ts x).2.1:=List.map_congr_left (fun x hx=>by rw[hz x hx])
       rw[e1,e2]
       have e3: ∀(f:Int) (es:List Ex) (tys:List Int),bindOne [] op v s name n f es tys=bindOne ts op v s name n f es tys:=fun f es tys=>by
        unfold bindOne
        by_cases hf:f≠0
        · rw[if_pos hf,if_pos hf]
        · rw[if_neg hf,if_neg hf,if_neg h,if_neg h]
       rw[e3]
       exact⟨rfl,fun _=>rfl⟩
     · unfold bindOne
       rw[if_pos hf,if_pos hf]
       exact⟨rfl,fun _=>rfl⟩
 termination_by e=>SizeOf.sizeOf e
 decreasing_by
  have:=List.sizeOf_lt_of_mem hx
  simp;omega
end Go.Proofs.YthcjohcakdnmmaaGreatDoor
namespace Go.Abs
open Go.RowKit (Below)
set_option linter.unusedVariables false
inductive WkE (bx:List (Nat×Box)):List (Nat×Box)→Prop
 |nil:WkE bx []
 |cons {id:Nat} {b:Box} {r:List (Nat×Box)} (h:bx.lookup id=some b) (t:WkE bx r):WkE bx ((id,b)::r)
theorem WkE.b{bx l:List (Nat×Box)}(h:WkE bx l):WkB bx l:=by
 induction h with
 |nil=>exact .nil
 |cons h _ ih=>exact .cons h rfl (Subs.refl _) ih
theorem WkE.get{bx l:List (Nat×Box)}(h:WkE bx l): ∀id b,l.lookup id=some b→bx.lookup id=some b:=by
 induction h with
 |nil=>intro id b hb;cases hb
 | @cons i b' r h _ ih=>
   intro id b hb
   by_cases e:id=i
   · subst e;rw[lookup_cons_eq] at hb;cases hb;exact h
   · rw[lookup_cons_ne e] at hb;exact ih id b hb
theorem WkE.of{bx bx' l:List (Nat×Box)}(h:WkE bx l)(k: ∀id∈keys l,bx'.lookup id=bx.lookup id):WkE bx' l:=by
 induction h with
 |nil=>exact .nil
 |cons h _ ih=>exact .cons ((k _ (by simp[keys])).trans h) (ih (fun id hid=>k id (by simp only[keys,List.map_cons,List.mem_cons] at hid⊢;exact .inr hid)))
section
variable {P:Program}{c:Ctx}{ops:Array Oper}{Q:Exit→Act→World→Prop}{rest:List Oper}
 {fr:List (Nat×AV)} {bx:List (Nat×Box)} {tk:List (Nat×Tok)} {d:Nat} {ty:TypeId} {pos:String} {aft:Array Edge}
theorem s_callFnK{gs:Globs}{f:FuncId}{x:Operand}{args:Array Operand}{ats:Array TypeId}{avs caps:List AV}{bxi:List (Nat×Box)}{res:AV}(hlt:Nat.ble (d+1) c.nt=true)(hG:Glob gs c.E0 c.w0)(hx:St.ev ⟨fr,bx,tk⟩ x= .fn f caps)[hok:CallTy P f]
 (hc:CallG gs P f (avs++caps) bxi bxi [] res) (ha:AV.pub.pubs (args.toList.map (St.ev ⟨fr,bx,tk⟩))=avs) (hbi:WkE bx bxi) (hbo:boOk [] bxi bxi=true) (hmb:bxi.all (fun p=>AV.mentsIn ([] ++keys bxi) p.2.cs)=true) (hmr:AV.mentIn ([] ++keys bxi) res=true)
 (h:LW P c ⟨(d,res)::fr,bx,tk⟩ ops Q rest):
 LW P c ⟨fr,bx,tk⟩ ops Q (⟨some d,.call {callee:= .value x,args:=args,argTypes:=ats},ty,pos,aft,none⟩::rest):=by
 refine .mk (fun a w hr=> ?_)
 obtain⟨E,hi⟩:=id hr
 refine L.callFnW [] (st:=⟨fr,bx,tk⟩) rfl rfl hlt hG rfl hx hok.h hc (.of_pub ha) hbi.b rfl hbo hmb hmr (L.wk (st':=⟨(d,res)::fr,bx,tk⟩) ⟨fun id hid=>(hi.heap.ins id hid).2.2,fun s v hv=>⟨v,hv,Sub.refl _⟩,fun id b hb=> ?_,fun id t ht=>ht⟩ (LW.out h)) a w hr
 cases hl:bxi.lookup id with
 |none=>exact⟨b,by show(bxi++bx).lookup id=some b;rw[List.lookup_append,hl];exact hb,rfl,Subs.refl _⟩
 |some b'=>
  have:=hbi.get id b' hl
  rw[this] at hb;cases hb
  exact⟨b,by show(bxi++bx).lookup id=some b;rw[List.lookup_append,hl];rfl,rfl,Subs.refl _⟩
theorem d_callFnK{st0:St}{done:List Eff}{gs:Globs}{f:FuncId}{x:Operand}{args:Array Operand}{ats:Array TypeId}{avs caps:List AV}{bxi:List (Nat×Box)}{res:AV}(hlt:Nat.ble (d+1) c.nt=true)(hG:Glob gs c.E0 c.w0)(hx:St.ev ⟨fr,bx,tk⟩ x= .fn f caps)[hok:CallTy P f]
 (hc:CallG gs P f (avs++caps) bxi bxi [] res) (ha:AV.pub.pubs (args.toList.map (St.ev ⟨fr,bx,tk⟩))=avs) (hbi:WkE bx bxi) (hbo:boOk [] bxi bxi=true) (hmb:bxi.all (fun p=>AV.mentsIn ([] ++keys bxi) p.2.cs)=true) (hmr:AV.mentIn ([] ++keys bxi) res=true)
 (h:DR P c ops Q st0 (⟨some (d,res),[],[],[],keys bxi,[],[]⟩::done) ⟨(d,res)::fr,bx,tk⟩ rest):DR P c ops Q st0 done ⟨fr,bx,tk⟩ (⟨some d,.call {callee:= .value x,args:=args,argTypes:=ats},ty,pos,aft,none⟩::rest):=
 DR.cons (e:=⟨some (d,res),[],[],[],keys bxi,[],[]⟩) (fun st' hag Q' hL=>LW.out (s_callFnK (fr:=st'.fr) (bx:=st'.bx) (tk:=st'.tk) hlt hG ((hag.ev x (by simp[Op.operands,Call.operands])).trans hx) hc ((by rw[agL hag.ev (fun x hx=>by simp[Op.operands,Call.operands,hx])];exact ha)) (hbi.of (fun id hid=>hag.bx id hid)) hbo hmb hmr (s_nil hL))) h
end
end Go.Abs
namespace Go.Abs
open Go.RowKit (Below)
set_option linter.unusedVariables false
section
variable {P:Program}{c:Ctx}{ops:Array Oper}{Q:Exit→Act→World→Prop}{rest:List Oper}
 {fr:List (Nat×AV)} {bx:List (Nat×Box)} {tk:List (Nat×Tok)} {d:Nat} {ty:TypeId} {pos:String} {aft:Array Edge}
theorem d_callNew(N:List Nat){st0:St}{done:List Eff}{gs:Globs}{f:FuncId}{args:Array Operand}{ats:Array TypeId}{avs:List AV}{bxo:List (Nat×Box)}{res:AV}(hlt:Nat.ble (d+1) c.nt=true)(hG:Glob gs c.E0 c.w0)[hok:CallTy P f]
 (hc:CallG gs P f avs [] bxo [] res) (ha:AV.pub.pubs (args.toList.map (St.ev ⟨fr,bx,tk⟩))=avs) (hN:N.all (fun id=>St.fresh id ⟨fr,bx,tk⟩)=true) (hbo:boOk N [] bxo=true) (hmb:bxo.all (fun p=>AV.mentsIn (N++keys ([]:List (Nat×Box))) p.2.cs)=true) (hmr:AV.mentIn (N++keys ([]:List (Nat×Box))) res=true)
 (h:DR P c ops Q st0 (⟨some (d,res),bxo,[],[],[],[],N⟩::done) ⟨(d,res)::fr,bxo++bx,tk⟩ rest):DR P c ops Q st0 done ⟨fr,bx,tk⟩ (⟨some d,.call {callee:= .value (.func f),args:=args,argTypes:=ats},ty,pos,aft,none⟩::rest):=
 DR.cons (e:=⟨some (d,res),bxo,[],[],[],[],N⟩) (fun st' hag Q' hL=>LW.out (s_callW N (fr:=st'.fr) (bx:=st'.bx) (tk:=st'.tk) hlt hG hc (.of_pub ((by rw[agL hag.ev (fun x hx=>by simp[Op.operands,Call.operands,hx])];exact ha))) .nil (List.all_eq_true.2 (fun id hid=>hag.fs id (by simpa using hid))) hbo hmb hmr (s_nil hL))) h
end
end Go.Abs
namespace Go.Abs
set_option linter.unusedVariables false
set_option linter.unusedSectionVars false
section
variable {c:Ctx}{F:List Rw}{st:St}{X:Act→World→Prop}
theorem LF.pubC(K j:Nat){r:Rw}{F1 F2:List Rw}{ty:TypeId}{cs:List AV}{es:List (List IV)}(hF':F=F1++r::F2)(hK:st.bx.lookup K=some ⟨ty,.l cs⟩)(hj:cs[j]?=some (.iv (.im r.u)))(hes:es.flatten=r.xs)(hk: ∀e∈es,e.length=r.k)(hn:es.length=r.n)(htk:st.tk= [])
 (h:LF c (F1++F2) ⟨st.fr,(K,⟨ty,.l (cs.set j (.iv (.sl es)))⟩)::st.bx,st.tk⟩ X):LF c F st X:=by
 subst hF'
 rintro a w E hi hF
 obtain⟨φ,hi2,hF2,hp,_⟩:=FOk.pub hi hF hes hk hn htk
 have hjl:=(List.getElem?_eq_some_iff.1 hj).1
 have hKn:(⟨ty,.l cs⟩:Box).cs≠ []:=fun e=>by
  simp only[Box.cs_l] at e
  rw[e] at hjl;simp at hjl
 refine h a w _ ⟨hi2.defers,hi2.size,hi2.slot,hi2.heap.reBox hK hKn (fun _=> ?_)⟩ ⟨hF2.ok,hF2.own,fun r' hr' id b hl hn1=> ?_,hF2.nd⟩
 · obtain⟨g0,arK,haK,hlK,h1K,hrK,hηK⟩:=hi2.heap.box K _ hK hKn
   refine⟨g0,arK,haK,by simpa using hlK,h1K,fun p x u hx hu=> ?_,hηK⟩
   simp only[Box.cs_l] at hx
   by_cases e:p=j
   · subst e
     rw[List.getElem?_set_self hjl] at hx
     cases hx
     have hu':=(hrK p (.iv (.im r.u)) u (by simpa using hj) hu).iv_im
     rw[hu']
     exact .iv hp
   · rw[List.getElem?_set_ne (Ne.symm e)] at hx
     exact hrK p x u (by simpa using hx) hu
 · by_cases e:id=K
   · subst e
     exact hF2.bx r' hr' id _ hK hKn
   · rw[lookup_cons_ne e] at hl
     exact hF2.bx r' hr' id b hl hn1
theorem LF.pubO(K j d:Nat){t:TypeId}{n k m:Nat}{es:List (List IV)}{ty:TypeId}{cs:List AV}(hin:c.ins= [])(hK:st.bx.lookup K=some ⟨ty,.l cs⟩)(hj:cs[j]?=some (.bsh d 0 n k))(hd:st.bx.lookup d=some ⟨t,.r es.flatten m⟩)(hKd:K≠d)(hk: ∀e∈es,e.length=k)(hk0:0<k)(hn:es.length=n)(hn0:0<n)(htk:st.tk= [])
 (h:LF c F ⟨st.fr,(K,⟨ty,.l (cs.set j (.iv (.sl es)))⟩)::(d,⟨t,.l []⟩)::st.bx,st.tk⟩ X):LF c F st X:=by
 have hjl:=(List.getElem?_eq_some_iff.1 hj).1
 refine LF.closeB K j d hin hK hj hd hKd hk hk0 hn hn0 (fun r h1 h2 h3 h4=> ?_)
 refine LF.pubC K j (F1:= []) (F2:=F) (r:=r) (cs:=cs.set j (.iv (.im r.u))) (es:=es) rfl (by rw[lookup_cons_eq]) (by rw[List.getElem?_set_self hjl]) h4.symm (by rw[h3];exact hk) (by rw[h2,hn]) htk ?_
 rw[List.set_set]
 refine LF.wk (st':=⟨st.fr,(K,⟨ty,.l (cs.set j (.iv (.sl es)))⟩)::(d,⟨t,.l []⟩)::st.bx,st.tk⟩) ⟨fun id hid=>(by rw[hin] at hid;cases hid),fun s v hv=>⟨v,hv,Sub.refl _⟩,fun id b hb=> ?_,fun id t ht=>ht⟩ h
 dsimp only at hb⊢
 by_cases e:id=K
 · subst e
   rw[lookup_cons_eq] at hb
   exact⟨b,by rw[lookup_cons_eq];exact hb,rfl,Subs.refl _⟩
 · rw[lookup_cons_ne e] at hb
   exact⟨b,by rw[lookup_cons_ne e,lookup_cons_ne e];exact hb,rfl,Subs.refl _⟩
end
theorem s_callF{P:Program}{c:Ctx}{fr:List (Nat×AV)}{bx:List (Nat×Box)}{tk:List (Nat×Tok)}{ops:Array Oper}{Q:Exit→Act→World→Prop}{rest:List Oper}{d:Nat}{ty:TypeId}{pos:String}{aft:Array Edge}{gs:Globs}{R:List AV→List Rw→Prop}{f:FuncId}{args:Array Operand}{ats:Array TypeId}{avs:List AV}(hlt:Nat.ble (d+1) c.nt=true)(hG:Glob gs c.E0 c.w0)[hok:CallTy P f](hc:CallF gs P f avs R)(ha:Subs (args.toList.map (St.ev ⟨fr,bx,tk⟩)) avs)(hm: ∀vs F,R vs F→AV.mentsIn [] vs=true)
 (h: ∀vs F,R vs F→LF c F ⟨(d,.agg vs)::fr,bx,tk⟩ (wpList P ops Q rest)):LW P c ⟨fr,bx,tk⟩ ops Q (⟨some d,.call {callee:= .value (.func f),args:=args,argTypes:=ats},ty,pos,aft,none⟩::rest):=
 .mk (L.callF (st:=⟨fr,bx,tk⟩) rfl rfl hlt hG rfl hok.h hc ha hm h)
end Go.Abs
namespace Go.Proofs.YthcjohcakdnmmaaGreatDoor
open Go.Abs
set_option maxRecDepth 100000
attribute [local irreducible] L Code.wp bodyPost Exit.then Exit.inBlock
set_option linter.unusedVariables false
set_option linter.unusedSimpArgs false
end Go.Proofs.YthcjohcakdnmmaaGreatDoor
namespace Go.Proofs.YthcjohcakdnmmaaGreatDoor
open Go.Abs
set_option maxRecDepth 100000
attribute [local irreducible] L Code.wp bodyPost Exit.then Exit.inBlock
set_option linter.unusedVariables false
set_option linter.unusedSimpArgs false
end Go.Proofs.YthcjohcakdnmmaaGreatDoor
namespace Go.Proofs.YthcjohcakdnmmaaGreatDoor
open Go.Abs
set_option maxRecDepth 100000
attribute [local irreducible] L Code.wp bodyPost Exit.then Exit.inBlock
set_option linter.unusedVariables false
set_option linter.unusedSimpArgs false
end Go.Proofs.YthcjohcakdnmmaaGreatDoor
