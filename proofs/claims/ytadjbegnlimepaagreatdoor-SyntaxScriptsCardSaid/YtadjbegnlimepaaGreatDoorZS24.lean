/- Several texts in one, each with its own sentence ahead of it. Conditions: each one says its own. -/
import Derived.Test.YtadjbegnlimepaaGreatDoorRows
import Derived.Lib.IndexMore
import Derived.Lib.SlTrimSet
import Derived.LaidMore
import Derived.ChangeArms
import Derived.MakeChecks
import Derived.Test.YtadjbegnlimepaaGreatDoorZS17
import Derived.Test.YtadjbegnlimepaaGreatDoorZS18
import Derived.Test.YtadjbegnlimepaaGreatDoorZS20
import Derived.Test.YtadjbegnlimepaaGreatDoorZS21
import Derived.Test.YtadjbegnlimepaaGreatDoorZS22
set_option linter.all false
namespace Go.Proofs.YtadjbegnlimepaaGreatDoor
open Go.Abs
set_option linter.unusedVariables false
set_option maxRecDepth 100000
theorem bulk_all{H:Type}: ∀(ds:List (DataW H)),bulkAll Rows.uptoBulk ds=Rows.uptoBulkAll ds
 | [] =>rfl
 |d::ds=>by
  have:=bulk_all ds
  simp only[bulkAll,List.map_cons,List.foldr_cons,Rows.uptoBulkAll] at this⊢
  omega
theorem bulk{H:Type}:Bulk (H:=H) Rows.uptoBulk where
 str s:=by simp[Rows.uptoBulk]
 lit l:=by cases l<;>simp[Rows.uptoBulk]
 nil:=by simp[Rows.uptoBulk]
 slice es sp:=by rw[bulk_all];simp only[Rows.uptoBulk];omega
 agg es:=by rw[bulk_all];simp only[Rows.uptoBulk];omega
def book:Book:= [(5,1,[.int .u8]),(9,16,[.str]),(32,24,[.sl 9]),(33,24,[.sl 37]),(37,104,[.int .i64,.int .i64,.int .i64,.str,.str,.str,.int .i64,.sl 37]),(39,320,[.int .i64,.str,.str,.str,.sl 54,.sl 33,.sl 57,.sl 9,.sl 37,.int .i64,.int .i64,.int .i64,.str,.str,.str,.int .i64,.sl 37,.sl 37,.bool,.int .i64]),(54,32,[.str,.int .i64,.bool]),(57,120,[.str,.int .i64,.int .i64,.int .i64,.str,.str,.str,.int .i64,.sl 37]),(109,16,[.int .i64,.int .i64]),(130,6,[.int .u16,.int .u16,.int .u16]),(133,12,[.int .u32,.int .u32,.int .u32])]
theorem book_ok:book.ok Tryz.prog=true:=by kernel_rfl
end Go.Proofs.YtadjbegnlimepaaGreatDoor
namespace Go.Proofs.YtadjbegnlimepaaGreatDoor
open Go.Abs
set_option maxRecDepth 100000
attribute [local irreducible] L Code.wp bodyPost Exit.then Exit.inBlock
set_option linter.unusedVariables false
set_option linter.unusedSimpArgs false
end Go.Proofs.YtadjbegnlimepaaGreatDoor
namespace Go.Proofs.YtadjbegnlimepaaGreatDoor
open Go.Abs
set_option maxRecDepth 100000
attribute [local irreducible] L Code.wp bodyPost Exit.then Exit.inBlock
set_option linter.unusedVariables false
set_option linter.unusedSimpArgs false
def Ex.cs(e:Ex):List IV:= [I e.op,I e.v.k,I e.v.n,S e.v.s,S e.s,S e.name,I e.n,.sl (e.l.map Ex.c)]
theorem Ex.c_cs(e:Ex):e.c=e.cs:=by cases e;exact Ex.c_eq _ _ _ _ _ _
def nilE:Ex:= .mk 0 ⟨0,0,[]⟩ [] [] 0 []
structure Ast where
 co:Str
 e:Ex
def Ast.c(x:Ast):List IV:=S x.co::x.e.cs
structure Stm where
 kind:Int
 name:Str
 table:Str
 col:Str
 cols:List Col
 rows:List (List Ex)
 sets:List Ast
 frm:List Str
 out:List Ex
 wh:Ex
 ord:List Ex
 down:Bool
 n:Int
def exRow(r:List Ex):List IV:= [.sl (r.map Ex.c)]
def Stm.cs(s:Stm):List IV:= [I s.kind,S s.name,S s.table,S s.col,.sl (s.cols.map Col.c),.sl (s.rows.map exRow),.sl (s.sets.map Ast.c),.sl (s.frm.map Str.c),.sl (s.out.map Ex.c),
 I s.wh.op,I s.wh.v.k,I s.wh.v.n,S s.wh.v.s,S s.wh.s,S s.wh.name,I s.wh.n,.sl (s.wh.l.map Ex.c),.sl (s.ord.map Ex.c),.im (.bool s.down),I s.n]
end Go.Proofs.YtadjbegnlimepaaGreatDoor
namespace Go.Proofs.YtadjbegnlimepaaGreatDoor
open Go.Abs
set_option linter.unusedVariables false
set_option linter.unusedSimpArgs false
theorem contains_nil(p:List UInt8):Lib.contains [] p=p.isEmpty:=by
 unfold Lib.contains Lib.index
 cases p<;>rfl
theorem contains_cons(b:UInt8)(l p:List UInt8):Lib.contains (b::l) p=(p.isPrefixOf (b::l)||Lib.contains l p):=by
 have h:=Lib.index_ge l p
 unfold Lib.contains
 rw[Lib.index]
 cases h1:p.isPrefixOf (b::l) with
 |true=>simp
 |false=>
  simp only[Bool.false_eq_true,if_false,Bool.false_or]
  by_cases h2:Lib.index l p= -1
  · rw[h2];rfl
  · have h3:(Lib.index l p== -1)=false:=by simpa using h2
    rw[h3]
    simp only[Bool.false_eq_true,if_false]
    exact decide_eq_decide.2 (by omega)
def noSp(w:List UInt8):Bool:=w.all (· !=32)
theorem contains_skip(q r:List UInt8): ∀w:List UInt8,noSp w=true→Lib.contains (w++r) (32::q)=Lib.contains r (32::q)
 | [],_=>rfl
 |x::w,h=>by
  simp only[noSp,List.all_cons,Bool.and_eq_true,bne_iff_ne] at h
  have e:(32==x)=false:=by simpa using fun e:(32:UInt8)=x=>h.1 e.symm
  rw[List.cons_append,contains_cons,List.isPrefixOf,e,Bool.false_and,Bool.false_or]
  exact contains_skip q r w h.2
theorem prefix_word(r:List UInt8): ∀s w:List UInt8,noSp s=true→noSp w=true→(s++ [32]).isPrefixOf (w++32::r)=(s==w)
 | [],[],_,_=>by simp[List.isPrefixOf]
 | [],x::w,_,h=>by
   simp only[noSp,List.all_cons,Bool.and_eq_true,bne_iff_ne] at h
   have e:(32==x)=false:=by simpa using fun e:(32:UInt8)=x=>h.1 e.symm
   simp only[List.nil_append,List.cons_append,List.isPrefixOf,e,Bool.false_and];rfl
 |a::s,[],h,_=>by
  simp only[noSp,List.all_cons,Bool.and_eq_true,bne_iff_ne] at h
  have e:(a==32)=false:=by simpa using h.1
  simp only[List.nil_append,List.cons_append,List.isPrefixOf,e,Bool.false_and];rfl
 |a::s,x::w,h1,h2=>by
  simp only[noSp,List.all_cons,Bool.and_eq_true,bne_iff_ne] at h1 h2
  simp only[List.cons_append,List.isPrefixOf,prefix_word r s w h1.2 h2.2]
  rfl
def joinW(ws:List (List UInt8)):List UInt8:=ws.flatMap (fun w=>w++ [32])
theorem contains_words(s:List UInt8)(hs:noSp s=true): ∀ws:List (List UInt8),ws.all noSp=true→Lib.contains (32::joinW ws) (32::(s++ [32]))=ws.any (fun y=>s==y)
 | [],_=>by
   rw[joinW,List.flatMap_nil,contains_cons,contains_nil]
   cases s<;>simp[List.isPrefixOf]
 |w::ws,h=>by
  simp only[List.all_cons,Bool.and_eq_true] at h
  have e:joinW (w::ws)=w++32::joinW ws:=by simp[joinW]
  rw[e,contains_cons,contains_skip _ _ w h.1,contains_words s hs ws h.2,List.any_cons,List.isPrefixOf,prefix_word _ s w hs h.1]
  simp
def azS:List UInt8:= [97,98,99,100,101,102,103,104,105,106,107,108,109,110,111,112,113,114,115,116,117,118,119,120,121,122]
theorem az_low: ∀b:UInt8,azS.contains b=lowC b:=by
 have h: ∀n:Fin 256,azS.contains (UInt8.ofNat n.val)=lowC (UInt8.ofNat n.val):=by decide+kernel
 intro b
 have:=h ⟨b.toNat,b.toNat_lt⟩
 simpa using this
theorem dropWhile_nil{p:UInt8→Bool}: ∀l:List UInt8,(l.dropWhile p== [])=l.all p
 | [] =>rfl
 |x::l=>by
  rw[List.dropWhile_cons,List.all_cons]
  cases p x with
  |true=>simpa using dropWhile_nil l
  |false=>simp
theorem dropWhile_head{p:UInt8→Bool}: ∀(l:List UInt8),(l.dropWhile p).all p=true→l.all p=true
 | [],_=>rfl
 |x::l,h=>by
  rw[List.dropWhile_cons] at h
  cases hp:p x with
  |true=>rw[hp] at h;rw[List.all_cons,hp,dropWhile_head l (by simpa using h)];rfl
  |false=>rw[hp] at h;simp[hp] at h
theorem all_dropWhile{p:UInt8→Bool}: ∀(l:List UInt8),l.all p=true→(l.dropWhile p).all p=true
 | [],_=>rfl
 |x::l,h=>by
  rw[List.all_cons,Bool.and_eq_true] at h
  rw[List.dropWhile_cons,h.1]
  simpa using all_dropWhile l h.2
theorem trim_nil(s:List UInt8):(Lib.trimS s azS== [])=s.all lowC:=by
 have e:(fun x=>azS.contains x)=lowC:=funext az_low
 unfold Lib.trimS Lib.trimLeftS Lib.trimRightS
 rw[e,dropWhile_nil,List.all_reverse]
 cases h:s.all lowC with
 |true=>exact all_dropWhile _ (by rw[List.all_reverse];exact h)
 |false=>
  cases h2:(s.reverse.dropWhile lowC).all lowC with
  |false=>rfl
  |true=>have:=dropWhile_head _ h2;rw[List.all_reverse,h] at this;cases this
theorem low_noSp{s:List UInt8}(h:s.all lowC=true):noSp s=true:=by
 unfold noSp
 rw[List.all_eq_true] at h⊢
 intro x hx
 have:=h x hx
 simp only[lowC,Bool.and_eq_true,decide_eq_true_eq] at this
 simp only[bne_iff_ne,ne_eq]
 intro e;subst e
 exact absurd this.1 (by decide)
theorem words_noSp:words.all noSp=true:=by unfold words;decide+kernel
def isNameR(s:Str):Bool:=((!(s== []) && decide ((s.length:Int)<9)) && (Lib.trimS s azS== [])) && !Lib.contains (32::joinW words) ([32] ++s++ [32])
theorem isNameR_eq(s:Str):isNameR s=namedM s:=by
 unfold isNameR namedM
 rw[trim_nil]
 cases h:s.all lowC with
 |false=>simp
 |true=>
  rw[show [32] ++s++ [32] =32::(s++ [32]) from rfl,contains_words s (low_noSp h) words words_noSp]
  have e1:(!(s== []))=decide (1≤s.length):=by cases s<;>simp
  have e2:decide ((s.length:Int)<9)=decide (s.length≤8):=decide_eq_decide.2 (by omega)
  rw[e1,e2]
  cases decide (1≤s.length)<;>cases decide (s.length≤8)<;>simp
end Go.Proofs.YtadjbegnlimepaaGreatDoor
namespace Go.Proofs.YtadjbegnlimepaaGreatDoor
open Go.Abs
set_option maxRecDepth 100000
attribute [local irreducible] L Code.wp bodyPost Exit.then Exit.inBlock
set_option linter.unusedVariables false
set_option linter.unusedSimpArgs false
theorem be4_len(x:Int):(be4 x).length=4:=rfl
end Go.Proofs.YtadjbegnlimepaaGreatDoor
namespace Go.Proofs.YtadjbegnlimepaaGreatDoor
open Go.Abs
set_option maxRecDepth 100000
attribute [local irreducible] L Code.wp bodyPost Exit.then Exit.inBlock
set_option linter.unusedVariables false
set_option linter.unusedSimpArgs false
end Go.Proofs.YtadjbegnlimepaaGreatDoor
namespace Go.Proofs.YtadjbegnlimepaaGreatDoor
open Go.Abs
set_option maxRecDepth 100000
attribute [local irreducible] L Code.wp bodyPost Exit.then Exit.inBlock
set_option linter.unusedVariables false
set_option linter.unusedSimpArgs false
end Go.Proofs.YtadjbegnlimepaaGreatDoor
namespace Go.Proofs.YtadjbegnlimepaaGreatDoor
open Go.Abs
set_option linter.unusedVariables false
set_option linter.unusedSimpArgs false
end Go.Proofs.YtadjbegnlimepaaGreatDoor
namespace Go.Proofs.YtadjbegnlimepaaGreatDoor
open Go.Abs
set_option linter.unusedVariables false
set_option linter.unusedSimpArgs false
end Go.Proofs.YtadjbegnlimepaaGreatDoor
namespace Go.Proofs.YtadjbegnlimepaaGreatDoor
open Go.Abs
set_option maxRecDepth 100000
open Go.Shelf
attribute [local irreducible] L Code.wp bodyPost Exit.then Exit.inBlock
set_option linter.unusedVariables false
set_option linter.unusedSimpArgs false
theorem contains_any{gs:Globs}(m:Int)(hgm:maxG m∈gs)(s sub:Str)(hs:s.length<4294967281):
 CallG gs Tryz.prog 17 [aS s,aS sub] [] [] [] (aB (Lib.contains s sub)):=by
 refine CallG.below (v:= .bool (Lib.contains s sub)) rfl ?_
 intro E w us hr hG
 rw[hr.im2]
 exact(Any.strings_Contains Tryz.lays144 ⟨s.toArray⟩ ⟨sub.toArray⟩ m w hs (hG.int hgm)).mono (by rintro e w' ⟨rfl,rfl⟩;exact⟨rfl,Below.same⟩)
theorem trim_any{gs:Globs}(s:Str)(hs:s.length≤9223372036854775807):
 CallG gs Tryz.prog 16 [aS s,aS azS] [] [] [] (aS (Lib.trimS s azS)):=by
 refine CallG.below (v:= .string ⟨(Lib.trimS s azS).toArray⟩) rfl ?_
 intro E w us hr hG
 rw[hr.im2]
 exact Any.strings_Trim_laid Tryz.lays160 (by kernel_rfl) ⟨s.toArray⟩ ⟨azS.toArray⟩ w hs (by decide) (ascii_of_all (by decide))
theorem words_text:(([32,97,110,100,32,98,121,32,99,114,101,97,116,101,32,100,101,108,101,116,101,32,100,101,115,99,32,100,114,111,112,32,102,114].append [111,109,32,105,110,100,101,120,32,105,110,115,101,114,116,32,105,110,116,32,105,110,116,111,32,105,115,32,108,105,109,105,116,32]).append ([109,117,115,116,32,110,111,116,32,110,117,108,108,32,111,110,32,111,114,32,111,114,100,101,114,32,115,101,108,101,99,116,32,115].append [101,116,32,116,97,98,108,101,32,116,101,120,116,32,117,112,100,97,116,101,32,118,97,108,117,101,115,32,119,104,101,114,101,32]):List UInt8)=32::joinW words:=by
 unfold words;rfl
set_option maxRecDepth 100000 in
theorem words_textLen:(32::joinW words).length<4294967281:=by rw[←words_text];decide
set_option maxRecDepth 100000 in
set_option maxHeartbeats 4000000 in
theorem isName_any{gs:Globs}(m:Int)(hgm:maxG m∈gs)(s:Str)(hs:s.length≤140737488355328):
 CallG gs Tryz.prog 7 [aS s] [] [] [] (aB (namedM s)):=by
 have k1:=trim_any (gs:=gs) s (by omega)
 have k2:=contains_any m hgm (32::joinW words) ([32] ++s++ [32]) words_textLen
 rw[←words_text] at k2
 have hR:=isNameR_eq s
 rw[isNameR,←words_text] at hR
 rw[←hR]
 refine CallG.intro _ Tryz.func7 rfl Tryz.ntmps7 rfl (fun w0 E0 hG=> ?_)
 cases h1: !(s== []) with
 |false=>
  (repeat' (first|refine wk1 ?_|refine wk2 (fun hb hp=> ?_) (fun hb hp=> ?_)|fail))
  all_goals refine wkf ?_
  all_goals simp
 |true=>
  cases h2:decide ((s.length:Int)<9) with
  |false=>
   (repeat' (first|refine wk1 ?_|refine wk2 (fun hb hp=> ?_) (fun hb hp=> ?_)|fail))
   all_goals refine wkf ?_
   all_goals simp
  |true=>
   cases h3:Lib.trimS s azS== [] with
   |false=>
    (repeat' (first|refine wk1 ?_|refine wk2 (fun hb hp=> ?_) (fun hb hp=> ?_)|fail))
    all_goals refine wkf ?_
    all_goals simp
   |true=>
    (repeat' (first|refine wk1 ?_|refine wk2 (fun hb hp=> ?_) (fun hb hp=> ?_)|fail))
    all_goals refine wkf ?_
    all_goals rfl
end Go.Proofs.YtadjbegnlimepaaGreatDoor
namespace Go.Proofs.YtadjbegnlimepaaGreatDoor
open Go.Abs
set_option maxRecDepth 100000
attribute [local irreducible] L Code.wp bodyPost Exit.then Exit.inBlock
set_option linter.unusedVariables false
set_option linter.unusedSimpArgs false
theorem all_take{s:List UInt8}{i:Nat}{b:UInt8}(h:s[i]?=some b):(s.take (i+1)).all charOk=((s.take i).all charOk && charOk b):=by
 rw[takeC h];simp
set_option maxRecDepth 100000 in
set_option maxHeartbeats 1000000 in
theorem isval_any(v:Val)(hs:v.s.length≤140737488355328):CallA Tryz.prog 122 [.agg (v.c.map .iv)] [] [] [] (aB (goodM v)):=by
 obtain⟨k,n,s⟩:=v
 refine CallA.intro _ Tryz.func122 rfl Tryz.ntmps122 rfl (fun w0 E0=> ?_)
 dsimp only at hs
 (repeat' (first|refine wk1 ?_|refine wk2 (fun hb hp=> ?_) (fun hb hp=> ?_)|fail))
 refine L.loopP (ι:=Nat×Bool) (fun i=>⟨[(10,aI (i.1:Int)),(9,aI ((s.map cB).length:Int)),(8,.iv (.sl (s.map cB))),(3,aB i.2),(1,.ptr 1 0)],[(1,⟨35,.l [.iv (I k),.iv (I n),.iv (S s)]⟩)],[]⟩) (fun i=>s.length - i.1) (fun i=>i.2=(s.take i.1).all charOk) (i0:=(0,true)) ?_ rfl ?_
 · exact wkk
 rintro ⟨i,b⟩ hi K hK
 dsimp only at hi⊢
 cases hv:s[i]? with
 |none=>
  have hlt:=ltF (l:=s.map cB) (getFN hv)
  rw[takeN hv] at hi
  clear hK
  by_cases hz:k=0∧n=0∧s= []
  · obtain⟨rfl,rfl,rfl⟩:=hz
    have eq1:eqVs [.iv (I 0),.iv (I 0),.iv (S [])] [.iv (I 0),.iv (I 0),.iv (S [])] =some true:=rfl
    rw[show goodM ⟨0,0,[]⟩=true from rfl]
    (repeat' (first|(refine LW.is ?_;first|(apply s_vr;exact rfl;apply v_eqlAgg;exact rfl;exact rfl;exact rfl;exact eq1))|(refine DR.is ?_;first|(apply d_vr;exact rfl;apply v_eqlAgg;exact rfl;exact rfl;exact rfl;exact eq1))|refine wk1 ?_|refine wk2 (fun hb hp=> ?_) (fun hb hp=> ?_)|fail))
    all_goals refine wkf ?_
    all_goals rfl
  have eq1:eqVs [.iv (I k),.iv (I n),.iv (S s)] [.iv (I 0),.iv (I 0),.iv (S [])] =some false:=by
   have:(k==0 && (n==0 && (s==([]:List UInt8))))=false:=by
    cases h:(k==0 && (n==0 && (s==([]:List UInt8)))) with
    |false=>rfl
    |true=>simp only[Bool.and_eq_true,beq_iff_eq] at h;exact absurd h hz
   simpa[eqVs,eqV,Bool.and_assoc] using this
  by_cases h1:k=1
  · subst h1
    have c1:((1:Int)==1)=true:=rfl
    have c2:((1:Int)==2)=false:=rfl
    by_cases h2:s= []
    · subst h2
      have q1:(([]:List UInt8)== [])=true:=rfl
      by_cases h3:(-1000000:Int)≤n
      · have q2:decide ((-1000000:Int)≤n)=true:=decide_eq_true h3
        by_cases h4:n≤(1000000:Int)
        · have q3:decide (n≤(1000000:Int))=true:=decide_eq_true h4
          rw[show goodM ⟨1,n,[]⟩=true by simp[goodM,h3,h4]]
          (repeat' (first|(refine LW.is ?_;first|(apply s_vr;exact rfl;apply v_eqlAgg;exact rfl;exact rfl;exact rfl;exact eq1))|(refine DR.is ?_;first|(apply d_vr;exact rfl;apply v_eqlAgg;exact rfl;exact rfl;exact rfl;exact eq1))|refine wk1 ?_|refine wk2 (fun hb hp=> ?_) (fun hb hp=> ?_)|fail))
          all_goals refine wkf ?_
          all_goals rfl
        · have q3:decide (n≤(1000000:Int))=false:=decide_eq_false h4
          rw[show goodM ⟨1,n,[]⟩=false by simp[goodM];intro;omega]
          (repeat' (first|(refine LW.is ?_;first|(apply s_vr;exact rfl;apply v_eqlAgg;exact rfl;exact rfl;exact rfl;exact eq1))|(refine DR.is ?_;first|(apply d_vr;exact rfl;apply v_eqlAgg;exact rfl;exact rfl;exact rfl;exact eq1))|refine wk1 ?_|refine wk2 (fun hb hp=> ?_) (fun hb hp=> ?_)|fail))
          all_goals refine wkf ?_
          all_goals rfl
      · have q2:decide ((-1000000:Int)≤n)=false:=decide_eq_false h3
        rw[show goodM ⟨1,n,[]⟩=false by simp[goodM];intro;omega]
        (repeat' (first|(refine LW.is ?_;first|(apply s_vr;exact rfl;apply v_eqlAgg;exact rfl;exact rfl;exact rfl;exact eq1))|(refine DR.is ?_;first|(apply d_vr;exact rfl;apply v_eqlAgg;exact rfl;exact rfl;exact rfl;exact eq1))|refine wk1 ?_|refine wk2 (fun hb hp=> ?_) (fun hb hp=> ?_)|fail))
        all_goals refine wkf ?_
        all_goals rfl
    · have q1:(s==([]:List UInt8))=false:=by cases s with|nil=>exact absurd rfl h2|cons x xs=>rfl
      rw[show goodM ⟨1,n,s⟩=false by simp[goodM,h2]]
      (repeat' (first|(refine LW.is ?_;first|(apply s_vr;exact rfl;apply v_eqlAgg;exact rfl;exact rfl;exact rfl;exact eq1))|(refine DR.is ?_;first|(apply d_vr;exact rfl;apply v_eqlAgg;exact rfl;exact rfl;exact rfl;exact eq1))|refine wk1 ?_|refine wk2 (fun hb hp=> ?_) (fun hb hp=> ?_)|fail))
      all_goals refine wkf ?_
      all_goals rfl
  have c1:(k==1)=false:=by simpa using h1
  by_cases h2:k=2
  · subst h2
    have c2:((2:Int)==2)=true:=rfl
    by_cases h3:n=0
    · subst h3
      have q1:((0:Int)==0)=true:=rfl
      cases b with
      |false=>
       rw[show goodM ⟨2,0,s⟩=false by simp only[goodM];rw[←hi];simp]
       (repeat' (first|(refine LW.is ?_;first|(apply s_vr;exact rfl;apply v_eqlAgg;exact rfl;exact rfl;exact rfl;exact eq1))|(refine DR.is ?_;first|(apply d_vr;exact rfl;apply v_eqlAgg;exact rfl;exact rfl;exact rfl;exact eq1))|refine wk1 ?_|refine wk2 (fun hb hp=> ?_) (fun hb hp=> ?_)|fail))
       all_goals refine wkf ?_
       all_goals rfl
      |true=>
       by_cases h4:s.length≤8
       · have q2:decide ((s.length:Int)<9)=true:=decide_eq_true (by omega)
         rw[show goodM ⟨2,0,s⟩=true by simp only[goodM];rw[←hi];simp[h4]]
         (repeat' (first|(refine LW.is ?_;first|(apply s_vr;exact rfl;apply v_eqlAgg;exact rfl;exact rfl;exact rfl;exact eq1))|(refine DR.is ?_;first|(apply d_vr;exact rfl;apply v_eqlAgg;exact rfl;exact rfl;exact rfl;exact eq1))|refine wk1 ?_|refine wk2 (fun hb hp=> ?_) (fun hb hp=> ?_)|fail))
         all_goals refine wkf ?_
         all_goals(rw[q2])
       · have q2:decide ((s.length:Int)<9)=false:=decide_eq_false (by omega)
         rw[show goodM ⟨2,0,s⟩=false by simp only[goodM];rw[←hi];simp;omega]
         (repeat' (first|(refine LW.is ?_;first|(apply s_vr;exact rfl;apply v_eqlAgg;exact rfl;exact rfl;exact rfl;exact eq1))|(refine DR.is ?_;first|(apply d_vr;exact rfl;apply v_eqlAgg;exact rfl;exact rfl;exact rfl;exact eq1))|refine wk1 ?_|refine wk2 (fun hb hp=> ?_) (fun hb hp=> ?_)|fail))
         all_goals refine wkf ?_
         all_goals(rw[q2])
    · have q1:(n==0)=false:=by simpa using h3
      rw[show goodM ⟨2,n,s⟩=false by simp[goodM,h3]]
      (repeat' (first|(refine LW.is ?_;first|(apply s_vr;exact rfl;apply v_eqlAgg;exact rfl;exact rfl;exact rfl;exact eq1))|(refine DR.is ?_;first|(apply d_vr;exact rfl;apply v_eqlAgg;exact rfl;exact rfl;exact rfl;exact eq1))|refine wk1 ?_|refine wk2 (fun hb hp=> ?_) (fun hb hp=> ?_)|fail))
      all_goals refine wkf ?_
      all_goals rfl
  have c2:(k==2)=false:=by simpa using h2
  rw[show goodM ⟨k,n,s⟩=false by
   simp only[goodM]
   split
   · rename_i h0
     cases hh:(n==0 && s== []) with
     |false=>rfl
     |true=>simp only[Bool.and_eq_true,beq_iff_eq] at hh;exact absurd ⟨h0,hh.1,hh.2⟩ hz
   · simp[h1,h2]]
  (repeat' (first|(refine LW.is ?_;first|(apply s_vr;exact rfl;apply v_eqlAgg;exact rfl;exact rfl;exact rfl;exact eq1))|(refine DR.is ?_;first|(apply d_vr;exact rfl;apply v_eqlAgg;exact rfl;exact rfl;exact rfl;exact eq1))|refine wk1 ?_|refine wk2 (fun hb hp=> ?_) (fun hb hp=> ?_)|fail))
  all_goals refine wkf ?_
  all_goals rfl
 |some c=>
  have hlt:=ltT (l:=s.map cB) (getF hv)
  have hlt':=ltN hv
  have hat:=all_take hv
  rw[←hi] at hat
  cases b with
  |false=>
   (repeat' (first|refine wk1 ?_|refine wk2 (fun hb hp=> ?_) (fun hb hp=> ?_)|fail))
   refine hK _ (i+1,false) (by rw[hat];rfl) (by simp;omega) ?_
   exact wkk
  |true=>
   cases h1:decide ((32:Int)≤(c.toNat:Int)) with
   |false=>
    (repeat' (first|refine wk1 ?_|refine wk2 (fun hb hp=> ?_) (fun hb hp=> ?_)|fail))
    refine hK _ (i+1,false) (by rw[hat];simp at h1;simp[charOk];omega) (by simp;omega) ?_
    exact wkk
   |true=>
    cases h2:decide ((c.toNat:Int)<(127:Int)) with
    |false=>
     (repeat' (first|refine wk1 ?_|refine wk2 (fun hb hp=> ?_) (fun hb hp=> ?_)|fail))
     refine hK _ (i+1,false) (by rw[hat];simp at h1 h2;simp[charOk];omega) (by simp;omega) ?_
     exact wkk
    |true=>
     (repeat' (first|refine wk1 ?_|refine wk2 (fun hb hp=> ?_) (fun hb hp=> ?_)|fail))
     refine hK _ (i+1,(c.toNat:Int) !=39) ?_ (by simp;omega) ?_
     · simp at h1 h2
       have e1:decide (32≤c.toNat)=true:=by simp;omega
       have e2:decide (c.toNat≤126)=true:=by simp;omega
       rw[hat,charOk,e1,e2]
       simp only[Bool.true_and]
       rw[Bool.eq_iff_iff];simp;omega
     · exact wkk
end Go.Proofs.YtadjbegnlimepaaGreatDoor
namespace Go.Proofs.YtadjbegnlimepaaGreatDoor
open Go.Abs
set_option maxRecDepth 100000
attribute [local irreducible] L Code.wp bodyPost Exit.then Exit.inBlock
set_option linter.unusedVariables false
set_option linter.unusedSimpArgs false
theorem L.lenS(s:Nat){c:Ctx}{st:St}{X:Act→World→Prop}{es:List (List IV)}(hs:st.fr.lookup s=some (.iv (.sl es)))(h:es.length≤9223372036854775807→L c st X):L c st X:=by
 unfold L at h⊢
 rintro a w ⟨E,hi⟩
 have hr:=(hi.slot s _ hs).iv_inv
 refine h ?_ a w ⟨E,hi⟩
 generalize a.tmps.getD s undef=u at hr
 cases hr with
 |emp=>simp
 |sl f hc hm=>exact Nat.le_trans hc hm
set_option maxHeartbeats 8000000 in
theorem exprs_same{gs:Globs}(l:List Ex)(ih: ∀x∈l,CallG gs Tryz.prog 19 [.agg (x.c.map .iv),.agg (x.c.map .iv)] [] [] [] (aB true)):CallG gs Tryz.prog 18 [.iv (.sl (l.map Ex.c)),.iv (.sl (l.map Ex.c))] [] [] [] (aB true):=by
 refine CallG.intro _ Tryz.func18 rfl Tryz.ntmps18 rfl (fun w0 E0 hG=> ?_)
 have q0:(!(((l.map Ex.c).length:Int)==((l.map Ex.c).length:Int)))=false:=by simp
 refine L.lenS 0 rfl (fun hlen=> ?_)
 rw[List.length_map] at hlen
 (repeat' (first|refine wk1 ?_|refine wk2 (fun hb hp=> ?_) (fun hb hp=> ?_)|fail))
 refine L.loopP (ι:=Nat) (fun i=>⟨[(13,aI (i:Int)),(12,aI ((l.map Ex.c).length:Int)),(0,.iv (.sl (l.map Ex.c))),(1,.iv (.sl (l.map Ex.c)))],[],[]⟩) (fun i=>l.length - i) (fun i=>True) (i0:=0) ?_ trivial ?_
 · exact wkk
 clear q0
 intro i _ K hK
 cases hx:l[i]? with
 |none=>
  have hlt:=ltF (l:=l.map Ex.c) (getFN hx)
  (repeat' (first|refine wk1 ?_|refine wk2 (fun hb hp=> ?_) (fun hb hp=> ?_)|fail))
  all_goals refine wkf ?_
  all_goals rfl
 |some x=>
  have hlt:=ltT (l:=l.map Ex.c) (getF (f:=Ex.c) hx)
  have hlt':=ltN hx
  have ke:=ih x (List.mem_of_getElem? hx)
  have g1:(l.map Ex.c)[((i:Nat):Int).toNat]?=some x.c:=by rw[Int.toNat_natCast,List.getElem?_map,hx];rfl
  obtain⟨op,v,s,name,n,xl⟩:=x
  rw[Ex.c_eq] at ke g1
  clear ih
  (repeat' (first|refine wk1 ?_|refine wk2 (fun hb hp=> ?_) (fun hb hp=> ?_)|fail))
  refine hK _ (i+1) trivial (by omega) ?_
  exact wkk
set_option maxHeartbeats 8000000 in
theorem expr_same{gs:Globs}: ∀x:Ex,CallG gs Tryz.prog 19 [.agg (x.c.map .iv),.agg (x.c.map .iv)] [] [] [] (aB true)
 | .mk op v s name n l=>by
   have ke:=exprs_same (gs:=gs) l (fun x hx=>expr_same x)
   have q1:(op==op)=true:=beq_self_eq_true op
   have q2:(s==s)=true:=beq_self_eq_true s
   have q3:(name==name)=true:=beq_self_eq_true name
   have q4:(n==n)=true:=beq_self_eq_true n
   have eq1:eqVs [.iv (I v.k),.iv (I v.n),.iv (S v.s)] [.iv (I v.k),.iv (I v.n),.iv (S v.s)] =some true:=by simp[eqVs,eqV]
   rw[Ex.c_eq]
   refine CallG.intro _ Tryz.func19 rfl Tryz.ntmps19 rfl (fun w0 E0 hG=> ?_)
   (repeat' (first|(refine LW.is ?_;first|(apply s_vr;exact rfl;apply v_eqlAgg;exact rfl;exact rfl;exact rfl;exact eq1))|(refine DR.is ?_;first|(apply d_vr;exact rfl;apply v_eqlAgg;exact rfl;exact rfl;exact rfl;exact eq1))|refine wk1 ?_|refine wk2 (fun hb hp=> ?_) (fun hb hp=> ?_)|fail))
   all_goals refine wkf ?_
   all_goals rfl
 termination_by x=>SizeOf.sizeOf x
 decreasing_by
  have:=List.sizeOf_lt_of_mem hx
  simp;omega
set_option maxHeartbeats 32000000 in
theorem stmt_same{gs:Globs}(s:Stm):CallG gs Tryz.prog 9 [.agg (s.cs.map .iv),.agg (s.cs.map .iv)] [] [] [] (aB true):=by
 have k1:=exprs_same (gs:=gs) s.out (fun x _=>expr_same x)
 have k2:CallG gs Tryz.prog 19 [.agg (s.wh.cs.map .iv),.agg (s.wh.cs.map .iv)] [] [] [] (aB true):=by
  have:=expr_same (gs:=gs) s.wh
  rw[Ex.c_cs] at this;exact this
 have k3:=exprs_same (gs:=gs) s.ord (fun x _=>expr_same x)
 have z1:(!(s.kind==s.kind))=false:=by simp
 have z2:(!(s.name==s.name))=false:=by simp
 have z3:(!(s.table==s.table))=false:=by simp
 have z4:(!(s.col==s.col))=false:=by simp
 have z5:(!(s.down==s.down))=false:=by simp
 have z6:(!(s.n==s.n))=false:=by simp
 have z_cols:(!(((s.cols.map Col.c).length:Int)==((s.cols.map Col.c).length:Int)))=false:=by simp
 have z_rows:(!(((s.rows.map exRow).length:Int)==((s.rows.map exRow).length:Int)))=false:=by simp
 have z_sets:(!(((s.sets.map Ast.c).length:Int)==((s.sets.map Ast.c).length:Int)))=false:=by simp
 have z_frm:(!(((s.frm.map Str.c).length:Int)==((s.frm.map Str.c).length:Int)))=false:=by simp
 refine CallG.intro _ Tryz.func9 rfl Tryz.ntmps9 rfl (fun w0 E0 hG=> ?_)
 (repeat' (first|refine wk1 ?_|refine wk2 (fun hb hp=> ?_) (fun hb hp=> ?_)|fail))
 refine L.lenS 86 (es:=(s.cols.map Col.c)) rfl (fun hlen=> ?_)
 rw[List.length_map] at hlen
 refine L.loopP (ι:=Nat) (fun i=>⟨[(88,aI (i:Int)),(87,aI ((s.cols.map Col.c).length:Int)),(2,.ptr 2 0),(3,.ptr 3 0)],[(2,⟨39,.l [aI s.kind,aS s.name,aS s.table,aS s.col,.iv (.sl (s.cols.map Col.c)),.iv (.sl (s.rows.map exRow)),.iv (.sl (s.sets.map Ast.c)),.iv (.sl (s.frm.map Str.c)),.iv (.sl (s.out.map Ex.c)),aI s.wh.op,aI s.wh.v.k,aI s.wh.v.n,aS s.wh.v.s,aS s.wh.s,aS s.wh.name,aI s.wh.n,.iv (.sl (s.wh.l.map Ex.c)),.iv (.sl (s.ord.map Ex.c)),aB s.down,aI s.n]⟩),(3,⟨39,.l [aI s.kind,aS s.name,aS s.table,aS s.col,.iv (.sl (s.cols.map Col.c)),.iv (.sl (s.rows.map exRow)),.iv (.sl (s.sets.map Ast.c)),.iv (.sl (s.frm.map Str.c)),.iv (.sl (s.out.map Ex.c)),aI s.wh.op,aI s.wh.v.k,aI s.wh.v.n,aS s.wh.v.s,aS s.wh.s,aS s.wh.name,aI s.wh.n,.iv (.sl (s.wh.l.map Ex.c)),.iv (.sl (s.ord.map Ex.c)),aB s.down,aI s.n]⟩)],[]⟩) (fun i=>s.cols.length - i) (fun i=>True) (i0:=0) ?_ trivial ?_
 · exact wkk
 intro i _ K hK
 cases hx:s.cols[i]? with
 |some x=>
  have hlt:=ltT (l:=(s.cols.map Col.c)) (getF (f:=Col.c) hx)
  have hlt':=ltN hx
  have g1:(s.cols.map Col.c)[((i:Nat):Int).toNat]?=some [S x.n,I x.t,.im (.bool x.m)]:=by rw[Int.toNat_natCast,List.getElem?_map,hx];rfl
  have eq1:eqVs [.iv (S x.n),.iv (I x.t),.iv (.im (.bool x.m))] [.iv (S x.n),.iv (I x.t),.iv (.im (.bool x.m))] =some true:=by simp[eqVs,eqV]
  (repeat' (first|(refine LW.is ?_;first|(apply s_vr;exact rfl;apply v_neqAgg;exact rfl;exact rfl;exact rfl;exact eq1))|(refine DR.is ?_;first|(apply d_vr;exact rfl;apply v_neqAgg;exact rfl;exact rfl;exact rfl;exact eq1))|refine wk1 ?_|refine wk2 (fun hb hp=> ?_) (fun hb hp=> ?_)|fail))
  refine hK _ (i+1) trivial (by omega) ?_
  exact wkk
 |none=>
 have hlt:=ltF (l:=(s.cols.map Col.c)) (getFN hx)
 clear hK hlen
 (repeat' (first|refine wk1 ?_|refine wk2 (fun hb hp=> ?_) (fun hb hp=> ?_)|fail))
 refine L.lenS 104 (es:=(s.rows.map exRow)) rfl (fun hlen=> ?_)
 rw[List.length_map] at hlen
 refine L.loopP (ι:=Nat) (fun i=>⟨[(106,aI (i:Int)),(105,aI ((s.rows.map exRow).length:Int)),(2,.ptr 2 0),(3,.ptr 3 0)],[(2,⟨39,.l [aI s.kind,aS s.name,aS s.table,aS s.col,.iv (.sl (s.cols.map Col.c)),.iv (.sl (s.rows.map exRow)),.iv (.sl (s.sets.map Ast.c)),.iv (.sl (s.frm.map Str.c)),.iv (.sl (s.out.map Ex.c)),aI s.wh.op,aI s.wh.v.k,aI s.wh.v.n,aS s.wh.v.s,aS s.wh.s,aS s.wh.name,aI s.wh.n,.iv (.sl (s.wh.l.map Ex.c)),.iv (.sl (s.ord.map Ex.c)),aB s.down,aI s.n]⟩),(3,⟨39,.l [aI s.kind,aS s.name,aS s.table,aS s.col,.iv (.sl (s.cols.map Col.c)),.iv (.sl (s.rows.map exRow)),.iv (.sl (s.sets.map Ast.c)),.iv (.sl (s.frm.map Str.c)),.iv (.sl (s.out.map Ex.c)),aI s.wh.op,aI s.wh.v.k,aI s.wh.v.n,aS s.wh.v.s,aS s.wh.s,aS s.wh.name,aI s.wh.n,.iv (.sl (s.wh.l.map Ex.c)),.iv (.sl (s.ord.map Ex.c)),aB s.down,aI s.n]⟩)],[]⟩) (fun i=>s.rows.length - i) (fun i=>True) (i0:=0) ?_ trivial ?_
 · exact wkk
 intro i _ K hK
 cases hx:s.rows[i]? with
 |some x=>
  have hlt:=ltT (l:=(s.rows.map exRow)) (getF (f:=exRow) hx)
  have hlt':=ltN hx
  have g1:(s.rows.map exRow)[((i:Nat):Int).toNat]?=some [.sl (x.map Ex.c)]:=by rw[Int.toNat_natCast,List.getElem?_map,hx];rfl
  have ke:=exprs_same (gs:=gs) x (fun x _=>expr_same x)
  (repeat' (first|refine wk1 ?_|refine wk2 (fun hb hp=> ?_) (fun hb hp=> ?_)|fail))
  refine hK _ (i+1) trivial (by omega) ?_
  exact wkk
 |none=>
 have hlt:=ltF (l:=(s.rows.map exRow)) (getFN hx)
 clear hK hlen
 (repeat' (first|refine wk1 ?_|refine wk2 (fun hb hp=> ?_) (fun hb hp=> ?_)|fail))
 refine L.lenS 123 (es:=(s.sets.map Ast.c)) rfl (fun hlen=> ?_)
 rw[List.length_map] at hlen
 refine L.loopP (ι:=Nat) (fun i=>⟨[(125,aI (i:Int)),(124,aI ((s.sets.map Ast.c).length:Int)),(2,.ptr 2 0),(3,.ptr 3 0)],[(2,⟨39,.l [aI s.kind,aS s.name,aS s.table,aS s.col,.iv (.sl (s.cols.map Col.c)),.iv (.sl (s.rows.map exRow)),.iv (.sl (s.sets.map Ast.c)),.iv (.sl (s.frm.map Str.c)),.iv (.sl (s.out.map Ex.c)),aI s.wh.op,aI s.wh.v.k,aI s.wh.v.n,aS s.wh.v.s,aS s.wh.s,aS s.wh.name,aI s.wh.n,.iv (.sl (s.wh.l.map Ex.c)),.iv (.sl (s.ord.map Ex.c)),aB s.down,aI s.n]⟩),(3,⟨39,.l [aI s.kind,aS s.name,aS s.table,aS s.col,.iv (.sl (s.cols.map Col.c)),.iv (.sl (s.rows.map exRow)),.iv (.sl (s.sets.map Ast.c)),.iv (.sl (s.frm.map Str.c)),.iv (.sl (s.out.map Ex.c)),aI s.wh.op,aI s.wh.v.k,aI s.wh.v.n,aS s.wh.v.s,aS s.wh.s,aS s.wh.name,aI s.wh.n,.iv (.sl (s.wh.l.map Ex.c)),.iv (.sl (s.ord.map Ex.c)),aB s.down,aI s.n]⟩)],[]⟩) (fun i=>s.sets.length - i) (fun i=>True) (i0:=0) ?_ trivial ?_
 · exact wkk
 intro i _ K hK
 cases hx:s.sets[i]? with
 |some x=>
  have hlt:=ltT (l:=(s.sets.map Ast.c)) (getF (f:=Ast.c) hx)
  have hlt':=ltN hx
  have g1:(s.sets.map Ast.c)[((i:Nat):Int).toNat]?=some [S x.co,I x.e.op,I x.e.v.k,I x.e.v.n,S x.e.v.s,S x.e.s,S x.e.name,I x.e.n,.sl (x.e.l.map Ex.c)]:=by rw[Int.toNat_natCast,List.getElem?_map,hx];rfl
  have ke:CallG gs Tryz.prog 19 [.agg (x.e.cs.map .iv),.agg (x.e.cs.map .iv)] [] [] [] (aB true):=by
   have:=expr_same (gs:=gs) x.e
   rw[Ex.c_cs] at this;exact this
  have y1:(!(x.co==x.co))=false:=by simp
  (repeat' (first|refine wk1 ?_|refine wk2 (fun hb hp=> ?_) (fun hb hp=> ?_)|fail))
  refine hK _ (i+1) trivial (by omega) ?_
  exact wkk
 |none=>
 have hlt:=ltF (l:=(s.sets.map Ast.c)) (getFN hx)
 clear hK hlen
 (repeat' (first|refine wk1 ?_|refine wk2 (fun hb hp=> ?_) (fun hb hp=> ?_)|fail))
 refine L.lenS 159 (es:=(s.frm.map Str.c)) rfl (fun hlen=> ?_)
 rw[List.length_map] at hlen
 refine L.loopP (ι:=Nat) (fun i=>⟨[(161,aI (i:Int)),(160,aI ((s.frm.map Str.c).length:Int)),(2,.ptr 2 0),(3,.ptr 3 0)],[(2,⟨39,.l [aI s.kind,aS s.name,aS s.table,aS s.col,.iv (.sl (s.cols.map Col.c)),.iv (.sl (s.rows.map exRow)),.iv (.sl (s.sets.map Ast.c)),.iv (.sl (s.frm.map Str.c)),.iv (.sl (s.out.map Ex.c)),aI s.wh.op,aI s.wh.v.k,aI s.wh.v.n,aS s.wh.v.s,aS s.wh.s,aS s.wh.name,aI s.wh.n,.iv (.sl (s.wh.l.map Ex.c)),.iv (.sl (s.ord.map Ex.c)),aB s.down,aI s.n]⟩),(3,⟨39,.l [aI s.kind,aS s.name,aS s.table,aS s.col,.iv (.sl (s.cols.map Col.c)),.iv (.sl (s.rows.map exRow)),.iv (.sl (s.sets.map Ast.c)),.iv (.sl (s.frm.map Str.c)),.iv (.sl (s.out.map Ex.c)),aI s.wh.op,aI s.wh.v.k,aI s.wh.v.n,aS s.wh.v.s,aS s.wh.s,aS s.wh.name,aI s.wh.n,.iv (.sl (s.wh.l.map Ex.c)),.iv (.sl (s.ord.map Ex.c)),aB s.down,aI s.n]⟩)],[]⟩) (fun i=>s.frm.length - i) (fun i=>True) (i0:=0) ?_ trivial ?_
 · exact wkk
 intro i _ K hK
 cases hx:s.frm[i]? with
 |some x=>
  have hlt:=ltT (l:=(s.frm.map Str.c)) (getF (f:=Str.c) hx)
  have hlt':=ltN hx
  have g1:(s.frm.map Str.c)[((i:Nat):Int).toNat]?=some [S x]:=by rw[Int.toNat_natCast,List.getElem?_map,hx];rfl
  have y1:(!(x==x))=false:=by simp
  (repeat' (first|refine wk1 ?_|refine wk2 (fun hb hp=> ?_) (fun hb hp=> ?_)|fail))
  refine hK _ (i+1) trivial (by omega) ?_
  exact wkk
 |none=>
 have hlt:=ltF (l:=(s.frm.map Str.c)) (getFN hx)
 clear hK hlen
 (repeat' (first|refine wk1 ?_|refine wk2 (fun hb hp=> ?_) (fun hb hp=> ?_)|fail))
 all_goals refine wkf ?_
 all_goals rfl
end Go.Proofs.YtadjbegnlimepaaGreatDoor
namespace Go.Abs
open Go.RowKit (Below)
set_option linter.unusedVariables false
theorem law_callsG{P:Program}{gs:Globs}{f:FuncId}{avs:List AV}(hc:CallG gs P f avs [] [] [] (aB true)){W:World}{us:List Value}(φ:Nat→Nat)(hφ: ∀b,W.heap.size≤b→φ b=0)(hG:Glob gs (lawEnv φ) W)(hr:RelL (lawEnv φ) W avs us):
 Calls P f us.toArray W fun e w'=>e= .returned (.bool true)∧Below W.heap.size W w':=by
 refine(hc (lawEnv φ) W us hr ?_ hG).mono ?_
 · exact⟨fun id b h=>by simp at h,fun id t h=>by simp at h,fun i j b b' h=>by simp at h,fun i j t t' g h=>by simp at h,fun i j b t h=>by simp at h,fun i b h=>by simp at h,fun i t g h=>by simp at h,
    hφ,fun b _=>rfl,fun id h=>by simp[keys] at h,KeptBut.refl _ _⟩
 · rintro e w' ⟨u,E',he,hu,hh⟩
   have hv:=hu.iv_im
   subst hv
   refine⟨he,?_⟩
   have hk:=hh.kept
   exact⟨hk.os,hk.tape,hk.output,hk.size,fun k hlt=>hk.block k hlt (fun⟨id,hid,_⟩=>by simp[keys] at hid)⟩
theorem laid_strs{P:Program}{W:World}{n:String}{g:Nat}{t e:TypeId}{cs:Array Value}{fuel:Nat}{p:List MemPlace}{ws:List (List UInt8)}(hg:P.globalNamed n=some g)(hv:W.var? P n=some cs)(ht:P.underlying t=some (.slice e))(he:P.underlying e=some .string)(hce:P.cellsOf e=1)(hne:ws≠ [])
 (hd:DataW.trod (fun _=>()) P W 0 (fun _=>true) false fuel t cs.toList=some (.slice (ws.map fun s=> .lit (.string s)) [],p)):
 ∀(i:Nat) (x:IV),[IV.sl (ws.map fun s=> [S s])][i]?=some x→i<sizes W g∧ ∃v,W.cell? ⟨g,i,none⟩=some v∧RepI (sizes W) W x v:=by
 intro i x hx
 cases i with
 |succ i=>simp at hx
 |zero=>
  simp only[List.getElem?_cons_zero,Option.some.injEq] at hx
  subst hx
  rcases DataW.trod_slice ht hd with⟨_,h⟩|⟨a,len,cap,elems,rest,n',_,hcs,hxe,_,hlc,hcm,hel,hget,_,_⟩
  · simp at h
  · simp only[Prod.mk.injEq,DataW.slice.injEq] at hxe
    obtain⟨⟨hm,hr⟩,_⟩:=hxe
    have hlen:len=ws.length:=by rw[←hel];have:=congrArg List.length hm;simpa using this.symm
    have hcell:W.cell? ⟨g,0,none⟩=some (.slice (some a) len cap):=by
     rw[World.var?_cell hg hv 0,←Array.getElem?_toList,hcs];rfl
    have each: ∀j s,ws[j]?=some s→W.cell? ((a.add j).add 0)=some (.string ⟨s.toArray⟩):=by
     intro j s hs
     have hj:j<ws.length:=(List.getElem?_eq_some_iff.1 hs).1
     have h1:=hget j (by omega)
     rw[hce,Nat.mul_one] at h1
     have hje:elems[j]?=some elems[j]:=List.getElem?_eq_getElem (by omega)
     rw[hje] at h1
     obtain⟨c1,hc1,hc2⟩:=Option.bind_eq_some_iff.1 h1
     obtain⟨b,rfl,hb,_⟩:=DataW.trod_string he hc2
     obtain⟨_,hc3,hc4⟩:=World.cells?_some hc1
     have h0:=hc4 0 (by decide)
     have hmj:=congrArg (fun l=>l[j]?) hm
     simp only[List.getElem?_map,hs,hje,Option.map_some,Option.some.injEq] at hmj
     rw[hb] at hmj
     simp only[DataW.lit.injEq,Lit.string.injEq] at hmj
     rw[h0,hmj]
     rfl
    refine⟨sizes_cell hcell,_,hcell,?_⟩
    obtain⟨b,o,spot⟩:=a
    obtain⟨s0,hs0⟩: ∃s0,ws[0]?=some s0:=⟨_,List.getElem?_eq_getElem (List.length_pos_iff.2 hne)⟩
    have hsp:spot=none:=by simpa[Addr.add] using World.cell?_spot (each 0 s0 hs0)
    subst hsp
    have hl2:len=(ws.map fun s=> [S s]).length:=by rw[hlen,List.length_map]
    rw[hl2]
    refine .sl (k:=1) (fun i j=> .string ⟨(ws.getD i []).toArray⟩) (by omega) hcm ?_ ?_ ?_ ?_
    · intro i e' he'
      simp only[List.getElem?_map,Option.map_eq_some_iff] at he'
      obtain⟨s,_,rfl⟩:=he'
      rfl
    all_goals
     intro i e' j x' he' hx'
     simp only[List.getElem?_map,Option.map_eq_some_iff] at he'
     obtain⟨s,hs,rfl⟩:=he'
     have hj:j=0:=by have:=(List.getElem?_eq_some_iff.1 hx').1;simp at this;omega
     subst hj
     have hc:=each i s hs
     rw[Addr.add_none,Addr.add_none] at hc
     have hgd:ws.getD i [] =s:=by rw[List.getD_eq_getElem?_getD,hs];rfl
     simp only[List.getElem?_cons_zero,Option.some.injEq] at hx'
     subst hx'
     try rw[hgd]
     first
      |(have:=sizes_cell hc;omega)
      |(rw[show o+i*1+0=o+i+0 by omega];exact hc)
      |exact .im rfl
end Go.Abs
