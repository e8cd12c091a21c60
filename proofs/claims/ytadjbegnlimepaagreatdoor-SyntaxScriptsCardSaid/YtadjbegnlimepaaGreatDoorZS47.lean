/- Several texts in one, each with its own sentence ahead of it. Conditions: each one says its own. -/
import Derived.Test.YtadjbegnlimepaaGreatDoorZS43
import Derived.Test.YtadjbegnlimepaaGreatDoorZS44
set_option linter.all false
namespace Go.Proofs.YtadjbegnlimepaaGreatDoor
open Go.Abs
set_option maxRecDepth 100000
attribute [local irreducible] L Code.wp bodyPost Exit.then Exit.inBlock
set_option linter.unusedVariables false
set_option linter.unusedSimpArgs false
theorem LW.cutJ{ι:Type}{P:Program}{c:Ctx}{st:St}{ops:Array Oper}{Q:Exit→Act→World→Prop}{l:List Oper}(inv:ι→St)(I:ι→Prop){X:Act→World→Prop}(h:(∀(st':St) (i:ι),I i→Wk c st' (inv i)→L c st' X)→LW P c st ops Q l)(t: ∀i,I i→L c (inv i) X):L c st (wpList P ops Q l):=by
 unfold LW at h
 exact h fun st' i hi hw=> .wk hw (t i hi)
theorem L.cutJ{ι:Type}{c:Ctx}{st:St}{Y:Act→World→Prop}(inv:ι→St)(I:ι→Prop){X:Act→World→Prop}(h:(∀(st':St) (i:ι),I i→Wk c st' (inv i)→L c st' X)→L c st Y)(t: ∀i,I i→L c (inv i) X):L c st Y:=h fun st' i hi hw=> .wk hw (t i hi)
def selK(oo:Option (List Ex))(fl:List Str)(x:Ex)(ok:Bool)(od:List Ex×Bool)(n:Int):Option Stm:=match oo with
 |none=>none
 |some ol=>if ok=true then some {stm0 with kind:=7,out:=ol,frm:=fl,wh:=x,ord:=od.1,down:=od.2,n:=n} else none
def selH(fo:Option (List Str))(a:List Str)(x:Ex)(ok:Bool)(od:List Ex×Bool)(n:Int):Option Stm:=match fo with
 |none=>none
 |some fl=>selK (dcOut a) fl x ok od n
def selG(a:List Str)(x:Ex)(ok:Bool)(od:List Ex×Bool)(n:Int):Option Stm:=match cutM a [wFROM] with
 |none=>none
 |some p=>selH (lsM nmM (a.drop (p.1+1))) (a.take p.1) x ok od n
def selF(a:List Str)(ok:Bool)(od:List Ex×Bool)(n:Int):Option Stm:=selG (dcWh a).1 (dcWh a).2.1 (ok && (dcWh a).2.2) od n
def selT(a:List Str)(ok:Bool)(n:Int):Option Stm:=match dcOrd a with
 |none=>none
 |some o=>selF o.1 (ok && o.2.2) o.2.1 n
theorem dcSel_eq(l:List Str):dcSel l=selT (dcLim l).1 (dcLim l).2.2 (dcLim l).2.1:=by
 unfold dcSel selT
 cases dcOrd (dcLim l).1 with
 |none=>rfl
 |some o=>
  dsimp only
  unfold selF selG
  cases cutM (dcWh o.1).1 [wFROM] with
  |none=>rfl
  |some p=>
   dsimp only
   unfold selH
   cases lsM nmM ((dcWh o.1).1.drop (p.1+1)) with
   |none=>rfl
   |some fl=>
    dsimp only
    unfold selK
    cases dcOut ((dcWh o.1).1.take p.1) with
    |none=>rfl
    |some ol=>
     dsimp only
     by_cases k:(dcLim l).2.2=true∧o.2.2=true∧(dcWh o.1).2.2=true
     · rw[if_pos k,if_pos (by rw[k.1,k.2.1,k.2.2];rfl)]
     · rw[if_neg k,if_neg (fun h=>k ⟨(Bool.and_eq_true_iff.1 (Bool.and_eq_true_iff.1 h).1).1,(Bool.and_eq_true_iff.1 (Bool.and_eq_true_iff.1 h).1).2,(Bool.and_eq_true_iff.1 h).2⟩)]
theorem parts_ne(l:List Str):partsM l≠ []:=by
 cases e:cutM l [[44]] with
 |none=>rw[parts_none e];simp
 |some p=>rw[parts_some e];simp
def zeroEx:List IV:= [I 0,I 0,I 0,S [],S [],S [],I 0,.sl []]
theorem moreE(l:List Ex)(x:Ex):(l.map Ex.c++ [zeroEx]).set l.length x.cs=(l++ [x]).map Ex.c:=by
 have: ∀(m:List (List IV)) (y z:List IV),(m++ [y]).set m.length z=m++ [z]:=fun m y z=>by simp
 have:=this (l.map Ex.c) zeroEx x.cs
 rw[List.length_map] at this
 rw[this,List.map_append,List.map_cons,List.map_nil,Ex.c_cs]
theorem lenZ(l:List Ex): ∀e∈l.map Ex.c++ [zeroEx],e.length=8:=fun e he=>by
 rcases List.mem_append.1 he with h|h
 · exact lenE l e h
 · rw[List.mem_singleton.1 h];rfl
theorem exl(x:Ex):x.c.length=8:=by rw[Ex.c_cs];rfl
theorem exNE{x:Ex}{l:List Ex}:((x::l).map Ex.c).flatten≠ []:=fun e=>by
 have:=congrArg List.length e
 rw[List.map_cons,List.flatten_cons,List.length_append,exl] at this
 simp only[List.length_nil] at this;omega
theorem oneL{k:Nat}{x:List IV}(h:x.length=k): ∀e∈ [x],e.length=k:=fun e he=>by rw[List.mem_singleton.1 he];exact h
def outBx(t:TypeId)(f:AV→List (Nat×Box)):List Ex→List (Nat×Box)
 | [] =>f .nils
 |x::l=>f (.bsh 905 0 (x::l).length 8)++ [(905,⟨t,.r ((x::l).map Ex.c).flatten 0⟩)]
set_option maxHeartbeats 64000000 in
theorem doc_select{gs:Globs}(m:Int)(hgm:maxG m∈gs)(hsp:(1,spTab)∈gs){l:List Str}(hl:l.length≤1000000)(ht:TokA l)(n0:hdW [wCREATE,wTABLE] l=false)(n1:hdW [wCREATE,wINDEX] l=false)(n2:hdW [wDROP,wTABLE] l=false)(n3:hdW [wINSERT,wINTO] l=false)(n4:hdW [wDELETE,wFROM] l=false)(n5:hdW [wUPDATE] l=false)(hy:hdW [wSELECT] l=true):CallG gs Tryz.prog 14 [.iv (.sl (l.map Str.c))] [] [] [] (SR (dcSel (l.drop 1))):=by
 have k0:=head_no hsp hCT (l:=l) hl ht n0
 have k1:=head_no hsp hCI (l:=l) hl ht n1
 have k2:=head_no hsp hDT (l:=l) hl ht n2
 have k3:=head_no hsp hII (l:=l) hl ht n3
 have k4:=head_no hsp hDF (l:=l) hl ht n4
 have k5:=head_no hsp hUP (l:=l) hl ht n5
 have k6:=head_yes hsp hSE (l:=l) hl ht hy
 have t2:=ht.drop 1
 have hl2:(l.drop 1).length≤1000000:=by rw[List.length_drop];omega
 dsimp only[List.length_cons,List.length_nil] at k6
 refine CallG.intro _ Tryz.func14 rfl Tryz.ntmps14 rfl (fun w0 E0 hG=> ?_)
 generalize hq:l.drop 1=q at*
 have em:(q.map Str.c).length=q.length:=List.length_map _
 apply L.cutJ (ι:=List Str×Bool×Int) (fun i=>⟨[(414,.iv (.sl (i.1.map Str.c))),(415,.iv (.sl ([wORDER].map Str.c))),(1,.ptr 1 0),(2,.ptr 2 0),(4,.ptr 4 0),(6,.fn 39 [.ptr 1 0,.ptr 4 0]),(7,aB i.2.1)],[(1,rowB i.1),(2,⟨39,.l [aI 0,aS [],aS [],aS [],.nils,.nils,.nils,.nils,.nils,aI 0,aI 0,aI 0,aS [],aS [],aS [],aI 0,.nils,.nils,aB false,aI 0]⟩),(4,⟨39,.l [aI 7,aS [],aS [],aS [],.nils,.nils,.nils,.nils,.nils,aI 0,aI 0,aI 0,aS [],aS [],aS [],aI 0,.nils,.nils,aB false,aI i.2.2]⟩)],[]⟩) (fun i=>dcSel q=selT i.1 i.2.1 i.2.2∧TokA i.1∧i.1.length≤1000000)
 · intro hK
   by_cases h1:1<q.length
   · have q1:decide (1<((q.map Str.c).length:Int))=true:=decide_eq_true (by rw[em];omega)
     have g2:(q.map Str.c)[(((q.map Str.c).length:Int) - 2).toNat]?=some [S (q.getD (q.length - 2) [])]:=at_nat (i:=q.length - 2) (getE (by omega)) (by rw[em];omega)
     by_cases h2:q.getD (q.length - 2) [] =wLIMIT
     · have e:dcLim q=(q.take (q.length - 2),numR (q.getD (q.length - 1) [])):=by unfold dcLim;rw[if_pos ⟨h1,h2⟩]
       have hI:=dcSel_eq q
       rw[e] at hI
       dsimp only at hI
       rw[h2] at g2
       have g1:(q.map Str.c)[(((q.map Str.c).length:Int) - 1).toNat]?=some [S (q.getD (q.length - 1) [])]:=at_nat (i:=q.length - 1) (getE (by omega)) (by rw[em];omega)
       have kn:=dcNum_any (gs:=gs) (q.getD (q.length - 1) [])
       have b1:(((q.map Str.c).length:Int) - 2)≤((q.map Str.c).length:Int):=by omega
       have s1:(q.map Str.c).take (((q.map Str.c).length:Int) - 2).toNat=(q.take (q.length - 2)).map Str.c:=by rw[show(((q.map Str.c).length:Int) - 2).toNat=q.length - 2 by rw[em];omega,List.map_take]
       (repeat' (first|(apply s_callFnW [] (f:=36) (avs:= [aS (wCREATE++32::wTABLE)]) (caps:= [.ptr 1 0]) (bxi:= [(1,rowB l)]);exact rfl;exact hG;exact rfl;exact k0;exact Subs.of_eq rfl;exact .cons rfl rfl (Subs.of_eq rfl) .nil;exact rfl;exact rfl;exact rfl;exact rfl)|(apply s_callFnW [] (f:=36) (avs:= [aS (wCREATE++32::wINDEX)]) (caps:= [.ptr 1 0]) (bxi:= [(1,rowB l)]);exact rfl;exact hG;exact rfl;exact k1;exact Subs.of_eq rfl;exact .cons rfl rfl (Subs.of_eq rfl) .nil;exact rfl;exact rfl;exact rfl;exact rfl)|(apply s_callFnW [] (f:=36) (avs:= [aS (wDROP++32::wTABLE)]) (caps:= [.ptr 1 0]) (bxi:= [(1,rowB l)]);exact rfl;exact hG;exact rfl;exact k2;exact Subs.of_eq rfl;exact .cons rfl rfl (Subs.of_eq rfl) .nil;exact rfl;exact rfl;exact rfl;exact rfl)|(apply s_callFnW [] (f:=36) (avs:= [aS (wINSERT++32::wINTO)]) (caps:= [.ptr 1 0]) (bxi:= [(1,rowB l)]);exact rfl;exact hG;exact rfl;exact k3;exact Subs.of_eq rfl;exact .cons rfl rfl (Subs.of_eq rfl) .nil;exact rfl;exact rfl;exact rfl;exact rfl)|(apply s_callFnW [] (f:=36) (avs:= [aS (wDELETE++32::wFROM)]) (caps:= [.ptr 1 0]) (bxi:= [(1,rowB l)]);exact rfl;exact hG;exact rfl;exact k4;exact Subs.of_eq rfl;exact .cons rfl rfl (Subs.of_eq rfl) .nil;exact rfl;exact rfl;exact rfl;exact rfl)|(apply s_callFnW [] (f:=36) (avs:= [aS wUPDATE]) (caps:= [.ptr 1 0]) (bxi:= [(1,rowB l)]);exact rfl;exact hG;exact rfl;exact k5;exact Subs.of_eq rfl;exact .cons rfl rfl (Subs.of_eq rfl) .nil;exact rfl;exact rfl;exact rfl;exact rfl)|(apply s_callFnW [] (f:=36) (avs:= [aS wSELECT]) (caps:= [.ptr 1 0]) (bxi:= [(1,rowB l)]);exact rfl;exact hG;exact rfl;exact k6;exact Subs.of_eq rfl;exact .cons rfl rfl (Subs.of_eq rfl) .nil;exact rfl;exact rfl;exact rfl;exact rfl)|(refine LW.is ?_;first|(apply s_vr;exact rfl;apply v_sliceVh;exact rfl;exact rfl;exact lenS1 _;omega;exact b1;exact s1))|(refine DR.is ?_;first|(apply d_vr;exact rfl;apply v_sliceVh;exact rfl;exact rfl;exact lenS1 _;omega;exact b1;exact s1))|refine wk1 ?_|refine wk2 (fun hb hp=> ?_) (fun hb hp=> ?_)|fail))
       unfold LW
       refine hK _ (q.take (q.length - 2),(numR (q.getD (q.length - 1) [])).2,(numR (q.getD (q.length - 1) [])).1) ⟨hI,t2.take _,by rw[List.length_take];omega⟩ ?_
       (refine Wk.mk' (keys_all rfl) ?_ ?_ ?_<;>repeat' (first|exact WkF.nil|exact WkB.nil|exact WkT.nil|exact Subs.nil|(refine WkF.cons rfl (Sub.refl _) ?_)|(refine WkF.cons rfl (Sub.pub _) ?_)|(refine WkF.cons rfl (Sub.of_eq rfl) ?_)|(refine WkF.cons rfl (Sub.of_eq (congrArg aB (by simp))) ?_)|(refine WkB.cons rfl rfl (Subs.refl _) ?_)|(refine WkB.cons rfl rfl ?_ ?_)|(refine Subs.cons (Sub.refl _) ?_)|(refine Subs.cons Sub.nils ?_)|(refine Subs.cons (Sub.pub _) ?_)|(refine WkT.cons rfl ?_)))
     · have e:dcLim q=(q,-1,true):=by unfold dcLim;rw[if_neg (fun k=>h2 k.2)]
       have hI:=dcSel_eq q
       rw[e] at hI
       have q2:(q.getD (q.length - 2) [] == [108,105,109,105,116])=false:=beqF h2
       (repeat' (first|(apply s_callFnW [] (f:=36) (avs:= [aS (wCREATE++32::wTABLE)]) (caps:= [.ptr 1 0]) (bxi:= [(1,rowB l)]);exact rfl;exact hG;exact rfl;exact k0;exact Subs.of_eq rfl;exact .cons rfl rfl (Subs.of_eq rfl) .nil;exact rfl;exact rfl;exact rfl;exact rfl)|(apply s_callFnW [] (f:=36) (avs:= [aS (wCREATE++32::wINDEX)]) (caps:= [.ptr 1 0]) (bxi:= [(1,rowB l)]);exact rfl;exact hG;exact rfl;exact k1;exact Subs.of_eq rfl;exact .cons rfl rfl (Subs.of_eq rfl) .nil;exact rfl;exact rfl;exact rfl;exact rfl)|(apply s_callFnW [] (f:=36) (avs:= [aS (wDROP++32::wTABLE)]) (caps:= [.ptr 1 0]) (bxi:= [(1,rowB l)]);exact rfl;exact hG;exact rfl;exact k2;exact Subs.of_eq rfl;exact .cons rfl rfl (Subs.of_eq rfl) .nil;exact rfl;exact rfl;exact rfl;exact rfl)|(apply s_callFnW [] (f:=36) (avs:= [aS (wINSERT++32::wINTO)]) (caps:= [.ptr 1 0]) (bxi:= [(1,rowB l)]);exact rfl;exact hG;exact rfl;exact k3;exact Subs.of_eq rfl;exact .cons rfl rfl (Subs.of_eq rfl) .nil;exact rfl;exact rfl;exact rfl;exact rfl)|(apply s_callFnW [] (f:=36) (avs:= [aS (wDELETE++32::wFROM)]) (caps:= [.ptr 1 0]) (bxi:= [(1,rowB l)]);exact rfl;exact hG;exact rfl;exact k4;exact Subs.of_eq rfl;exact .cons rfl rfl (Subs.of_eq rfl) .nil;exact rfl;exact rfl;exact rfl;exact rfl)|(apply s_callFnW [] (f:=36) (avs:= [aS wUPDATE]) (caps:= [.ptr 1 0]) (bxi:= [(1,rowB l)]);exact rfl;exact hG;exact rfl;exact k5;exact Subs.of_eq rfl;exact .cons rfl rfl (Subs.of_eq rfl) .nil;exact rfl;exact rfl;exact rfl;exact rfl)|(apply s_callFnW [] (f:=36) (avs:= [aS wSELECT]) (caps:= [.ptr 1 0]) (bxi:= [(1,rowB l)]);exact rfl;exact hG;exact rfl;exact k6;exact Subs.of_eq rfl;exact .cons rfl rfl (Subs.of_eq rfl) .nil;exact rfl;exact rfl;exact rfl;exact rfl)|refine wk1 ?_|refine wk2 (fun hb hp=> ?_) (fun hb hp=> ?_)|fail))
       unfold LW
       refine hK _ (q,true,-1) ⟨hI,t2,hl2⟩ ?_
       (refine Wk.mk' (keys_all rfl) ?_ ?_ ?_<;>repeat' (first|exact WkF.nil|exact WkB.nil|exact WkT.nil|exact Subs.nil|(refine WkF.cons rfl (Sub.refl _) ?_)|(refine WkF.cons rfl (Sub.pub _) ?_)|(refine WkF.cons rfl (Sub.of_eq rfl) ?_)|(refine WkF.cons rfl (Sub.of_eq (congrArg aB (by simp))) ?_)|(refine WkB.cons rfl rfl (Subs.refl _) ?_)|(refine WkB.cons rfl rfl ?_ ?_)|(refine Subs.cons (Sub.refl _) ?_)|(refine Subs.cons Sub.nils ?_)|(refine Subs.cons (Sub.pub _) ?_)|(refine WkT.cons rfl ?_)))
   · have e:dcLim q=(q,-1,true):=by unfold dcLim;rw[if_neg (fun k=>h1 k.1)]
     have hI:=dcSel_eq q
     rw[e] at hI
     have q1:decide (1<((q.map Str.c).length:Int))=false:=decide_eq_false (by rw[em];omega)
     (repeat' (first|(apply s_callFnW [] (f:=36) (avs:= [aS (wCREATE++32::wTABLE)]) (caps:= [.ptr 1 0]) (bxi:= [(1,rowB l)]);exact rfl;exact hG;exact rfl;exact k0;exact Subs.of_eq rfl;exact .cons rfl rfl (Subs.of_eq rfl) .nil;exact rfl;exact rfl;exact rfl;exact rfl)|(apply s_callFnW [] (f:=36) (avs:= [aS (wCREATE++32::wINDEX)]) (caps:= [.ptr 1 0]) (bxi:= [(1,rowB l)]);exact rfl;exact hG;exact rfl;exact k1;exact Subs.of_eq rfl;exact .cons rfl rfl (Subs.of_eq rfl) .nil;exact rfl;exact rfl;exact rfl;exact rfl)|(apply s_callFnW [] (f:=36) (avs:= [aS (wDROP++32::wTABLE)]) (caps:= [.ptr 1 0]) (bxi:= [(1,rowB l)]);exact rfl;exact hG;exact rfl;exact k2;exact Subs.of_eq rfl;exact .cons rfl rfl (Subs.of_eq rfl) .nil;exact rfl;exact rfl;exact rfl;exact rfl)|(apply s_callFnW [] (f:=36) (avs:= [aS (wINSERT++32::wINTO)]) (caps:= [.ptr 1 0]) (bxi:= [(1,rowB l)]);exact rfl;exact hG;exact rfl;exact k3;exact Subs.of_eq rfl;exact .cons rfl rfl (Subs.of_eq rfl) .nil;exact rfl;exact rfl;exact rfl;exact rfl)|(apply s_callFnW [] (f:=36) (avs:= [aS (wDELETE++32::wFROM)]) (caps:= [.ptr 1 0]) (bxi:= [(1,rowB l)]);exact rfl;exact hG;exact rfl;exact k4;exact Subs.of_eq rfl;exact .cons rfl rfl (Subs.of_eq rfl) .nil;exact rfl;exact rfl;exact rfl;exact rfl)|(apply s_callFnW [] (f:=36) (avs:= [aS wUPDATE]) (caps:= [.ptr 1 0]) (bxi:= [(1,rowB l)]);exact rfl;exact hG;exact rfl;exact k5;exact Subs.of_eq rfl;exact .cons rfl rfl (Subs.of_eq rfl) .nil;exact rfl;exact rfl;exact rfl;exact rfl)|(apply s_callFnW [] (f:=36) (avs:= [aS wSELECT]) (caps:= [.ptr 1 0]) (bxi:= [(1,rowB l)]);exact rfl;exact hG;exact rfl;exact k6;exact Subs.of_eq rfl;exact .cons rfl rfl (Subs.of_eq rfl) .nil;exact rfl;exact rfl;exact rfl;exact rfl)|refine wk1 ?_|refine wk2 (fun hb hp=> ?_) (fun hb hp=> ?_)|fail))
     unfold LW
     refine hK _ (q,true,-1) ⟨hI,t2,hl2⟩ ?_
     (refine Wk.mk' (keys_all rfl) ?_ ?_ ?_<;>repeat' (first|exact WkF.nil|exact WkB.nil|exact WkT.nil|exact Subs.nil|(refine WkF.cons rfl (Sub.refl _) ?_)|(refine WkF.cons rfl (Sub.pub _) ?_)|(refine WkF.cons rfl (Sub.of_eq rfl) ?_)|(refine WkF.cons rfl (Sub.of_eq (congrArg aB (by simp))) ?_)|(refine WkB.cons rfl rfl (Subs.refl _) ?_)|(refine WkB.cons rfl rfl ?_ ?_)|(refine Subs.cons (Sub.refl _) ?_)|(refine Subs.cons Sub.nils ?_)|(refine Subs.cons (Sub.pub _) ?_)|(refine WkT.cons rfl ?_)))
 clear k0 k1 k2 k3 k4 k5 k6 em
 rintro ⟨a1,ok,n⟩ ⟨hI,ta,la⟩
 dsimp only at hI ta la⊢
 rw[hI]
 clear hI hq hl2 t2
 have kc:=cut_any a1 [wORDER] la (by simp)
 apply LW.cutJ (ι:=List Str×Bool×List (List IV)×Bool) (fun i=>⟨[(463,.fn 39 [.ptr 1 0,.ptr 4 0]),(1,.ptr 1 0),(2,.ptr 2 0),(4,.ptr 4 0),(7,aB i.2.1)],[(1,rowB i.1),(2,⟨39,.l [aI 0,aS [],aS [],aS [],.nils,.nils,.nils,.nils,.nils,aI 0,aI 0,aI 0,aS [],aS [],aS [],aI 0,.nils,.nils,aB false,aI 0]⟩),(4,⟨39,.l [aI 7,aS [],aS [],aS [],.nils,.nils,.nils,.nils,.nils,aI 0,aI 0,aI 0,aS [],aS [],aS [],aI 0,.nils,.iv (.sl i.2.2.1),aB i.2.2.2,aI n]⟩)],[]⟩) (fun i=>(∃od:List Ex×Bool,selT a1 ok n=selF i.1 i.2.1 od n∧i.2.2.1=od.1.map Ex.c∧i.2.2.2=od.2)∧TokA i.1∧i.1.length≤1000000)
 · intro hK
   cases e:cutM a1 [wORDER] with
   |none=>
    have e1:dcOrd a1=some (a1,([],false),true):=by unfold dcOrd;rw[e]
    have ec:cutR a1 [wORDER] =(a1,[],-1):=by unfold cutR;rw[e]
    have eI:selT a1 ok n=selF a1 ok ([],false) n:=by unfold selT;rw[e1];dsimp only;rw[Bool.and_true]
    rw[ec] at kc
    dsimp only at kc
    (repeat' (first|refine wk1 ?_|refine wk2 (fun hb hp=> ?_) (fun hb hp=> ?_)|fail))
    unfold LW
    refine hK _ (a1,ok,[],false) ⟨⟨([],false),eI,rfl,rfl⟩,ta,la⟩ ?_
    (refine Wk.mk' (keys_all rfl) ?_ ?_ ?_<;>repeat' (first|exact WkF.nil|exact WkB.nil|exact WkT.nil|exact Subs.nil|(refine WkF.cons rfl (Sub.refl _) ?_)|(refine WkF.cons rfl (Sub.pub _) ?_)|(refine WkF.cons rfl (Sub.of_eq rfl) ?_)|(refine WkF.cons rfl (Sub.of_eq (congrArg aB (by simp))) ?_)|(refine WkB.cons rfl rfl (Subs.refl _) ?_)|(refine WkB.cons rfl rfl ?_ ?_)|(refine Subs.cons (Sub.refl _) ?_)|(refine Subs.cons Sub.nils ?_)|(refine Subs.cons (Sub.pub _) ?_)|(refine WkT.cons rfl ?_)))
   |some p=>
    have hJ:=hK
    clear hK
    have ec:cutR a1 [wORDER] =(a1.take p.1,a1.drop (p.1+1),(p.2:Int)):=by unfold cutR;rw[e]
    have eO:dcOrd a1=if(dcBy (a1.drop (p.1+1))).1≠ [] ∧(dcBy (a1.drop (p.1+1))).1.headD [] =wBY then
     some (a1.take p.1,([(refO ((dcBy (a1.drop (p.1+1))).1.drop 1) 6).1],(dcBy (a1.drop (p.1+1))).2),(refO ((dcBy (a1.drop (p.1+1))).1.drop 1) 6).2) else none:=by unfold dcOrd;rw[e]
    rw[ec] at kc
    dsimp only at kc
    have q0:decide ((0:Int)≤(p.2:Int))=true:=decide_eq_true (by omega)
    have tb:=ta.drop (p.1+1)
    have lb:(a1.drop (p.1+1)).length≤1000000:=by rw[List.length_drop];omega
    have tt:=ta.take p.1
    have lt:(a1.take p.1).length≤1000000:=by rw[List.length_take];omega
    have em:((a1.drop (p.1+1)).map Str.c).length=(a1.drop (p.1+1)).length:=List.length_map _
    by_cases hb0:a1.drop (p.1+1)= []
    · have ed:dcBy (a1.drop (p.1+1))=([],false):=by rw[hb0];rfl
      have eI:selT a1 ok n=none:=by unfold selT;rw[eO,if_neg (fun k=>k.1 (by rw[ed]))]
      rw[hb0] at kc
      (repeat' (first|refine wk1 ?_|refine wk2 (fun hb hp=> ?_) (fun hb hp=> ?_)|fail))
      rw[eI]
      (apply L.ends;exact rfl;exact rfl;exact Sub.tup (.cons (Sub.agg anyS) (.cons (Sub.of_eq rfl) .nil));exact Wk.mk' (by intro id h;cases h) .nil .nil .nil)
    have hlp:=List.length_pos_iff.2 hb0
    have q1:decide (0<(((a1.drop (p.1+1)).map Str.c).length:Int))=true:=decide_eq_true (by rw[em];omega)
    have g1:((a1.drop (p.1+1)).map Str.c)[((((a1.drop (p.1+1)).map Str.c).length:Int) - 1).toNat]?=some [S ((a1.drop (p.1+1)).getD ((a1.drop (p.1+1)).length - 1) [])]:=at_nat (i:=(a1.drop (p.1+1)).length - 1) (getE (by omega)) (by rw[em];omega)
    by_cases hd:(a1.drop (p.1+1)).getD ((a1.drop (p.1+1)).length - 1) [] =wDESC
    · have ed:dcBy (a1.drop (p.1+1))=((a1.drop (p.1+1)).take ((a1.drop (p.1+1)).length - 1),true):=by unfold dcBy;rw[if_pos ⟨hlp,hd⟩]
      rw[hd] at g1
      rw[ed] at eO
      dsimp only at eO
      have b1:((((a1.drop (p.1+1)).map Str.c).length:Int) - 1)≤(((a1.drop (p.1+1)).map Str.c).length:Int):=by omega
      have s1:((a1.drop (p.1+1)).map Str.c).take ((((a1.drop (p.1+1)).map Str.c).length:Int) - 1).toNat=((a1.drop (p.1+1)).take ((a1.drop (p.1+1)).length - 1)).map Str.c:=by rw[show((((a1.drop (p.1+1)).map Str.c).length:Int) - 1).toNat=(a1.drop (p.1+1)).length - 1 by rw[em];omega,List.map_take]
      have ty:=tb.take ((a1.drop (p.1+1)).length - 1)
      have ly:((a1.drop (p.1+1)).take ((a1.drop (p.1+1)).length - 1)).length≤1000000:=by rw[List.length_take];omega
      have el:(((a1.drop (p.1+1)).take ((a1.drop (p.1+1)).length - 1)).map Str.c).length=((a1.drop (p.1+1)).take ((a1.drop (p.1+1)).length - 1)).length:=List.length_map _
      by_cases hy0:(a1.drop (p.1+1)).take ((a1.drop (p.1+1)).length - 1)= []
      · have eI:selT a1 ok n=none:=by unfold selT;rw[eO,if_neg (fun k=>k.1 hy0)]
        have q3:(((((a1.drop (p.1+1)).take ((a1.drop (p.1+1)).length - 1)).map Str.c).length:Int)==0)=true:=by rw[hy0];rfl
        (repeat' (first|(refine LW.is ?_;first|(apply s_vr;exact rfl;apply v_sliceVh;exact rfl;exact rfl;exact lenS1 _;omega;exact b1;exact s1))|(refine DR.is ?_;first|(apply d_vr;exact rfl;apply v_sliceVh;exact rfl;exact rfl;exact lenS1 _;omega;exact b1;exact s1))|refine wk1 ?_|refine wk2 (fun hb hp=> ?_) (fun hb hp=> ?_)|fail))
        rw[eI]
        (apply L.ends;exact rfl;exact rfl;exact Sub.tup (.cons (Sub.agg anyS) (.cons (Sub.of_eq rfl) .nil));exact Wk.mk' (by intro id h;cases h) .nil .nil .nil)
      have hly:=List.length_pos_iff.2 hy0
      have q3:(((((a1.drop (p.1+1)).take ((a1.drop (p.1+1)).length - 1)).map Str.c).length:Int)==0)=false:=beqF (by rw[el];omega)
      have g0:(((a1.drop (p.1+1)).take ((a1.drop (p.1+1)).length - 1)).map Str.c)[(0:Int).toNat]?=some [S (((a1.drop (p.1+1)).take ((a1.drop (p.1+1)).length - 1)).headD [])]:=at_nat (get0 hly) rfl
      by_cases hby:((a1.drop (p.1+1)).take ((a1.drop (p.1+1)).length - 1)).headD [] =wBY
      · rw[if_pos ⟨hy0,hby⟩] at eO
        rw[hby] at g0
        have eI:selT a1 ok n=selF (a1.take p.1) (ok && (refO (((a1.drop (p.1+1)).take ((a1.drop (p.1+1)).length - 1)).drop 1) 6).2) ([(refO (((a1.drop (p.1+1)).take ((a1.drop (p.1+1)).length - 1)).drop 1) 6).1],true) n:=by unfold selT;rw[eO]
        have ke:=expr_rc m hgm (k:=6) (ty.drop 1) (by rw[List.length_drop];omega) (by decide)
        unfold RC at ke
        have b3:(1:Int)≤((((a1.drop (p.1+1)).take ((a1.drop (p.1+1)).length - 1)).map Str.c).length:Int):=by rw[el];omega
        have s3:(((a1.drop (p.1+1)).take ((a1.drop (p.1+1)).length - 1)).map Str.c).drop (1:Int).toNat=(((a1.drop (p.1+1)).take ((a1.drop (p.1+1)).length - 1)).drop 1).map Str.c:=List.map_drop.symm
        have eR: [(refO (((a1.drop (p.1+1)).take ((a1.drop (p.1+1)).length - 1)).drop 1) 6).1.cs] = [(refO (((a1.drop (p.1+1)).take ((a1.drop (p.1+1)).length - 1)).drop 1) 6).1].map Ex.c:=by rw[List.map_cons,List.map_nil,Ex.c_cs]
        cases ok with
        |true=>
         (repeat' (first|(refine LW.is ?_;first|(apply s_vr;exact rfl;apply v_sliceVh;exact rfl;exact rfl;exact lenS1 _;omega;exact b1;exact s1)|(apply s_vr;exact rfl;apply v_sliceVl;exact rfl;exact rfl;exact lenS1 _;omega;exact b3;exact s3))|(refine DR.is ?_;first|(apply d_vr;exact rfl;apply v_sliceVh;exact rfl;exact rfl;exact lenS1 _;omega;exact b1;exact s1)|(apply d_vr;exact rfl;apply v_sliceVl;exact rfl;exact rfl;exact lenS1 _;omega;exact b3;exact s3))|refine wk1 ?_|refine wk2 (fun hb hp=> ?_) (fun hb hp=> ?_)|fail))
         unfold LW
         refine hJ _ (a1.take p.1,(refO (((a1.drop (p.1+1)).take ((a1.drop (p.1+1)).length - 1)).drop 1) 6).2,[(refO (((a1.drop (p.1+1)).take ((a1.drop (p.1+1)).length - 1)).drop 1) 6).1.cs],true) ⟨⟨_,eI,eR,rfl⟩,tt,lt⟩ ?_
         (refine Wk.mk' (keys_all rfl) ?_ ?_ ?_<;>repeat' (first|exact WkF.nil|exact WkB.nil|exact WkT.nil|exact Subs.nil|(refine WkF.cons rfl (Sub.refl _) ?_)|(refine WkF.cons rfl (Sub.pub _) ?_)|(refine WkF.cons rfl (Sub.of_eq rfl) ?_)|(refine WkF.cons rfl (Sub.of_eq (congrArg aB (by simp))) ?_)|(refine WkB.cons rfl rfl (Subs.refl _) ?_)|(refine WkB.cons rfl rfl ?_ ?_)|(refine Subs.cons (Sub.refl _) ?_)|(refine Subs.cons Sub.nils ?_)|(refine Subs.cons (Sub.pub _) ?_)|(refine WkT.cons rfl ?_)))
        |false=>
         (repeat' (first|(refine LW.is ?_;first|(apply s_vr;exact rfl;apply v_sliceVh;exact rfl;exact rfl;exact lenS1 _;omega;exact b1;exact s1)|(apply s_vr;exact rfl;apply v_sliceVl;exact rfl;exact rfl;exact lenS1 _;omega;exact b3;exact s3))|(refine DR.is ?_;first|(apply d_vr;exact rfl;apply v_sliceVh;exact rfl;exact rfl;exact lenS1 _;omega;exact b1;exact s1)|(apply d_vr;exact rfl;apply v_sliceVl;exact rfl;exact rfl;exact lenS1 _;omega;exact b3;exact s3))|refine wk1 ?_|refine wk2 (fun hb hp=> ?_) (fun hb hp=> ?_)|fail))
         unfold LW
         refine hJ _ (a1.take p.1,false,[(refO (((a1.drop (p.1+1)).take ((a1.drop (p.1+1)).length - 1)).drop 1) 6).1.cs],true) ⟨⟨_,eI,eR,rfl⟩,tt,lt⟩ ?_
         (refine Wk.mk' (keys_all rfl) ?_ ?_ ?_<;>repeat' (first|exact WkF.nil|exact WkB.nil|exact WkT.nil|exact Subs.nil|(refine WkF.cons rfl (Sub.refl _) ?_)|(refine WkF.cons rfl (Sub.pub _) ?_)|(refine WkF.cons rfl (Sub.of_eq rfl) ?_)|(refine WkF.cons rfl (Sub.of_eq (congrArg aB (by simp))) ?_)|(refine WkB.cons rfl rfl (Subs.refl _) ?_)|(refine WkB.cons rfl rfl ?_ ?_)|(refine Subs.cons (Sub.refl _) ?_)|(refine Subs.cons Sub.nils ?_)|(refine Subs.cons (Sub.pub _) ?_)|(refine WkT.cons rfl ?_)))
      · rw[if_neg (fun k=>hby k.2)] at eO
        have eI:selT a1 ok n=none:=by unfold selT;rw[eO]
        have q4:(!(((a1.drop (p.1+1)).take ((a1.drop (p.1+1)).length - 1)).headD [] == [98,121]))=true:=by rw[show(((a1.drop (p.1+1)).take ((a1.drop (p.1+1)).length - 1)).headD [] == [98,121])=false from beqF hby];rfl
        (repeat' (first|(refine LW.is ?_;first|(apply s_vr;exact rfl;apply v_sliceVh;exact rfl;exact rfl;exact lenS1 _;omega;exact b1;exact s1))|(refine DR.is ?_;first|(apply d_vr;exact rfl;apply v_sliceVh;exact rfl;exact rfl;exact lenS1 _;omega;exact b1;exact s1))|refine wk1 ?_|refine wk2 (fun hb hp=> ?_) (fun hb hp=> ?_)|fail))
        rw[eI]
        (apply L.ends;exact rfl;exact rfl;exact Sub.tup (.cons (Sub.agg anyS) (.cons (Sub.of_eq rfl) .nil));exact Wk.mk' (by intro id h;cases h) .nil .nil .nil)
    · have ed:dcBy (a1.drop (p.1+1))=(a1.drop (p.1+1),false):=by unfold dcBy;rw[if_neg (fun k=>hd k.2)]
      rw[ed] at eO
      dsimp only at eO
      have q2:((a1.drop (p.1+1)).getD ((a1.drop (p.1+1)).length - 1) [] == [100,101,115,99])=false:=beqF hd
      have ty:=tb
      have ly:=lb
      have el:((a1.drop (p.1+1)).map Str.c).length=(a1.drop (p.1+1)).length:=List.length_map _
      by_cases hy0:a1.drop (p.1+1)= []
      · have eI:selT a1 ok n=none:=by unfold selT;rw[eO,if_neg (fun k=>k.1 hy0)]
        have q3:((((a1.drop (p.1+1)).map Str.c).length:Int)==0)=true:=by rw[hy0];rfl
        (repeat' (first|refine wk1 ?_|refine wk2 (fun hb hp=> ?_) (fun hb hp=> ?_)|fail))
        rw[eI]
        (apply L.ends;exact rfl;exact rfl;exact Sub.tup (.cons (Sub.agg anyS) (.cons (Sub.of_eq rfl) .nil));exact Wk.mk' (by intro id h;cases h) .nil .nil .nil)
      have hly:=List.length_pos_iff.2 hy0
      have q3:((((a1.drop (p.1+1)).map Str.c).length:Int)==0)=false:=beqF (by rw[el];omega)
      have g0:((a1.drop (p.1+1)).map Str.c)[(0:Int).toNat]?=some [S ((a1.drop (p.1+1)).headD [])]:=at_nat (get0 hly) rfl
      by_cases hby:(a1.drop (p.1+1)).headD [] =wBY
      · rw[if_pos ⟨hy0,hby⟩] at eO
        rw[hby] at g0
        have eI:selT a1 ok n=selF (a1.take p.1) (ok && (refO ((a1.drop (p.1+1)).drop 1) 6).2) ([(refO ((a1.drop (p.1+1)).drop 1) 6).1],false) n:=by unfold selT;rw[eO]
        have ke:=expr_rc m hgm (k:=6) (ty.drop 1) (by rw[List.length_drop];omega) (by decide)
        unfold RC at ke
        have b3:(1:Int)≤(((a1.drop (p.1+1)).map Str.c).length:Int):=by rw[el];omega
        have s3:((a1.drop (p.1+1)).map Str.c).drop (1:Int).toNat=((a1.drop (p.1+1)).drop 1).map Str.c:=List.map_drop.symm
        have eR: [(refO ((a1.drop (p.1+1)).drop 1) 6).1.cs] = [(refO ((a1.drop (p.1+1)).drop 1) 6).1].map Ex.c:=by rw[List.map_cons,List.map_nil,Ex.c_cs]
        cases ok with
        |true=>
         (repeat' (first|(refine LW.is ?_;first|(apply s_vr;exact rfl;apply v_sliceVl;exact rfl;exact rfl;exact lenS1 _;omega;exact b3;exact s3))|(refine DR.is ?_;first|(apply d_vr;exact rfl;apply v_sliceVl;exact rfl;exact rfl;exact lenS1 _;omega;exact b3;exact s3))|refine wk1 ?_|refine wk2 (fun hb hp=> ?_) (fun hb hp=> ?_)|fail))
         unfold LW
         refine hJ _ (a1.take p.1,(refO ((a1.drop (p.1+1)).drop 1) 6).2,[(refO ((a1.drop (p.1+1)).drop 1) 6).1.cs],false) ⟨⟨_,eI,eR,rfl⟩,tt,lt⟩ ?_
         (refine Wk.mk' (keys_all rfl) ?_ ?_ ?_<;>repeat' (first|exact WkF.nil|exact WkB.nil|exact WkT.nil|exact Subs.nil|(refine WkF.cons rfl (Sub.refl _) ?_)|(refine WkF.cons rfl (Sub.pub _) ?_)|(refine WkF.cons rfl (Sub.of_eq rfl) ?_)|(refine WkF.cons rfl (Sub.of_eq (congrArg aB (by simp))) ?_)|(refine WkB.cons rfl rfl (Subs.refl _) ?_)|(refine WkB.cons rfl rfl ?_ ?_)|(refine Subs.cons (Sub.refl _) ?_)|(refine Subs.cons Sub.nils ?_)|(refine Subs.cons (Sub.pub _) ?_)|(refine WkT.cons rfl ?_)))
        |false=>
         (repeat' (first|(refine LW.is ?_;first|(apply s_vr;exact rfl;apply v_sliceVl;exact rfl;exact rfl;exact lenS1 _;omega;exact b3;exact s3))|(refine DR.is ?_;first|(apply d_vr;exact rfl;apply v_sliceVl;exact rfl;exact rfl;exact lenS1 _;omega;exact b3;exact s3))|refine wk1 ?_|refine wk2 (fun hb hp=> ?_) (fun hb hp=> ?_)|fail))
         unfold LW
         refine hJ _ (a1.take p.1,false,[(refO ((a1.drop (p.1+1)).drop 1) 6).1.cs],false) ⟨⟨_,eI,eR,rfl⟩,tt,lt⟩ ?_
         (refine Wk.mk' (keys_all rfl) ?_ ?_ ?_<;>repeat' (first|exact WkF.nil|exact WkB.nil|exact WkT.nil|exact Subs.nil|(refine WkF.cons rfl (Sub.refl _) ?_)|(refine WkF.cons rfl (Sub.pub _) ?_)|(refine WkF.cons rfl (Sub.of_eq rfl) ?_)|(refine WkF.cons rfl (Sub.of_eq (congrArg aB (by simp))) ?_)|(refine WkB.cons rfl rfl (Subs.refl _) ?_)|(refine WkB.cons rfl rfl ?_ ?_)|(refine Subs.cons (Sub.refl _) ?_)|(refine Subs.cons Sub.nils ?_)|(refine Subs.cons (Sub.pub _) ?_)|(refine WkT.cons rfl ?_)))
      · rw[if_neg (fun k=>hby k.2)] at eO
        have eI:selT a1 ok n=none:=by unfold selT;rw[eO]
        have q4:(!((a1.drop (p.1+1)).headD [] == [98,121]))=true:=by rw[show((a1.drop (p.1+1)).headD [] == [98,121])=false from beqF hby];rfl
        (repeat' (first|refine wk1 ?_|refine wk2 (fun hb hp=> ?_) (fun hb hp=> ?_)|fail))
        rw[eI]
        (apply L.ends;exact rfl;exact rfl;exact Sub.tup (.cons (Sub.agg anyS) (.cons (Sub.of_eq rfl) .nil));exact Wk.mk' (by intro id h;cases h) .nil .nil .nil)
 clear kc
 rintro ⟨a2,ok0,oc,dn⟩ ⟨⟨od,hI,h1,h2⟩,ta2,la2⟩
 dsimp only at hI h1 h2 ta2 la2⊢
 have kw:=where2_at m hgm la2 ta2 7 (.sl oc) dn n
 obtain⟨t3,h3⟩:=dcWh_tok ta2
 obtain⟨⟨a3,x,bw⟩,hw⟩: ∃w,dcWh a2=w:=⟨_,rfl⟩
 have eS:selF a2 ok0 od n=selG a3 x (ok0 && bw) od n:=by unfold selF;rw[hw]
 rw[hw] at kw t3 h3
 dsimp only at kw t3 h3
 rw[hI,eS]
 clear hI ta la eS
 apply LW.cutJ (ι:=Bool) (fun i=>⟨[(469,.iv (.sl (a3.map Str.c))),(470,.iv (.sl ([wFROM].map Str.c))),(2,.ptr 2 0),(4,.ptr 4 0),(7,aB i)],[(2,⟨39,.l [aI 0,aS [],aS [],aS [],.nils,.nils,.nils,.nils,.nils,aI 0,aI 0,aI 0,aS [],aS [],aS [],aI 0,.nils,.nils,aB false,aI 0]⟩),(4,⟨39,.l [aI 7,aS [],aS [],aS [],.nils,.nils,.nils,.nils,.nils,aI x.op,aI x.v.k,aI x.v.n,aS x.v.s,aS x.s,aS x.name,aI x.n,.iv (.sl (x.l.map Ex.c)),.iv (.sl oc),aB dn,aI n]⟩)],[]⟩) (fun i=>i=(ok0 && bw))
 · intro hK
   by_cases hb:bw=true
   · have kw1:=kw
     rw[hb] at kw1
     (apply s_callFnW [] (f:=39) (avs:= []) (caps:= [.ptr 1 0,.ptr 4 0]) (bxi:= [(1,rowB a2),(4,⟨39,.l (sX 7 nilE (.sl oc) dn n)⟩)]);exact rfl;exact hG;exact rfl;exact kw1;exact Subs.of_eq rfl;exact .cons rfl rfl (Subs.of_eq rfl) (.cons rfl rfl (.cons (Sub.refl _) (.cons (Sub.refl _) (.cons (Sub.refl _) (.cons (Sub.refl _) (.cons (Sub.refl _) (.cons (Sub.refl _) (.cons (Sub.refl _) (.cons (Sub.refl _) (.cons (Sub.refl _) (.cons (Sub.refl _) (.cons (Sub.refl _) (.cons (Sub.refl _) (.cons (Sub.refl _) (.cons (Sub.refl _) (.cons (Sub.refl _) (.cons (Sub.refl _) (.cons Sub.nils (.cons (Sub.refl _) (.cons (Sub.refl _) (.cons (Sub.refl _) .nil)))))))))))))))))))) .nil);exact rfl;exact rfl;exact rfl;exact rfl)
     (repeat' (first|refine wk1 ?_|refine wk2 (fun hb hp=> ?_) (fun hb hp=> ?_)|fail))
     unfold LW
     refine hK _ ok0 (by rw[hb,Bool.and_true]) ?_
     (refine Wk.mk' (keys_all rfl) ?_ ?_ ?_<;>repeat' (first|exact WkF.nil|exact WkB.nil|exact WkT.nil|exact Subs.nil|(refine WkF.cons rfl (Sub.refl _) ?_)|(refine WkF.cons rfl (Sub.pub _) ?_)|(refine WkF.cons rfl (Sub.of_eq rfl) ?_)|(refine WkF.cons rfl (Sub.of_eq (congrArg aB (by simp))) ?_)|(refine WkB.cons rfl rfl (Subs.refl _) ?_)|(refine WkB.cons rfl rfl ?_ ?_)|(refine Subs.cons (Sub.refl _) ?_)|(refine Subs.cons Sub.nils ?_)|(refine Subs.cons (Sub.pub _) ?_)|(refine WkT.cons rfl ?_)))
   · have kw1:=kw
     rw[Bool.eq_false_iff.2 hb] at kw1
     (apply s_callFnW [] (f:=39) (avs:= []) (caps:= [.ptr 1 0,.ptr 4 0]) (bxi:= [(1,rowB a2),(4,⟨39,.l (sX 7 nilE (.sl oc) dn n)⟩)]);exact rfl;exact hG;exact rfl;exact kw1;exact Subs.of_eq rfl;exact .cons rfl rfl (Subs.of_eq rfl) (.cons rfl rfl (.cons (Sub.refl _) (.cons (Sub.refl _) (.cons (Sub.refl _) (.cons (Sub.refl _) (.cons (Sub.refl _) (.cons (Sub.refl _) (.cons (Sub.refl _) (.cons (Sub.refl _) (.cons (Sub.refl _) (.cons (Sub.refl _) (.cons (Sub.refl _) (.cons (Sub.refl _) (.cons (Sub.refl _) (.cons (Sub.refl _) (.cons (Sub.refl _) (.cons (Sub.refl _) (.cons Sub.nils (.cons (Sub.refl _) (.cons (Sub.refl _) (.cons (Sub.refl _) .nil)))))))))))))))))))) .nil);exact rfl;exact rfl;exact rfl;exact rfl)
     (repeat' (first|refine wk1 ?_|refine wk2 (fun hb hp=> ?_) (fun hb hp=> ?_)|fail))
     unfold LW
     refine hK _ false (by rw[Bool.eq_false_iff.2 hb,Bool.and_false]) ?_
     (refine Wk.mk' (keys_all rfl) ?_ ?_ ?_<;>repeat' (first|exact WkF.nil|exact WkB.nil|exact WkT.nil|exact Subs.nil|(refine WkF.cons rfl (Sub.refl _) ?_)|(refine WkF.cons rfl (Sub.pub _) ?_)|(refine WkF.cons rfl (Sub.of_eq rfl) ?_)|(refine WkF.cons rfl (Sub.of_eq (congrArg aB (by simp))) ?_)|(refine WkB.cons rfl rfl (Subs.refl _) ?_)|(refine WkB.cons rfl rfl ?_ ?_)|(refine Subs.cons (Sub.refl _) ?_)|(refine Subs.cons Sub.nils ?_)|(refine Subs.cons (Sub.pub _) ?_)|(refine WkT.cons rfl ?_)))
 clear kw
 rintro ok hok
 rw[←hok]
 clear hok
 refine LW.out ?_
 have kc:=cut_any a3 [wFROM] (by omega) (by simp)
 cases e:cutM a3 [wFROM] with
 |none=>
  have ec:cutR a3 [wFROM] =(a3,[],-1):=by unfold cutR;rw[e]
  have eS:selG a3 x ok od n=none:=by unfold selG;rw[e]
  rw[ec] at kc
  dsimp only at kc
  rw[eS]
  (repeat' (first|refine wk1 ?_|refine wk2 (fun hb hp=> ?_) (fun hb hp=> ?_)|fail))
  (apply L.ends;exact rfl;exact rfl;exact Sub.tup (.cons (Sub.agg anyS) (.cons (Sub.of_eq rfl) .nil));exact Wk.mk' (by intro id h;cases h) .nil .nil .nil)
 |some p=>
 have ec:cutR a3 [wFROM] =(a3.take p.1,a3.drop (p.1+1),(p.2:Int)):=by unfold cutR;rw[e]
 rw[ec] at kc
 dsimp only at kc
 have q0:decide ((p.2:Int)<0)=false:=decide_eq_false (by omega)
 have tf:=t3.drop (p.1+1)
 have lf:(a3.drop (p.1+1)).length≤1000000:=by rw[List.length_drop];omega
 have tao:=t3.take p.1
 have lao:(a3.take p.1).length≤1000000:=by rw[List.length_take];omega
 have eS:selG a3 x ok od n=selH (allM nmM (partsM (a3.drop (p.1+1)))) (a3.take p.1) x ok od n:=by unfold selG;rw[e];rfl
 obtain⟨a,ha⟩: ∃a,a3.take p.1=a:=⟨_,rfl⟩
 have kP:=parts_any (a3.drop (p.1+1)) lf
 have hpt:=parts_tok _ (Nat.le_refl _) tf
 have hpl:=parts_len _ (Nat.le_refl (a3.drop (p.1+1)).length)
 obtain⟨ps,hps⟩: ∃ps,partsM (a3.drop (p.1+1))=ps:=⟨_,rfl⟩
 rw[hps] at kP hpt hpl
 rw[ha] at kc tao lao
 rw[eS,ha,hps]
 clear eS ha hps
 have ep:(ps.map Ws.c).length=ps.length:=List.length_map _
 (repeat' (first|refine wk1 ?_|refine wk2 (fun hb hp=> ?_) (fun hb hp=> ?_)|fail))
 refine L.adoptB 4 904 9 1 rfl (by simp) rfl rfl (.cons .same (.cons .same (.cons .same (.cons .same (.cons .same (.cons .same (.cons .same (.cons .here (.cons .same (.cons .same (.cons .same (.cons .same (.cons .same (.cons .same (.cons .same (.cons .same (.cons .same (.cons .same (.cons .same (.cons .same .nil)))))))))))))))))))) ?_
 refine L.loopP (ι:=Nat×List Str) (fun i=>⟨[(481,aI (i.1:Int)),(480,aI ((ps.map Ws.c).length:Int)),(479,.iv (.sl (ps.map Ws.c))),(30,.iv (.sl (a.map Str.c))),(2,.ptr 2 0),(4,.ptr 4 0),(7,aB ok)],[(2,⟨39,.l [aI 0,aS [],aS [],aS [],.nils,.nils,.nils,.nils,.nils,aI 0,aI 0,aI 0,aS [],aS [],aS [],aI 0,.nils,.nils,aB false,aI 0]⟩),(4,⟨39,.l [aI 7,aS [],aS [],aS [],.nils,.nils,.nils,.row 904 (i.2.map Str.c),.nils,aI x.op,aI x.v.k,aI x.v.n,aS x.v.s,aS x.s,aS x.name,aI x.n,.iv (.sl (x.l.map Ex.c)),.iv (.sl oc),aB dn,aI n]⟩)],[(904,⟨9,1⟩)]⟩) (fun i=>ps.length - i.1) (fun i=>allM nmM (ps.take i.1)=some i.2) (i0:=(0,[])) ?_ rfl ?_
 · (refine Wk.mk' (keys_all rfl) ?_ ?_ ?_<;>repeat' (first|exact WkF.nil|exact WkB.nil|exact WkT.nil|exact Subs.nil|(refine WkF.cons rfl (Sub.refl _) ?_)|(refine WkF.cons rfl (Sub.pub _) ?_)|(refine WkF.cons rfl (Sub.of_eq rfl) ?_)|(refine WkF.cons rfl (Sub.of_eq (congrArg aB (by simp))) ?_)|(refine WkB.cons rfl rfl (Subs.refl _) ?_)|(refine WkB.cons rfl rfl ?_ ?_)|(refine Subs.cons (Sub.refl _) ?_)|(refine Subs.cons Sub.nils ?_)|(refine Subs.cons (Sub.pub _) ?_)|(refine WkT.cons rfl ?_)))
 clear kc kP q0 ec
 rintro ⟨i,fl⟩ hI K hK
 dsimp only at hI hK⊢
 cases hx:ps[i]? with
 |none=>
  have hlt:=ltF (l:=ps.map Ws.c) (getFN hx)
  rw[List.take_of_length_le (List.getElem?_eq_none_iff.1 hx)] at hI
  clear hK hpt hpl
  by_cases ea:a= [[42]]
  · have eS:selH (allM nmM ps) a x ok od n=if ok=true then some {stm0 with kind:=7,out:= [],frm:=fl,wh:=x,ord:=od.1,down:=od.2,n:=n} else none:=by
     rw[hI];unfold selH;rw[show dcOut a=some [] by unfold dcOut;rw[if_pos ea]];rfl
    rw[eS]
    clear hI eS
    subst ea
    have g0:(([[42]]:List Str).map Str.c)[(0:Int).toNat]?=some [S [42]]:=rfl
    have q1:(((([[42]]:List Str).map Str.c).length:Int)==1)=true:=rfl
    have q2:(([42]:Str)== [42])=true:=rfl
    cases ok with
    |true=>
     rw[if_pos rfl]
     (repeat' (first|refine wk1 ?_|refine wk2 (fun hb hp=> ?_) (fun hb hp=> ?_)|fail))
     all_goals refine wkf ?_
     all_goals(subst h1;subst h2;rfl)
    |false=>
     rw[if_neg Bool.false_ne_true]
     (repeat' (first|refine wk1 ?_|refine wk2 (fun hb hp=> ?_) (fun hb hp=> ?_)|fail))
     (apply L.ends;exact rfl;exact rfl;exact Sub.tup (.cons (Sub.agg anyS) (.cons (Sub.of_eq rfl) .nil));exact Wk.mk' (by intro id h;cases h) .nil .nil .nil)
  have eS:selH (allM nmM ps) a x ok od n=selK (allM exM (partsM a)) fl x ok od n:=by
   rw[hI];unfold selH;rw[show dcOut a=allM exM (partsM a) by unfold dcOut;rw[if_neg ea];rfl]
  rw[eS]
  clear hI eS
  apply L.cutJ (ι:=Unit) (fun _=>⟨[(516,.iv (.sl (a.map Str.c))),(2,.ptr 2 0),(4,.ptr 4 0),(7,aB ok)],[(2,⟨39,.l [aI 0,aS [],aS [],aS [],.nils,.nils,.nils,.nils,.nils,aI 0,aI 0,aI 0,aS [],aS [],aS [],aI 0,.nils,.nils,aB false,aI 0]⟩),(4,⟨39,.l [aI 7,aS [],aS [],aS [],.nils,.nils,.nils,.iv (.sl (fl.map Str.c)),.nils,aI x.op,aI x.v.k,aI x.v.n,aS x.v.s,aS x.s,aS x.name,aI x.n,.iv (.sl (x.l.map Ex.c)),.iv (.sl oc),aB dn,aI n]⟩)],[]⟩) (fun _=>True)
  · intro hK
    by_cases l1: ¬a.length=1
    · have q1:(((a.map Str.c).length:Int)==1)=false:=beqF (by rw[List.length_map];omega)
      (repeat' (first|refine wk1 ?_|refine wk2 (fun hb hp=> ?_) (fun hb hp=> ?_)|fail))
      unfold LW
      refine hK _ () trivial ?_
      (refine Wk.mk' (keys_all rfl) ?_ ?_ ?_<;>repeat' (first|exact WkF.nil|exact WkB.nil|exact WkT.nil|exact Subs.nil|(refine WkF.cons rfl (Sub.refl _) ?_)|(refine WkF.cons rfl (Sub.pub _) ?_)|(refine WkF.cons rfl (Sub.of_eq rfl) ?_)|(refine WkF.cons rfl (Sub.of_eq (congrArg aB (by simp))) ?_)|(refine WkB.cons rfl rfl (Subs.refl _) ?_)|(refine WkB.cons rfl rfl ?_ ?_)|(refine Subs.cons (Sub.refl _) ?_)|(refine Subs.cons Sub.nils ?_)|(refine Subs.cons (Sub.pub _) ?_)|(refine WkT.cons rfl ?_)))
    · replace l1:a.length=1:=Decidable.not_not.1 l1
      match a,l1,ea with
      | [w],_,ea=>
        have g0:([w].map Str.c)[(0:Int).toNat]?=some [S w]:=rfl
        have q2:(w== [42])=false:=beqF (fun h=>ea (by rw[h]))
        (repeat' (first|refine wk1 ?_|refine wk2 (fun hb hp=> ?_) (fun hb hp=> ?_)|fail))
        unfold LW
        refine hK _ () trivial ?_
        (refine Wk.mk' (keys_all rfl) ?_ ?_ ?_<;>repeat' (first|exact WkF.nil|exact WkB.nil|exact WkT.nil|exact Subs.nil|(refine WkF.cons rfl (Sub.refl _) ?_)|(refine WkF.cons rfl (Sub.pub _) ?_)|(refine WkF.cons rfl (Sub.of_eq rfl) ?_)|(refine WkF.cons rfl (Sub.of_eq (congrArg aB (by simp))) ?_)|(refine WkB.cons rfl rfl (Subs.refl _) ?_)|(refine WkB.cons rfl rfl ?_ ?_)|(refine Subs.cons (Sub.refl _) ?_)|(refine Subs.cons Sub.nils ?_)|(refine Subs.cons (Sub.pub _) ?_)|(refine WkT.cons rfl ?_)))
  rintro _ _
  have kP:=parts_any a lao
  have hpt:=parts_tok _ (Nat.le_refl _) tao
  have hpl:=parts_len _ (Nat.le_refl a.length)
  have hpn:=parts_ne a
  obtain⟨qs,hqs⟩: ∃qs,partsM a=qs:=⟨_,rfl⟩
  rw[hqs] at kP hpt hpl hpn
  rw[hqs]
  clear hqs
  have eq:(qs.map Ws.c).length=qs.length:=List.length_map _
  clear hx hlt
  refine LW.out ?_
  (repeat' (first|refine wk1 ?_|refine wk2 (fun hb hp=> ?_) (fun hb hp=> ?_)|fail))
  refine L.loopP (ι:=Nat) (fun j=>⟨[(519,aI (j:Int)),(518,aI ((qs.map Ws.c).length:Int)),(517,.iv (.sl (qs.map Ws.c))),(2,.ptr 2 0),(4,.ptr 4 0),(7,aB (ok && (qs.take j).all exB))],outBx 37 (fun v=> [(2,⟨39,.l [aI 0,aS [],aS [],aS [],.nils,.nils,.nils,.nils,.nils,aI 0,aI 0,aI 0,aS [],aS [],aS [],aI 0,.nils,.nils,aB false,aI 0]⟩),(4,⟨39,.l [aI 7,aS [],aS [],aS [],.nils,.nils,.nils,.iv (.sl (fl.map Str.c)),v,aI x.op,aI x.v.k,aI x.v.n,aS x.v.s,aS x.s,aS x.name,aI x.n,.iv (.sl (x.l.map Ex.c)),.iv (.sl oc),aB dn,aI n]⟩)]) ((qs.take j).map exV),[]⟩) (fun j=>qs.length - j) (fun _=>True) (i0:=0) ?_ trivial ?_
  · (refine Wk.mk' (keys_all rfl) ?_ ?_ ?_<;>repeat' (first|exact WkF.nil|exact WkB.nil|exact WkT.nil|exact Subs.nil|(refine WkF.cons rfl (Sub.refl _) ?_)|(refine WkF.cons rfl (Sub.pub _) ?_)|(refine WkF.cons rfl (Sub.of_eq rfl) ?_)|(refine WkF.cons rfl (Sub.of_eq (congrArg aB (by simp))) ?_)|(refine WkB.cons rfl rfl (Subs.refl _) ?_)|(refine WkB.cons rfl rfl ?_ ?_)|(refine Subs.cons (Sub.refl _) ?_)|(refine Subs.cons Sub.nils ?_)|(refine Subs.cons (Sub.pub _) ?_)|(refine WkT.cons rfl ?_)))
  clear kP
  intro j _ K hK
  cases hz:qs[j]? with
  |none=>
   have hlt:=ltF (l:=qs.map Ws.c) (getFN hz)
   rw[List.take_of_length_le (List.getElem?_eq_none_iff.1 hz)]
   have hne:qs.map exV≠ []:=by simpa using hpn
   clear hK hpt hpl
   obtain⟨es,hes⟩: ∃es,qs.map exV=es:=⟨_,rfl⟩
   have eS:selK (allM exM qs) fl x ok od n=if qs.all exB=true then(if ok=true then some {stm0 with kind:=7,out:=es,frm:=fl,wh:=x,ord:=od.1,down:=od.2,n:=n} else none) else none:=by
    rw[all_ex,hes]
    by_cases k:qs.all exB=true
    · rw[if_pos k,if_pos k];rfl
    · rw[if_neg k,if_neg k];rfl
   rw[eS]
   rw[hes] at hne
   rw[hes]
   clear eS hes
   cases es with
   |nil=>exact absurd rfl hne
   |cons y es=>
   refine L.pubB 905 4 (es:=(y::es).map Ex.c) (n:=(y::es).length) (k:=8) rfl rfl (lenE _) (by decide) (by simp) (List.length_map _) rfl (by simp) rfl (.cons .same (.cons .same (.cons .same (.cons .same (.cons .same (.cons .same (.cons .same (.cons .same (.cons .here (.cons .same (.cons .same (.cons .same (.cons .same (.cons .same (.cons .same (.cons .same (.cons .same (.cons .same (.cons .same (.cons .same (.nil))))))))))))))))))))) ?_
   cases ho:qs.all exB with
   |false=>
    rw[if_neg Bool.false_ne_true,Bool.and_false]
    (repeat' (first|refine wk1 ?_|refine wk2 (fun hb hp=> ?_) (fun hb hp=> ?_)|fail))
    (apply L.ends;exact rfl;exact rfl;exact Sub.tup (.cons (Sub.agg anyS) (.cons (Sub.of_eq rfl) .nil));exact Wk.mk' (by intro id h;cases h) .nil .nil .nil)
   |true=>
    rw[if_pos rfl,Bool.and_true]
    cases ok with
    |true=>
     rw[if_pos rfl]
     (repeat' (first|refine wk1 ?_|refine wk2 (fun hb hp=> ?_) (fun hb hp=> ?_)|fail))
     all_goals refine wkf ?_
     all_goals(subst h1;subst h2;rfl)
    |false=>
     rw[if_neg Bool.false_ne_true]
     (repeat' (first|refine wk1 ?_|refine wk2 (fun hb hp=> ?_) (fun hb hp=> ?_)|fail))
     (apply L.ends;exact rfl;exact rfl;exact Sub.tup (.cons (Sub.agg anyS) (.cons (Sub.of_eq rfl) .nil));exact Wk.mk' (by intro id h;cases h) .nil .nil .nil)
  |some z=>
   have hlt:=ltT (l:=qs.map Ws.c) (getF (f:=Ws.c) hz)
   have hlt2:=ltN hz
   have gx:=at_w hz
   obtain⟨tz,lz⟩:=hpt z (List.mem_of_getElem? hz)
   have ke:=expr_rc m hgm (k:=6) tz (by omega) (by decide)
   unfold RC at ke
   have n2:(ok && (qs.take (j+1)).all exB)=((ok && (qs.take j).all exB) && (refO z 6).2):=by rw[takeC hz,List.all_append,←Bool.and_assoc];simp[exB]
   have n1:(qs.take (j+1)).map exV=(qs.take j).map exV++ [(refO z 6).1]:=by rw[takeC hz,List.map_append];rfl
   have le:((qs.take j).map exV).length=j:=by rw[List.length_map,List.length_take];omega
   have hql:qs.length≤1000001:=by omega
   clear hpt
   generalize (ok && (qs.take j).all exB)=ok2 at*
   generalize (qs.take j).map exV=es at*
   generalize refO z 6=r at*
   obtain⟨y,b⟩:=r
   dsimp only at ke n1 n2
   cases es with
   |nil=>
    have he: [zeroEx].set 0 y.cs= [y].map Ex.c:=by rw[List.map_cons,Ex.c_cs];rfl
    dsimp only[outBx]
    cases ok2<;>(
     (repeat' (first|(refine LW.is ?_;first|(apply s_nilR 905 (news:= [zeroEx]);exact rfl;exact rfl;exact rfl;exact oneL rfl;exact List.cons_ne_nil _ _;exact(by simp[maxLen]);exact(by simp);exact rfl)|(apply s_vr;exact rfl;apply v_indexBsh (off':=0);exact rfl;exact rfl;exact(by decide);exact(by decide);exact rfl)|(apply s_storeR (es:= [zeroEx]) (i:=0) (e:=y.cs) (er:= [y].map Ex.c);exact rfl;exact rfl;exact rfl;exact rfl;exact rfl;exact rfl;exact oneL rfl;exact rfl;exact Nat.one_pos;exact he))|(refine DR.is ?_;first|(apply d_nilR 905 (news:= [zeroEx]);exact rfl;exact rfl;exact rfl;exact oneL rfl;exact List.cons_ne_nil _ _;exact(by simp[maxLen]);exact(by simp);exact rfl)|(apply d_vr;exact rfl;apply v_indexBsh (off':=0);exact rfl;exact rfl;exact(by decide);exact(by decide);exact rfl)|(apply d_storeR (es:= [zeroEx]) (i:=0) (e:=y.cs) (er:= [y].map Ex.c);exact rfl;exact rfl;exact rfl;exact rfl;exact rfl;exact rfl;exact oneL rfl;exact rfl;exact Nat.one_pos;exact he))|refine wk1 ?_|refine wk2 (fun hb hp=> ?_) (fun hb hp=> ?_)|fail))
     refine L.onlyS [519,518,517,2,4,7] [2,4,905] rfl ?_
     refine hK _ (j+1) trivial (by omega) ?_
     rw[n1,n2]
     (refine Wk.mk' (keys_all rfl) ?_ ?_ ?_<;>repeat' (first|exact WkF.nil|exact WkB.nil|exact WkT.nil|exact Subs.nil|(refine WkF.cons rfl (Sub.refl _) ?_)|(refine WkF.cons rfl (Sub.pub _) ?_)|(refine WkF.cons rfl (Sub.of_eq rfl) ?_)|(refine WkF.cons rfl (Sub.of_eq (congrArg aB (by simp))) ?_)|(refine WkB.cons rfl rfl (Subs.refl _) ?_)|(refine WkB.cons rfl rfl ?_ ?_)|(refine Subs.cons (Sub.refl _) ?_)|(refine Subs.cons Sub.nils ?_)|(refine Subs.cons (Sub.pub _) ?_)|(refine WkT.cons rfl ?_))))
   |cons e es=>
    have hes:(e::es).length=j:=le
    have hsz:(e::es).length+1=(e::es++ [y]).length:=by simp
    dsimp only[outBx,List.cons_append,List.nil_append]
    cases ok2<;>(
     (repeat' (first|(refine LW.is ?_;first|(apply s_appendH 906 (es:=(e::es).map Ex.c) (n:=(e::es).length) (news:= [zeroEx]) (er:=(e::es).map Ex.c++ [zeroEx]) (nr:=(e::es).length+1);exact rfl;exact rfl;exact rfl;exact rfl;exact .inl exNE;exact lenE _;exact oneL rfl;exact(by rw[List.length_map];exact Nat.le_refl _);exact List.cons_ne_nil _ _;exact(by rw[hes];simp only[maxLen,List.length_cons,List.length_nil];omega);exact(by rw[hes];simp only[List.length_cons,List.length_nil];omega);exact rfl;exact(by rw[List.take_of_length_le (by rw[List.length_map];exact Nat.le_refl _)]);exact rfl)|(apply s_vr;exact rfl;apply v_indexBsh (off':=(e::es).length*8);exact rfl;exact rfl;exact(by omega);exact(by omega);exact(by rw[Int.toNat_natCast,Nat.zero_add]))|(apply s_storeR (es:=(e::es).map Ex.c++ [zeroEx]) (i:=(e::es).length) (e:=y.cs) (er:=(e::es++ [y]).map Ex.c);exact rfl;exact rfl;exact rfl;exact rfl;exact rfl;exact rfl;exact lenZ _;exact rfl;exact(by simp);exact moreE _ _))|(refine DR.is ?_;first|(apply d_appendH 906 (es:=(e::es).map Ex.c) (n:=(e::es).length) (news:= [zeroEx]) (er:=(e::es).map Ex.c++ [zeroEx]) (nr:=(e::es).length+1);exact rfl;exact rfl;exact rfl;exact rfl;exact .inl exNE;exact lenE _;exact oneL rfl;exact(by rw[List.length_map];exact Nat.le_refl _);exact List.cons_ne_nil _ _;exact(by rw[hes];simp only[maxLen,List.length_cons,List.length_nil];omega);exact(by rw[hes];simp only[List.length_cons,List.length_nil];omega);exact rfl;exact(by rw[List.take_of_length_le (by rw[List.length_map];exact Nat.le_refl _)]);exact rfl)|(apply d_vr;exact rfl;apply v_indexBsh (off':=(e::es).length*8);exact rfl;exact rfl;exact(by omega);exact(by omega);exact(by rw[Int.toNat_natCast,Nat.zero_add]))|(apply d_storeR (es:=(e::es).map Ex.c++ [zeroEx]) (i:=(e::es).length) (e:=y.cs) (er:=(e::es++ [y]).map Ex.c);exact rfl;exact rfl;exact rfl;exact rfl;exact rfl;exact rfl;exact lenZ _;exact rfl;exact(by simp);exact moreE _ _))|refine wk1 ?_|refine wk2 (fun hb hp=> ?_) (fun hb hp=> ?_)|fail))
     refine L.onlyS [519,518,517,2,4,7] [2,4,906] rfl ?_
     refine L.swap [(906,905)] rfl rfl rfl rfl ?_
     refine hK _ (j+1) trivial (by omega) ?_
     rw[n1,n2]
     (refine Wk.mk' (keys_all rfl) ?_ ?_ ?_<;>repeat' (first|exact WkF.nil|exact WkB.nil|exact WkT.nil|exact Subs.nil|(refine WkF.cons rfl (Sub.refl _) ?_)|(refine WkF.cons rfl (Sub.pub _) ?_)|(refine WkF.cons rfl (Sub.of_eq rfl) ?_)|(refine WkF.cons rfl (Sub.of_eq (congrArg aB (by simp))) ?_)|(refine WkB.cons rfl rfl (Subs.refl _) ?_)|(refine WkB.cons rfl rfl ?_ ?_)|(refine Subs.cons (Sub.refl _) ?_)|(refine Subs.cons (Sub.of_eq (congrArg (fun k=>AV.bsh 905 0 k 8) hsz)) ?_)|(refine Subs.cons Sub.nils ?_)|(refine Subs.cons (Sub.pub _) ?_)|(refine WkT.cons rfl ?_))))
 |some p=>
  have hlt:=ltT (l:=ps.map Ws.c) (getF (f:=Ws.c) hx)
  have hlt':=ltN hx
  have gp:=at_w hx
  have hpm:=List.mem_of_getElem? hx
  obtain⟨tp,lp⟩:=hpt p hpm
  have epm:(p.map Str.c).length=p.length:=List.length_map _
  have lfl:fl.length=i:=by have:=all_len hI;rw[List.length_take] at this;omega
  have bm: ∀e:List IV,(fl.map Str.c).length+ [e].length≤maxLen:=fun e=>by rw[List.length_map];simp only[maxLen,List.length_cons,List.length_nil];omega
  have bb: ∀e:List IV,((fl.map Str.c).length+ [e].length)*16≤225000000000000:=fun e=>by rw[List.length_map,List.length_cons,List.length_nil];omega
  clear hpt
  by_cases c1:p.length=1
  · match p,c1,hx,hpm,tp with
    | [w],_,hx,hpm,tp=>
      have ki:=isName_any m hgm w (by have:=(tp w (by simp)).1.1;omega)
      have g0:([w].map Str.c)[(0:Int).toNat]?=some [S w]:=rfl
      cases hn:namedM w with
      |false=>
       rw[hn] at ki
       have eS:selH (allM nmM ps) a x ok od n=none:=by rw[all_bad hpm (show nmM [w] =none by unfold nmM;rw[if_neg (fun k=>by have:=k.2;rw[show([w]:List Str).headD [] =w from rfl,hn] at this;cases this)])];rfl
       rw[eS]
       clear hK
       (repeat' (first|refine wk1 ?_|refine wk2 (fun hb hp=> ?_) (fun hb hp=> ?_)|fail))
       (apply L.ends;exact rfl;exact rfl;exact Sub.tup (.cons (Sub.agg anyS) (.cons (Sub.of_eq rfl) .nil));exact Wk.mk' (by intro id h;cases h) .nil .nil .nil)
      |true=>
       rw[hn] at ki
       have n1:(fl++ [w]).map Str.c=fl.map Str.c++ [[S w]]:=by rw[List.map_append];rfl
       have en:nmM [w] =some w:=by unfold nmM;rw[if_pos ⟨rfl,hn⟩];rfl
       (repeat' (first|(refine LW.is ?_;first|(apply s_append;exact rfl;exact rfl;exact rfl;exact rfl;exact lenS1 _;(exact len_cons rfl len_nil);exact bm _;exact bb _;exact rfl;exact rfl))|(refine DR.is ?_;first|(apply d_append;exact rfl;exact rfl;exact rfl;exact rfl;exact lenS1 _;(exact len_cons rfl len_nil);exact bm _;exact bb _;exact rfl;exact rfl))|refine wk1 ?_|refine wk2 (fun hb hp=> ?_) (fun hb hp=> ?_)|fail))
       refine L.onlyS [481,480,479,30,2,4,7] [2,4] rfl ?_
       refine L.retokB 4 502 904 rfl (by simp) rfl rfl rfl (.cons .same (.cons .same (.cons .same (.cons .same (.cons .same (.cons .same (.cons .same (.cons .row (.cons .same (.cons .same (.cons .same (.cons .same (.cons .same (.cons .same (.cons .same (.cons .same (.cons .same (.cons .same (.cons .same (.cons .same .nil)))))))))))))))))))) ?_
       refine hK _ (i+1,fl++ [w]) (all_nxt hI hx en) (by dsimp only;omega) (Wk.mk' (keys_all rfl) (.cons rfl (Sub.refl _) (.cons rfl (Sub.refl _) (.cons rfl (Sub.refl _) (.cons rfl (Sub.refl _) (.cons rfl (Sub.refl _) (.cons rfl (Sub.refl _) (.cons rfl (Sub.refl _) .nil))))))) (.cons rfl rfl (Subs.refl _) (.cons rfl rfl (.cons (Sub.refl _) (.cons (Sub.refl _) (.cons (Sub.refl _) (.cons (Sub.refl _) (.cons (Sub.refl _) (.cons (Sub.refl _) (.cons (Sub.refl _) (.cons (Sub.of_eq (congrArg (AV.row 904) n1.symm)) (.cons (Sub.refl _) (.cons (Sub.refl _) (.cons (Sub.refl _) (.cons (Sub.refl _) (.cons (Sub.refl _) (.cons (Sub.refl _) (.cons (Sub.refl _) (.cons (Sub.refl _) (.cons (Sub.refl _) (.cons (Sub.refl _) (.cons (Sub.refl _) (.cons (Sub.refl _) .nil)))))))))))))))))))) .nil)) (.cons rfl .nil))
  · have q2:(!(((p.map Str.c).length:Int)==1))=true:=by rw[beqF (by rw[epm];omega)];rfl
    have eS:selH (allM nmM ps) a x ok od n=none:=by rw[all_bad hpm (show nmM p=none by unfold nmM;rw[if_neg (fun k=>c1 k.1)])];rfl
    rw[eS]
    clear hK
    (repeat' (first|refine wk1 ?_|refine wk2 (fun hb hp=> ?_) (fun hb hp=> ?_)|fail))
    (apply L.ends;exact rfl;exact rfl;exact Sub.tup (.cons (Sub.agg anyS) (.cons (Sub.of_eq rfl) .nil));exact Wk.mk' (by intro id h;cases h) .nil .nil .nil)
end Go.Proofs.YtadjbegnlimepaaGreatDoor
