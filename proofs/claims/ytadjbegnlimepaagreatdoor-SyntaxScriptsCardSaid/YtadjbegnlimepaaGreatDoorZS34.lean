/- Several texts in one, each with its own sentence ahead of it. Conditions: each one says its own. -/
import Derived.Test.YtadjbegnlimepaaGreatDoorZS33
set_option linter.all false
namespace Go.Proofs.YtadjbegnlimepaaGreatDoor
open Go.Abs
set_option maxRecDepth 100000
set_option linter.unusedVariables false
set_option linter.unusedSimpArgs false
def twoR(op:Int)(a b:Ex×Bool):Ex×Bool:=(ex2 op a.1 b.1,a.2 && b.2)
def litR(v:Val)(ok:Bool):Ex×Bool:=(litE v,ok && goodM v)
def refL(l:List Str):Ex×Bool:=
 if l.length=1∧l.headD [] =wNULL then litR nilV true
 else if l.length=1∧(l.headD []).headD 0=39 then litR (psText (l.headD [])) true
 else if l.length=1∧digC ((l.headD []).headD 0)=true then litR ⟨1,(numR (l.headD [])).1,[]⟩ (numR (l.headD [])).2
 else if l.length=2∧l.headD [] = [45] then litR ⟨1,-(numR (l.getD 1 [])).1,[]⟩ (numR (l.getD 1 [])).2
 else if l.length=1 then(.mk 2 nilV [] (l.headD []) 0 [],namedM (l.headD []))
 else if l.length=3∧l.getD 1 [] = [46] then(.mk 2 nilV (l.headD []) (l.getD 2 []) 0 [],namedM (l.headD []) && namedM (l.getD 2 []))
 else(nilE,false)
def isNull(l:List Str):Prop:=2<l.length∧l.getD (l.length - 2) [] =wIS∧l.getD (l.length - 1) [] =wNULL
instance (l:List Str):Decidable (isNull l):=by unfold isNull;infer_instance
def inBr(l:List Str):Prop:=l.headD [] = [40] ∧l.getD (l.length - 1) [] = [41] ∧2<l.length
instance (l:List Str):Decidable (inBr l):=by unfold inBr;infer_instance
theorem cut_lt{l ats:List Str}(h:(cutM l ats).isSome=true):((cutM l ats).get h).1<l.length:=by
 obtain⟨a,w,b,e,_,e2⟩:=cut_is (Option.eq_some_of_isSome h)
 rw[e2]
 have e3:=congrArg List.length e
 simp only[List.length_append,List.length_cons] at e3
 dsimp only
 omega
mutual
def refO(l:List Str)(k:Nat):Ex×Bool:=
 if h:0≤lastW l [wOR] then twoR 8 (refO (l.take (lastW l [wOR]).toNat) k) (refA (l.drop ((lastW l [wOR]).toNat+1)) k) else refA l k
 termination_by (l.length,4)
 decreasing_by
  all_goals first
   |(apply Prod.Lex.left;have:=last_lt h;simp only[List.length_take,List.length_drop];omega)
   |(apply Prod.Lex.right;decide)
def refA(l:List Str)(k:Nat):Ex×Bool:=
 if h:0≤lastW l [wAND] then twoR 7 (refA (l.take (lastW l [wAND]).toNat) k) (refT (l.drop ((lastW l [wAND]).toNat+1)) k) else refT l k
 termination_by (l.length,3)
 decreasing_by
  all_goals first
   |(apply Prod.Lex.left;have:=last_lt h;simp only[List.length_take,List.length_drop];omega)
   |(apply Prod.Lex.right;decide)
def refT(l:List Str)(k:Nat):Ex×Bool:=
 if h:k=0∨l= [] ∨0≤lastW l [wOR,wAND] then(nilE,false)
 else if l.headD [] =wNOT then(ex1 9 (refT (l.drop 1) (k - 1)).1,(refT (l.drop 1) (k - 1)).2)
 else if h2:isNull l then(ex1 10 (refS (l.take (l.length - 2)) k).1,(refS (l.take (l.length - 2)) k).2)
 else if h3:(cutM l [[61],[60]]).isSome=true then twoR (5+(((cutM l [[61],[60]]).get h3).2:Int)) (refS (l.take ((cutM l [[61],[60]]).get h3).1) k) (refS (l.drop (((cutM l [[61],[60]]).get h3).1+1)) k)
 else refS l k
 termination_by (l.length,2)
 decreasing_by
  all_goals first
   |(apply Prod.Lex.left;have:l≠ []:=fun e=>h (.inr (.inl e));have:=List.length_pos_iff.2 this;simp only[List.length_drop];omega)
   |(apply Prod.Lex.left;have:=h2.1;simp only[List.length_take];omega)
   |(apply Prod.Lex.left;have:=cut_lt h3;simp only[List.length_take,List.length_drop];omega)
   |(apply Prod.Lex.right;decide)
def refS(l:List Str)(k:Nat):Ex×Bool:=
 if h:0≤sumAt l then twoR (if l.getD (sumAt l).toNat [] = [45] then 4 else 3) (refS (l.take (sumAt l).toNat) k) (refN (l.drop ((sumAt l).toNat+1)) k) else refN l k
 termination_by (l.length,1)
 decreasing_by
  all_goals first
   |(apply Prod.Lex.left;have:=sum_lt h;simp only[List.length_take,List.length_drop];omega)
   |(apply Prod.Lex.right;decide)
def refN(l:List Str)(k:Nat):Ex×Bool:=
 if h:l= [] ∨k=0 then(nilE,false)
 else if h2:inBr l then
  if(cutM ((l.drop 1).take (l.length - 2)) [[41]]).isSome=true then(nilE,false) else refO ((l.drop 1).take (l.length - 2)) (k - 1)
 else refL l
 termination_by (l.length,0)
 decreasing_by
  apply Prod.Lex.left;have:=h2.2.2;simp only[List.length_take,List.length_drop];omega
end
theorem take_at{α:Type}{a b:List α}{w:α}:(a++w::b).take a.length=a∧(a++w::b).drop (a.length+1)=b:=by
 refine⟨by simp,?_⟩
 rw[←List.drop_drop];simp
theorem two_ok{op:Int}{a b:Ex×Bool}{e:Ex}(h:twoR op a b=(e,true)):a=(a.1,true)∧b=(b.1,true)∧e=ex2 op a.1 b.1:=by
 simp only[twoR,Prod.mk.injEq,Bool.and_eq_true] at h
 exact⟨Prod.ext rfl h.2.1,Prod.ext rfl h.2.2,h.1.symm⟩
theorem TokA.sub{c d:List Str}(h:TokA c)(k: ∀w∈d,w∈c):TokA d:=fun w hw=>h w (k w hw)
theorem null_app{l:List Str}(h:isNull l):l=l.take (l.length - 2)++ [wIS,wNULL]:=by
 obtain⟨h1,h2,h3⟩:=h
 have e1:l.drop (l.length - 2)= [wIS,wNULL]:=by
  rw[List.drop_eq_getElem_cons (by omega),List.drop_eq_getElem_cons (by omega)]
  rw[List.getD_eq_getElem?_getD,List.getElem?_eq_getElem (by omega)] at h2
  rw[List.getD_eq_getElem?_getD,List.getElem?_eq_getElem (by omega)] at h3
  have h3':l[l.length - 2+1] =wNULL:=by
   have:l.length - 2+1=l.length - 1:=by omega
   simp only[this];exact h3
  rw[show l[l.length - 2] =wIS from h2,h3',List.drop_eq_nil_of_le (by omega)]
 conv=>lhs;rw[←List.take_append_drop (l.length - 2) l,e1]
theorem br_app{l:List Str}(h:inBr l):l= [40]::((l.drop 1).take (l.length - 2)++ [[41]]):=by
 obtain⟨h1,h2,h3⟩:=h
 cases l with
 |nil=>simp at h3
 |cons a l=>
  have h1:a= [40]:=h1
  subst h1
  have e1:l.drop (l.length - 1)= [[41]]:=by
   simp only[List.length_cons] at h2 h3
   rw[List.getD_eq_getElem?_getD,List.getElem?_eq_getElem (by simp)] at h2
   rw[List.drop_eq_getElem_cons (by omega),List.drop_eq_nil_of_le (by omega)]
   have:l[l.length - 1] = [41]:=by
    have h2:([40]::l)[l.length] = [41]:=h2
    rw[←h2]
    obtain⟨m,hm⟩: ∃m,l.length=m+1:=⟨l.length - 1,by omega⟩
    simp[hm]
   rw[this]
  show _= [40]::(l.take (l.length+1 - 2)++ [[41]])
  rw[←e1,show l.length+1 - 2=l.length - 1 by omega,List.take_append_drop]
theorem lit_snd{l:List Str}{k:Nat}{e:Ex}(ht:TokA l)(h:refL l=(e,true)):Dv .M (k+1) l e:=by
 unfold refL litR at h
 split at h
 · rename_i c
   match l,c.1 with
   | [s],_=>
   have:s=wNULL:=c.2
   subst this
   simp only[Prod.mk.injEq] at h
   rw[←h.1];exact .mL .nul
 split at h
 · rename_i c
   match l,c.1 with
   | [s],_=>
   simp only[Prod.mk.injEq,Bool.true_and] at h
   rw[←h.1];exact .mL (.txt c.2 (ht s (by simp)).2 h.2)
 split at h
 · rename_i c
   match l,c.1 with
   | [s],_=>
   simp only[Prod.mk.injEq,Bool.and_eq_true] at h
   rw[←h.1]
   exact .mL (.num c.2 (ht s (by simp)).2 ((num_same (ht s (by simp)).1.2.2 _).2 (Prod.ext rfl h.2.1)))
 split at h
 · rename_i c
   match l,c.1 with
   | [u,s],_=>
   have:u= [45]:=c.2
   subst this
   simp only[Prod.mk.injEq,Bool.and_eq_true] at h
   rw[←h.1]
   exact .mL (.neg (ht s (by simp)).2 ((num_same (ht s (by simp)).1.2.2 _).2 (Prod.ext rfl h.2.1)))
 split at h
 · rename_i c
   match l,c with
   | [s],_=>
   simp only[Prod.mk.injEq] at h
   rw[←h.1];exact .mL (.ref h.2)
 split at h
 · rename_i c
   match l,c.1 with
   | [s,u,t],_=>
   have:u= [46]:=c.2
   subst this
   simp only[Prod.mk.injEq,Bool.and_eq_true] at h
   rw[←h.1];exact .mL (.dot h.2.1 h.2.2)
 · simp at h
theorem ref_snd: ∀n:Nat,
 (∀l k e,5*l.length+4<n→TokA l→refO l k=(e,true)→Dv .O k l e)∧(∀l k e,5*l.length+3<n→TokA l→refA l k=(e,true)→Dv .A k l e)∧
 (∀l k e,5*l.length+2<n→TokA l→refT l k=(e,true)→Dv .T k l e)∧(∀l k e,5*l.length+1<n→TokA l→refS l k=(e,true)→Dv .S k l e)∧
 (∀l k e,5*l.length<n→TokA l→refN l k=(e,true)→Dv .M k l e)
 |0=>⟨fun _ _ _ h=>by omega,fun _ _ _ h=>by omega,fun _ _ _ h=>by omega,fun _ _ _ h=>by omega,fun _ _ _ h=>by omega⟩
 |n+1=>by
  obtain⟨iO,iA,iT,iS,iM⟩:=ref_snd n
  refine⟨fun l k e hn ht h=> ?_,fun l k e hn ht h=> ?_,fun l k e hn ht h=> ?_,fun l k e hn ht h=> ?_,fun l k e hn ht h=> ?_⟩
  · rw[refO] at h
    split at h
    · rename_i c
      obtain⟨a,w,b,rfl,hw,hi⟩:=last_is c
      rw[List.mem_singleton] at hw;subst hw
      rw[hi,take_at.1,take_at.2] at h
      obtain⟨h1,h2,rfl⟩:=two_ok h
      simp only[List.length_append,List.length_cons] at hn
      exact .oO (iO a k _ (by omega) (ht.sub (fun w hw=>by simp[hw])) h1) (iA b k _ (by omega) (ht.sub (fun w hw=>by simp[hw])) h2)
    · exact .oA (iA l k e (by omega) ht h)
  · rw[refA] at h
    split at h
    · rename_i c
      obtain⟨a,w,b,rfl,hw,hi⟩:=last_is c
      rw[List.mem_singleton] at hw;subst hw
      rw[hi,take_at.1,take_at.2] at h
      obtain⟨h1,h2,rfl⟩:=two_ok h
      simp only[List.length_append,List.length_cons] at hn
      exact .aA (iA a k _ (by omega) (ht.sub (fun w hw=>by simp[hw])) h1) (iT b k _ (by omega) (ht.sub (fun w hw=>by simp[hw])) h2)
    · exact .aT (iT l k e (by omega) ht h)
  · rw[refT] at h
    split at h
    · simp at h
    rename_i c0
    obtain⟨k,rfl⟩: ∃k',k=k'+1:=⟨k - 1,by have:k≠0:=fun e=>c0 (.inl e);omega⟩
    have hl:l≠ []:=fun e=>c0 (.inr (.inl e))
    split at h
    · rename_i c1
      cases l with
      |nil=>exact absurd rfl hl
      |cons a l=>
       have c1:a=wNOT:=c1
       subst c1
       simp only[Prod.mk.injEq] at h
       simp only[List.length_cons] at hn
       rw[←h.1]
       exact .tN (iT l k _ (by omega) (ht.sub (fun w hw=>by simp[hw])) (Prod.ext rfl h.2))
    split at h
    · rename_i c2
      have e1:=null_app c2
      have h2:=c2.1
      generalize l.take (l.length - 2)=y at*
      simp only[Prod.mk.injEq] at h
      rw[←h.1]
      subst e1
      simp only[List.length_append,List.length_cons,List.length_nil] at hn
      exact .tI (iS y (k+1) _ (by omega) (ht.sub (fun w hw=>by simp[hw])) (Prod.ext rfl h.2))
    split at h
    · rename_i c3
      obtain⟨a,w,b,rfl,hw,hp⟩:=cut_is (Option.eq_some_of_isSome c3)
      rw[hp] at h
      dsimp only at h
      rw[take_at.1,take_at.2] at h
      obtain⟨h1,h2,rfl⟩:=two_ok h
      simp only[List.length_append,List.length_cons] at hn
      have d1:=iS a (k+1) _ (by omega) (ht.sub (fun w hw=>by simp[hw])) h1
      have d2:=iS b (k+1) _ (by omega) (ht.sub (fun w hw=>by simp[hw])) h2
      rcases List.mem_cons.1 hw with rfl|hw
      · exact .tE d1 d2
      · rw[List.mem_singleton] at hw;subst hw
        exact .tL d1 d2
    · exact .tS (iS l (k+1) e (by omega) ht h)
  · rw[refS] at h
    split at h
    · rename_i c
      obtain⟨a,w,b,rfl,hw,hi⟩:=sum_is c
      rw[hi,take_at.1,take_at.2] at h
      obtain⟨h1,h2,rfl⟩:=two_ok h
      have hg:(a++w::b).getD a.length [] =w:=by simp[List.getD_eq_getElem?_getD]
      rw[hg]
      simp only[List.length_append,List.length_cons] at hn
      have d1:=iS a k _ (by omega) (ht.sub (fun w hw=>by simp[hw])) h1
      have d2:=iM b k _ (by omega) (ht.sub (fun w hw=>by simp[hw])) h2
      rcases hw with rfl|rfl
      · exact .sP d1 d2
      · exact .sN d1 d2
    · exact .sM (iM l k e (by omega) ht h)
  · rw[refN] at h
    split at h
    · simp at h
    rename_i c0
    obtain⟨k,rfl⟩: ∃k',k=k'+1:=⟨k - 1,by have:k≠0:=fun e=>c0 (.inr e);omega⟩
    split at h
    · rename_i c1
      have e1:=br_app c1
      have h3:=c1.2.2
      generalize (l.drop 1).take (l.length - 2)=y at*
      split at h
      · simp at h
      subst e1
      simp only[List.length_append,List.length_cons,List.length_nil] at hn
      exact .mB (iO y k e (by omega) (ht.sub (fun w hw=>by simp[hw])) h)
    · exact lit_snd ht h
theorem last_at{P Q:Str→Prop}{a b ats:List Str}{w:Str}(ha:Fl P a)(hw:w∈ats)(h0:depW 0 w=0)(hb:Fl Q b)(hq: ∀u∈ats,¬Q u):lastW (a++w::b) ats=a.length:=by
 unfold lastW
 rw[lastGo_app,ha.z,lastGo,if_pos ⟨by omega,hw⟩,show(0:Int)+0=0 from rfl,h0,lastGo_no ats b _ _ _ (fun x u y e hd hu=>hq u hu (hb.fr x u y e (by omega)))]
 omega
theorem last_no{Q:Str→Prop}{c ats:List Str}(hc:Fl Q c)(hq: ∀u∈ats,¬Q u):lastW c ats= -1:=lastGo_no ats c _ _ _ (fun x u y e hd hu=>hq u hu (hc.fr x u y e (by omega)))
theorem not_ok{lv:Lv}{u:Str}(hu:badU u=true)(hm:u∉lv.more): ¬okW lv u:=fun h=>okW_ne h hu hm rfl
theorem two_mk{op:Int}{a b:Ex×Bool}{e1 e2:Ex}(h1:a=(e1,true))(h2:b=(e2,true)):twoR op a b=(ex2 op e1 e2,true):=by rw[h1,h2];rfl
theorem sum_no{k:Nat}{c:List Str}{e:Ex}(h:Dv .M k c e)(ht:TokA c):sumAt c= -1:=
 sumGo_no c 0 0 (-1) [] (fun x w y hc hd=>by
  obtain⟨h1,h2⟩:=dv_sign h ht x w y hc (by omega)
  rintro (k|⟨k,k2|k2⟩)
  · exact h1 k
  · exact k2 (h2 k)
  · omega)
theorem sum_at{k:Nat}{a b:List Str}{e1 e2:Ex}{w:Str}(ha:Dv .S k a e1)(hb:Dv .M k b e2)(hw:w= [43] ∨w= [45])(ta:TokA a)(tb:TokA b):sumAt (a++w::b)=a.length:=by
 obtain⟨y,u,hy,u1,u2⟩:=dv_last ha (.inl rfl) ta
 have hl:a.getLastD [] =u:=by rw[hy];simp
 have hlen:0<a.length:=by rw[hy];simp
 unfold sumAt
 rw[sumGo_app,(dv_fl ha ta).z,sumGo,hl,if_pos ⟨hw,by omega,by omega,u1,u2⟩]
 have h0:depW (0+0) w=0:=by rcases hw with rfl|rfl<;>rfl
 rw[h0,sumGo_no b _ _ _ _ (fun x v z hc hd=>by
  obtain⟨h1,h2⟩:=dv_sign hb tb x v z hc (by omega)
  rintro (k|⟨k,k2|k2⟩)
  · exact h1 k
  · exact k2 (h2 k)
  · rcases hw with rfl|rfl
    · exact k2.2.1 rfl
    · exact k2.2.2 rfl)]
 omega
theorem lit_cpl{c:List Str}{e:Ex}(h:LitD c e)(ht:TokA c):refL c=(e,true)∧ ¬inBr c:=by
 have one: ∀s:Str,¬inBr [s]:=fun s k=>by have:=k.2.2;simp at this
 have g1: ∀{s:Str} {n:Int},numR s=(n,true)→goodM ⟨1,n,[]⟩=true∧goodM ⟨1,-n,[]⟩=true:=fun{s n} h=>by
  unfold numR at h
  split at h
  · simp at h
  simp only[Prod.mk.injEq,decide_eq_true_eq] at h
  have h0:0≤n:=by rw[←h.1];omega
  have h1:n≤1000000:=by rw[←h.1];exact h.2
  constructor<;>simp[goodM] <;>omega
 cases h with
 |nul=>exact⟨rfl,one _⟩
 |txt h h0 hg=>
  rename_i s
  refine⟨?_,one _⟩
  unfold refL litR
  rw[if_neg (fun k=>by have:s=wNULL:=k.2;rw[this] at h;exact absurd h (by decide)),if_pos ⟨rfl,h⟩]
  show(litE (psText s),true && goodM (psText s))=_
  rw[hg];rfl
 |num h h0 hn=>
  rename_i s n
  refine⟨?_,one _⟩
  have hr:=(num_same (ht s (by simp)).1.2.2 n).1 hn
  unfold refL litR
  rw[if_neg (fun k=>by have:s=wNULL:=k.2;rw[this] at h;exact absurd h (by decide)),if_neg (fun k=>by have:s.headD 0=39:=k.2;rw[this] at h;exact absurd h (by decide)),if_pos ⟨rfl,h⟩]
  show(litE ⟨1,(numR s).1,[]⟩,(numR s).2 && goodM ⟨1,(numR s).1,[]⟩)=_
  rw[hr]
  dsimp only
  rw[(g1 hr).1];rfl
 |neg h0 hn=>
  rename_i s n
  have hr:=(num_same (ht s (by simp)).1.2.2 n).1 hn
  refine⟨?_,fun k=>by have:=k.2.2;simp at this⟩
  unfold refL litR
  rw[if_neg (fun k=>by have:=k.1;simp at this),if_neg (fun k=>by have:=k.1;simp at this),if_neg (fun k=>by have:=k.1;simp at this),if_pos ⟨rfl,rfl⟩]
  show(litE ⟨1,-(numR s).1,[]⟩,(numR s).2 && goodM ⟨1,-(numR s).1,[]⟩)=_
  rw[hr]
  dsimp only
  rw[(g1 hr).2];rfl
 |ref h=>
  rename_i s
  refine⟨?_,one _⟩
  obtain⟨n0,n1,n2⟩:=named_low h
  have hc:lowC (s.headD 0)=true:=by
   cases s with
   |nil=>exact absurd rfl n0
   |cons a s=>simp only[List.all_cons,Bool.and_eq_true] at n1;exact n1.1
  unfold refL litR
  rw[if_neg (fun k=>n2 wNULL (by simp[words,wNULL]) k.2),if_neg (fun k=>by have:s.headD 0=39:=k.2;rw[this] at hc;exact absurd hc (by decide)),if_neg (fun k=>by
   have h1:digC (s.headD 0)=true:=k.2
   simp only[lowC,digC,Bool.and_eq_true,decide_eq_true_eq] at hc h1
   omega),if_neg (fun k=>by have:=k.1;simp at this),if_pos (show [s].length=1 from rfl)]
  show(Ex.mk 2 nilV [] s 0 [],namedM s)=_
  rw[h]
 |dot h h2=>
  rename_i s t
  have n2:=named_ne h (u:= [40]) (by decide)
  refine⟨?_,fun k=>n2 k.1⟩
  unfold refL litR
  rw[if_neg (fun k=>by have:=k.1;simp at this),if_neg (fun k=>by have:=k.1;simp at this),if_neg (fun k=>by have:=k.1;simp at this),if_neg (fun k=>by have:=k.1;simp at this),if_neg (fun k=>by simp at k),if_pos ⟨rfl,rfl⟩]
  show(Ex.mk 2 nilV s t 0 [],namedM s && namedM t)=_
  rw[h,h2];rfl
def RefIs:Lv→Nat→List Str→Ex→Prop
 | .O,k,c,e=>refO c k=(e,true)
 | .A,k,c,e=>refA c k=(e,true)
 | .T,k,c,e=>refT c k=(e,true)
 | .S,k,c,e=>refS c k=(e,true)
 | .M,k,c,e=>refN c k=(e,true)
theorem not_last{c:List Str}{e:Ex}{k:Nat}(h:Dv .T k c e)(ht:TokA c): ¬0≤lastW c [wOR,wAND]:=by
 rw[last_no (dv_fl h ht) (fun u hu=>by
  simp only[List.mem_cons,List.not_mem_nil,or_false] at hu
  rcases hu with rfl|rfl
  · exact not_ok (by kernel_rfl) (by decide)
  · exact not_ok (by kernel_rfl) (by decide))]
 decide
theorem s_null{lv:Lv}{b p y:List Str}{k:Nat}{e:Ex}(h:Dv .S k b e)(ht:TokA b)(hp:p++b=y++ [wIS,wNULL]):b= [wNULL] ∧p=y++ [wIS]:=at_end (dv_fl h ht) (dv_ne h) (not_ok (by kernel_rfl) (by decide)) hp
theorem ref_cpl{lv:Lv}{k:Nat}{c:List Str}{e:Ex}(h:Dv lv k c e):TokA c→RefIs lv k c e:=by
 induction h with
 | @oA k c e h ih=>
   intro ht
   show refO c k=_
   rw[refO,dif_neg (by rw[last_no (dv_fl h ht) (fun u hu=>by rw[List.mem_singleton] at hu;subst hu;exact not_ok (by kernel_rfl) (by decide))];decide)]
   exact ih ht
 | @oO k a b e1 e2 h h2 ih ih2=>
   intro ht
   have ta:=ht.sub (d:=a) (fun w hw=>by simp[hw])
   have tb:=ht.sub (d:=b) (fun w hw=>by simp[hw])
   have hl:=last_at (dv_fl h ta) (List.mem_singleton.2 rfl) (by decide:depW 0 wOR=0) (dv_fl h2 tb) (ats:= [wOR]) (fun u hu=>by rw[List.mem_singleton] at hu;subst hu;exact not_ok (by kernel_rfl) (by decide))
   show refO (a++wOR::b) k=_
   rw[refO,dif_pos (by rw[hl];omega),hl,Int.toNat_natCast,take_at.1,take_at.2]
   exact two_mk (ih ta) (ih2 tb)
 | @aT k c e h ih=>
   intro ht
   show refA c k=_
   rw[refA,dif_neg (by rw[last_no (dv_fl h ht) (fun u hu=>by rw[List.mem_singleton] at hu;subst hu;exact not_ok (by kernel_rfl) (by decide))];decide)]
   exact ih ht
 | @aA k a b e1 e2 h h2 ih ih2=>
   intro ht
   have ta:=ht.sub (d:=a) (fun w hw=>by simp[hw])
   have tb:=ht.sub (d:=b) (fun w hw=>by simp[hw])
   have hl:=last_at (dv_fl h ta) (List.mem_singleton.2 rfl) (by decide:depW 0 wAND=0) (dv_fl h2 tb) (ats:= [wAND]) (fun u hu=>by rw[List.mem_singleton] at hu;subst hu;exact not_ok (by kernel_rfl) (by decide))
   show refA (a++wAND::b) k=_
   rw[refA,dif_pos (by rw[hl];omega),hl,Int.toNat_natCast,take_at.1,take_at.2]
   exact two_mk (ih ta) (ih2 tb)
 | @tN k c e h ih=>
   intro ht
   have hd:=Dv.tN h
   show refT (wNOT::c) (k+1)=_
   rw[refT,dif_neg (by rintro (k|k|k); · omega
                       · cases k
                       · exact not_last hd ht k),if_pos (show(wNOT::c).headD [] =wNOT from rfl)]
   have:=ih (ht.sub (fun w hw=>by simp[hw]))
   have e0:refT ((wNOT::c).drop 1) (k+1 - 1)=(e,true):=this
   rw[e0]
 | @tS k c e h ih=>
   intro ht
   have hd:=Dv.tS h
   obtain⟨u,t,hc,hu⟩:=first_S h (.inl rfl)
   show refT c (k+1)=_
   rw[refT,dif_neg (by rintro (k|k|k); · omega
                       · exact dv_ne h k
                       · exact not_last hd ht k),if_neg (by rw[hc];exact hu),dif_neg (fun q=>by
    have e1:=null_app q
    have:=(s_null (lv:= .S) h ht (p:= []) e1).2
    cases hh:c.take (c.length - 2)<;>rw[hh] at this<;>cases this)]
   have hcut:cutM c [[61],[60]] =none:=cut_none (fun x w y e hd hw=>by
    have:=(dv_fl h ht).fr x w y e hd
    simp only[List.mem_cons,List.not_mem_nil,or_false] at hw
    rcases hw with rfl|rfl
    · exact not_ok (by kernel_rfl) (by decide) this
    · exact not_ok (by kernel_rfl) (by decide) this)
   rw[dif_neg (by rw[hcut];decide)]
   exact ih ht
 | @tI k c e h ih=>
   intro ht
   have hd:=Dv.tI h
   have tc:=ht.sub (d:=c) (fun w hw=>by simp[hw])
   obtain⟨u,t,hc,hu⟩:=first_S h (.inl rfl)
   have hl:0<c.length:=by rw[hc];simp
   have hlen:(c++ [wIS,wNULL]).length=c.length+2:=by simp
   show refT (c++ [wIS,wNULL]) (k+1)=_
   have hN:isNull (c++ [wIS,wNULL]):=by
    refine⟨by omega,?_,?_⟩
    · rw[hlen,show c.length+2 - 2=c.length by omega,List.getD_eq_getElem?_getD,List.getElem?_append_right (by omega)];simp
    · rw[hlen,show c.length+2 - 1=c.length+1 by omega,List.getD_eq_getElem?_getD,List.getElem?_append_right (by omega)];simp
   rw[refT,dif_neg (by rintro (k|k|k); · omega
                       · simp at k
                       · exact not_last hd ht k),if_neg (by rw[hc];exact hu),dif_pos hN,hlen,show c.length+2 - 2=c.length by omega,List.take_left' rfl]
   have e0:refS c (k+1)=(e,true):=ih tc
   rw[e0]
 | @tE k a b e1 e2 h h2 ih ih2=>
   intro ht
   have hd:=Dv.tE h h2
   have ta:=ht.sub (d:=a) (fun w hw=>by simp[hw])
   have tb:=ht.sub (d:=b) (fun w hw=>by simp[hw])
   obtain⟨u,t,hc,hu⟩:=first_S h (.inl rfl)
   have hcut:cutM (a++ [61]::b) [[61],[60]] =some (a.length,0):=cut_at (fun x w y e hd hw=>by
    have:=(dv_fl h ta).fr x w y e hd
    simp only[List.mem_cons,List.not_mem_nil,or_false] at hw
    rcases hw with rfl|rfl
    · exact not_ok (by kernel_rfl) (by decide) this
    · exact not_ok (by kernel_rfl) (by decide) this) (dv_fl h ta).z (by simp)
   show refT (a++ [61]::b) (k+1)=_
   rw[refT,dif_neg (by rintro (k|k|k); · omega
                       · simp at k
                       · exact not_last hd ht k),if_neg (by rw[hc];exact hu),dif_neg (fun q=>by
    have e1:=null_app q
    generalize (a++ [61]::b).take ((a++ [61]::b).length - 2)=y at e1
    have e1':(a++ [[61]])++b=y++ [wIS,wNULL]:=by rw[←e1];simp
    have:=(s_null (lv:= .S) h2 tb e1').2
    have:=List.append_inj_right' this rfl
    exact absurd (List.cons.inj this).1 (by decide)),dif_pos (by rw[hcut];rfl)]
   simp only[hcut,Option.get_some]
   rw[take_at.1,take_at.2]
   exact two_mk (ih ta) (ih2 tb)
 | @tL k a b e1 e2 h h2 ih ih2=>
   intro ht
   have hd:=Dv.tL h h2
   have ta:=ht.sub (d:=a) (fun w hw=>by simp[hw])
   have tb:=ht.sub (d:=b) (fun w hw=>by simp[hw])
   obtain⟨u,t,hc,hu⟩:=first_S h (.inl rfl)
   have hcut:cutM (a++ [60]::b) [[61],[60]] =some (a.length,1):=cut_at (fun x w y e hd hw=>by
    have:=(dv_fl h ta).fr x w y e hd
    simp only[List.mem_cons,List.not_mem_nil,or_false] at hw
    rcases hw with rfl|rfl
    · exact not_ok (by kernel_rfl) (by decide) this
    · exact not_ok (by kernel_rfl) (by decide) this) (dv_fl h ta).z (by simp)
   show refT (a++ [60]::b) (k+1)=_
   rw[refT,dif_neg (by rintro (k|k|k); · omega
                       · simp at k
                       · exact not_last hd ht k),if_neg (by rw[hc];exact hu),dif_neg (fun q=>by
    have e1:=null_app q
    generalize (a++ [60]::b).take ((a++ [60]::b).length - 2)=y at e1
    have e1':(a++ [[60]])++b=y++ [wIS,wNULL]:=by rw[←e1];simp
    have:=(s_null (lv:= .S) h2 tb e1').2
    have:=List.append_inj_right' this rfl
    exact absurd (List.cons.inj this).1 (by decide)),dif_pos (by rw[hcut];rfl)]
   simp only[hcut,Option.get_some]
   rw[take_at.1,take_at.2]
   exact two_mk (ih ta) (ih2 tb)
 | @sM k c e h ih=>
   intro ht
   show refS c k=_
   rw[refS,dif_neg (by rw[sum_no h ht];decide)]
   exact ih ht
 | @sP k a b e1 e2 h h2 ih ih2=>
   intro ht
   have ta:=ht.sub (d:=a) (fun w hw=>by simp[hw])
   have tb:=ht.sub (d:=b) (fun w hw=>by simp[hw])
   have hl:=sum_at h h2 (.inl rfl) ta tb
   show refS (a++ [43]::b) k=_
   have hg:(a++ [43]::b).getD a.length [] = [43]:=by simp[List.getD_eq_getElem?_getD]
   rw[refS,dif_pos (by rw[hl];omega),hl,Int.toNat_natCast,take_at.1,take_at.2,hg,if_neg (by decide)]
   exact two_mk (ih ta) (ih2 tb)
 | @sN k a b e1 e2 h h2 ih ih2=>
   intro ht
   have ta:=ht.sub (d:=a) (fun w hw=>by simp[hw])
   have tb:=ht.sub (d:=b) (fun w hw=>by simp[hw])
   have hl:=sum_at h h2 (.inr rfl) ta tb
   show refS (a++ [45]::b) k=_
   have hg:(a++ [45]::b).getD a.length [] = [45]:=by simp[List.getD_eq_getElem?_getD]
   rw[refS,dif_pos (by rw[hl];omega),hl,Int.toNat_natCast,take_at.1,take_at.2,hg,if_pos rfl]
   exact two_mk (ih ta) (ih2 tb)
 | @mB k c e h ih=>
   intro ht
   have tc:=ht.sub (d:=c) (fun w hw=>by simp[hw])
   have hl:0<c.length:=List.length_pos_iff.2 (dv_ne h)
   have hlen:([40]::(c++ [[41]])).length=c.length+2:=by simp
   have hB:inBr ([40]::(c++ [[41]])):=by
    refine⟨rfl,?_,by omega⟩
    rw[hlen,show c.length+2 - 1=c.length+1 by omega,List.getD_eq_getElem?_getD,List.getElem?_cons_succ,List.getElem?_append_right (by omega)]
    simp
   have hin:(([40]::(c++ [[41]])).drop 1).take (([40]::(c++ [[41]])).length - 2)=c:=by
    rw[hlen,show c.length+2 - 2=c.length by omega]
    show(c++ [[41]]).take c.length=c
    simp
   show refN ([40]::(c++ [[41]])) (k+1)=_
   have hcut:cutM c [[41]] =none:=cut_none (fun x w y e hd hw=>by
    have:=(dv_fl h tc).fr x w y e hd
    rw[List.mem_singleton] at hw;subst hw
    exact not_ok (by kernel_rfl) (by decide) this)
   rw[refN,dif_neg (by rintro (k|k); · cases k
                       · omega),dif_pos hB,hin,if_neg (by rw[hcut];decide)]
   exact ih tc
 | @mL k c e h=>
   intro ht
   obtain⟨h1,h2⟩:=lit_cpl h ht
   show refN c (k+1)=_
   rw[refN,dif_neg (by rintro (q|q); · exact dv_ne (Dv.mL (k:=k) h) q
                       · omega),dif_neg h2]
   exact h1
theorem refO_iff{l:List Str}{k:Nat}{e:Ex}(ht:TokA l):refO l k=(e,true)↔Dv .O k l e:=⟨(ref_snd _).1 l k e (Nat.lt_succ_self _) ht,fun h=>ref_cpl h ht⟩
end Go.Proofs.YtadjbegnlimepaaGreatDoor
namespace Go.Proofs.YtadjbegnlimepaaGreatDoor
open Go.Abs
set_option maxRecDepth 100000
set_option linter.unusedVariables false
set_option linter.unusedSimpArgs false
def SndA{α:Type}(P:List Str→α→Prop)(f:Rd→α×Rd):Prop:= ∀r,(f r).2.bad=false→ ∃c,r.l=c++(f r).2.l∧P c (f r).1
structure Stop (w:Str):Prop extends EndT w where
 and:w≠wAND
 or:w≠wOR
 must:w≠wMUST
def CplA{α:Type}(P:List Str→α→Prop)(f:Rd→α×Rd):Prop:= ∀c a,P c a→ ∀w x,Stop w→f ⟨c++w::x,false⟩=(a,⟨w::x,false⟩)
theorem stop_of{w:Str}(h:([[46],[43],[45],wIS,[61],[60],wAND,wOR,wMUST]:List Str).all (fun u=>w !=u)=true):Stop w:=by
 simp only[List.all_cons,List.all_nil,Bool.and_eq_true,bne_iff_ne,Bool.and_true] at h
 obtain⟨h1,h2,h3,h4,h5,h6,h7,h8,h9⟩:=h
 exact⟨⟨⟨h1,h2,h3⟩,h4,h5,h6⟩,h7,h8,h9⟩
theorem cpl_o(k:Nat):CplA (Dv .O k) (psO k):=fun c e h w x hw=>o_read h hw.toEndT hw.and hw.or x
theorem snd_o(k:Nat):SndA (Dv .O k) (psO k):=snd_O k
inductive Ls {α:Type} (P:List Str→α→Prop):List Str→List α→Prop
 |one {c:List Str} {a:α} (h:P c a):Ls P c [a]
 |cons {c d:List Str} {a:α} {l:List α} (h:P c a) (t:Ls P d l):Ls P (c++ [44]::d) (a::l)
theorem snd_listL{α:Type}{P:List Str→α→Prop}{f:Rd→α×Rd}(lf:Loc f)(hf:SndA P f): ∀(n:Nat) (l:List α) (r:Rd),r.l.length<n→(psListL f n l r).2.bad=false→ ∃c m,r.l=c++(psListL f n l r).2.l∧Ls P c m∧(psListL f n l r).1=l++m
 |0,l,r,hn,hb=>by omega
 |n+1,l,r,hn,hb=>by
  unfold psListL at hb⊢
  by_cases k0:r.bad=true
  · rw[if_pos k0] at hb;rw[hb] at k0;cases k0
  rw[if_neg k0] at hb⊢
  by_cases k1:(atRd (f r).2 [[44]]).1=true
  · rw[if_pos k1] at hb⊢
    have hb2:=(Loc.listL lf n _).bd _ hb
    rw[at_bd] at hb2
    obtain⟨c,e1,e2⟩:=hf r hb2
    obtain⟨f1,_⟩:=at_l1 k1
    have hlt:=at_lt k1 (by decide)
    have hle:=(lf.sf r).le
    obtain⟨d,m,g1,g2,g3⟩:=snd_listL lf hf n _ _ (by omega) hb
    refine⟨c++ [44]::d,(f r).1::m,?_,.cons e2 g2,by rw[g3];simp⟩
    conv=>lhs;rw[e1,f1,g1]
    simp
  · rw[if_neg k1] at hb⊢
    dsimp only at hb⊢
    rw[at_bd] at hb
    obtain⟨c,e1,e2⟩:=hf r hb
    refine⟨c,[(f r).1],?_,.one e2,rfl⟩
    have:(atRd (f r).2 [[44]]).2=(f r).2:=by
     unfold atRd at k1⊢
     split
     · rfl
     · rename_i q
       rw[if_neg q] at k1
       split
       · rename_i q2;rw[if_pos q2] at k1;exact absurd rfl k1
       · rfl
    rw[this];exact e1
theorem snd_list{α:Type}{P:List Str→α→Prop}{f:Rd→α×Rd}(lf:Loc f)(hf:SndA P f):SndA (Ls P) (psList f):=fun r hb=>by
 obtain⟨c,m,h1,h2,h3⟩:=snd_listL lf hf _ [] r (Nat.lt_succ_self _) hb
 refine⟨c,h1,?_⟩
 have:(psList f r).1=m:=h3
 rw[this];exact h2
theorem cpl_list{α:Type}{P:List Str→α→Prop}{f:Rd→α×Rd}(lf:Loc f)(hf:CplA P f): ∀{c:List Str} {m:List α},Ls P c m→ ∀w x,Stop w→w≠ [44] → ∀(n:Nat) (l:List α),(c++w::x).length<n→psListL f n l ⟨c++w::x,false⟩=(l++m,⟨w::x,false⟩):=by
 intro c m h
 induction h with
 | @one c a h=>
   intro w x hw hc n l hn
   obtain⟨n,rfl⟩: ∃k,n=k+1:=⟨n - 1,by omega⟩
   unfold psListL
   rw[if_neg Bool.false_ne_true,hf c a h w x hw]
   dsimp only
   rw[at_not hc,if_neg Bool.false_ne_true]
 | @cons c d a m h t ih=>
   intro w x hw hc n l hn
   obtain⟨n,rfl⟩: ∃k,n=k+1:=⟨n - 1,by omega⟩
   have el:(c++ [44]::d)++w::x=c++ [44]::(d++w::x):=by simp
   rw[el] at hn⊢
   unfold psListL
   rw[if_neg Bool.false_ne_true,hf c a h [44] (d++w::x) (stop_of (by decide))]
   dsimp only
   rw[at_one,if_pos rfl,ih w x hw hc n _ (by simp only[List.length_append,List.length_cons] at hn⊢;omega)]
   simp
theorem list_read{α:Type}{P:List Str→α→Prop}{f:Rd→α×Rd}(lf:Loc f)(hf:CplA P f){c:List Str}{m:List α}(h:Ls P c m){w:Str}(hw:Stop w)(hc:w≠ [44])(x:List Str):psList f ⟨c++w::x,false⟩=(m,⟨w::x,false⟩):=by
 have:=cpl_list lf hf h w x hw hc ((c++w::x).length+1) [] (Nat.lt_succ_self _)
 exact this
inductive ColD:List Str→Col→Prop
 |i {n:Str} (h:namedM n=true):ColD [n,wINT] ⟨n,1,false⟩
 |im {n:Str} (h:namedM n=true):ColD [n,wINT,wMUST] ⟨n,1,true⟩
 |t {n:Str} (h:namedM n=true):ColD [n,wTEXT] ⟨n,2,false⟩
 |tm {n:Str} (h:namedM n=true):ColD [n,wTEXT,wMUST] ⟨n,2,true⟩
inductive NameD:List Str→Str→Prop
 |n {s:Str} (h:namedM s=true):NameD [s] s
inductive RowD:List Str→List Ex→Prop
 |r {d:List Str} {l:List Ex} (h:Ls (Dv .O 6) d l):RowD ([40]::(d++ [[41]])) l
inductive SetD:List Str→Ast→Prop
 |s {n:Str} {d:List Str} {e:Ex} (hn:namedM n=true) (h:Dv .O 6 d e):SetD (n:: [61]::d) ⟨n,e⟩
theorem at_off{r:Rd}{ws:List Str}(h: ¬(atRd r ws).1=true):(atRd r ws).2=r:=by
 unfold atRd at h⊢
 split
 · rfl
 · rename_i q
   rw[if_neg q] at h
   split
   · rename_i q2;rw[if_pos q2] at h;exact absurd rfl h
   · rfl
theorem colEnd_snd{n:Str}{t:Int}{r:Rd}:((atRd r [wMUST]).1=true∧r.l=wMUST::(colEnd n t r).2.l∧(colEnd n t r).1=⟨n,t,true⟩)∨(¬(atRd r [wMUST]).1=true∧r.l=(colEnd n t r).2.l∧(colEnd n t r).1=⟨n,t,false⟩):=by
 by_cases k:(atRd r [wMUST]).1=true
 · left;exact⟨k,(at_l1 k).1,by unfold colEnd;rw[k]⟩
 · right
   refine⟨k,?_,?_⟩
   · show _=(atRd r [wMUST]).2.l;rw[at_off k]
   · unfold colEnd
     have:(atRd r [wMUST]).1=false:=by simpa using k
     rw[this]
theorem colEnd_bd{n:Str}{t:Int}{r:Rd}(h:(colEnd n t r).2.bad=false):r.bad=false:=by
 have:(atRd r [wMUST]).2.bad=false:=h
 rw[at_bd] at this;exact this
theorem snd_col:SndA ColD psCol:=fun r hb=>by
 unfold psCol at hb⊢
 by_cases k1:(atRd (nameM r).2 [wINT]).1=true
 · rw[if_pos k1] at hb⊢
   have h1:=colEnd_bd hb
   obtain⟨f1,f2⟩:=at_l1 k1
   rw[f2] at h1
   obtain⟨e1,e2,_⟩:=name_l h1
   rcases colEnd_snd (n:=(nameM r).1) (t:=1) (r:=(atRd (nameM r).2 [wINT]).2) with⟨_,g1,g2⟩|⟨_,g1,g2⟩
   · exact⟨[(nameM r).1,wINT,wMUST],by rw[e1,f1,g1];rfl,by rw[g2];exact .im e2⟩
   · exact⟨[(nameM r).1,wINT],by rw[e1,f1,g1];rfl,by rw[g2];exact .i e2⟩
 rw[if_neg k1] at hb⊢
 by_cases k2:(atRd (nameM r).2 [wTEXT]).1=true
 · rw[if_pos k2] at hb⊢
   have h1:=colEnd_bd hb
   obtain⟨f1,f2⟩:=at_l1 k2
   rw[f2] at h1
   obtain⟨e1,e2,_⟩:=name_l h1
   rcases colEnd_snd (n:=(nameM r).1) (t:=2) (r:=(atRd (nameM r).2 [wTEXT]).2) with⟨_,g1,g2⟩|⟨_,g1,g2⟩
   · exact⟨[(nameM r).1,wTEXT,wMUST],by rw[e1,f1,g1];rfl,by rw[g2];exact .tm e2⟩
   · exact⟨[(nameM r).1,wTEXT],by rw[e1,f1,g1];rfl,by rw[g2];exact .t e2⟩
 rw[if_neg k2] at hb
 have:=colEnd_bd hb
 cases this
theorem cpl_col:CplA ColD psCol:=fun c a h w x hs=>by
 have hw:=hs.must
 cases h with
 | @i n h=>
   show psCol ⟨n::wINT::w::x,false⟩=_
   unfold psCol
   rw[name_read h];dsimp only
   rw[at_one,if_pos rfl]
   unfold colEnd
   rw[at_not hw]
 | @im n h=>
   show psCol ⟨n::wINT::wMUST::w::x,false⟩=_
   unfold psCol
   rw[name_read h];dsimp only
   rw[at_one,if_pos rfl]
   unfold colEnd
   rw[at_one]
 | @t n h=>
   show psCol ⟨n::wTEXT::w::x,false⟩=_
   unfold psCol
   rw[name_read h];dsimp only
   rw[at_not (by decide),if_neg Bool.false_ne_true,at_one,if_pos rfl]
   unfold colEnd
   rw[at_not hw]
 | @tm n h=>
   show psCol ⟨n::wTEXT::wMUST::w::x,false⟩=_
   unfold psCol
   rw[name_read h];dsimp only
   rw[at_not (by decide),if_neg Bool.false_ne_true,at_one,if_pos rfl]
   unfold colEnd
   rw[at_one]
theorem snd_name:SndA NameD nameM:=fun r hb=>by
 obtain⟨e1,e2,_⟩:=name_l hb
 exact⟨[(nameM r).1],e1,.n e2⟩
theorem cpl_name:CplA NameD nameM:=fun c a h w x hw=>by cases h with|n h=>exact name_read h
theorem snd_row:SndA RowD psRow:=fun r hb=>by
 unfold psRow at hb⊢
 dsimp only at hb⊢
 obtain⟨e1,e2⟩:=take_l hb
 obtain⟨c,f1,f2⟩:=snd_list (Loc.o 6) (snd_o 6) _ e2
 have h3:=(Loc.list (Loc.o 6)).bd _ e2
 obtain⟨g1,_⟩:=take_l h3
 refine⟨[40]::(c++ [[41]]),?_,.r f2⟩
 rw[g1,f1,e1];simp
theorem cpl_row:CplA RowD psRow:=fun c a h w x hw=>by
 cases h with
 | @r d l h=>
   have el:([40]::(d++ [[41]]))++w::x= [40]::(d++ [41]::w::x):=by simp
   rw[el]
   have e1:takeM ⟨[40]::(d++ [41]::w::x),false⟩ [[40]] =⟨d++ [41]::w::x,false⟩:=by unfold takeM;rw[at_one,if_pos rfl]
   have e2:=list_read (Loc.o 6) (cpl_o 6) h (w:= [41]) (stop_of (by decide)) (by decide) (w::x)
   unfold psRow
   rw[e1,e2]
   dsimp only
   unfold takeM
   rw[at_one,if_pos rfl]
theorem snd_set:SndA SetD psSet:=fun r hb=>by
 unfold psSet at hb⊢
 dsimp only at hb⊢
 obtain⟨c,f1,f2⟩:=snd_o 6 _ hb
 have h3:=(Loc.o 6).bd _ hb
 obtain⟨g1,g2⟩:=take_l h3
 obtain⟨e1,e2,_⟩:=name_l g2
 exact⟨(nameM r).1:: [61]::c,by rw[e1,g1,f1];rfl,.s e2 f2⟩
theorem cpl_set:CplA SetD psSet:=fun c a h w x hw=>by
 cases h with
 | @s n d e hn h=>
   show psSet ⟨n:: [61]::(d++w::x),false⟩=_
   unfold psSet
   rw[name_read hn];dsimp only
   unfold takeM
   rw[at_one,if_pos rfl,cpl_o 6 d e h w x hw]
inductive WhD:List Str→Ex→Prop
 |no:WhD [] nilE
 |wh {d:List Str} {e:Ex} (h:Dv .O 6 d e):WhD (wWHERE::d) e
inductive OrdD:List Str→List Ex×Bool→Prop
 |no:OrdD [] ([],false)
 |up {d:List Str} {e:Ex} (h:Dv .O 6 d e):OrdD (wORDER::wBY::d) ([e],false)
 |dn {d:List Str} {e:Ex} (h:Dv .O 6 d e):OrdD (wORDER::wBY::(d++ [wDESC])) ([e],true)
inductive LimD:List Str→Int→Prop
 |no:LimD [] (-1)
 |n {s:Str} {n:Int} (h0:s≠ []) (h:numS s=some n):LimD [wLIMIT,s] n
inductive OutD:List Str→List Ex→Prop
 |all:OutD [[42]] []
 |some {d:List Str} {l:List Ex} (h:Ls (Dv .O 6) d l):OutD d l
theorem snd_where:SndA WhD psWhere:=fun r hb=>by
 unfold psWhere at hb⊢
 by_cases k:(atRd r [wWHERE]).1=true
 · rw[if_pos k] at hb⊢
   obtain⟨c,f1,f2⟩:=snd_o 6 _ hb
   exact⟨wWHERE::c,by rw[(at_l1 k).1,f1];rfl,.wh f2⟩
 · rw[if_neg k];exact⟨[],rfl,.no⟩
theorem where_read{c:List Str}{e:Ex}(h:WhD c e){w:Str}(hw:Stop w)(h1:w≠wWHERE)(x:List Str):psWhere ⟨c++w::x,false⟩=(e,⟨w::x,false⟩):=by
 cases h with
 |no=>
  show psWhere ⟨w::x,false⟩=_
  unfold psWhere
  rw[at_not h1,if_neg Bool.false_ne_true]
 | @wh d e h=>
   show psWhere ⟨wWHERE::(d++w::x),false⟩=_
   unfold psWhere
   rw[at_one,if_pos rfl]
   exact cpl_o 6 d e h w x hw
theorem snd_ord:SndA OrdD psOrd:=fun r hb=>by
 unfold psOrd at hb⊢
 by_cases k:(atRd r [wORDER,wBY]).1=true
 · rw[if_pos k] at hb⊢
   dsimp only at hb⊢
   rw[at_bd] at hb
   obtain⟨c,f1,f2⟩:=snd_o 6 _ hb
   by_cases k2:(atRd (psO 6 (atRd r [wORDER,wBY]).2).2 [wDESC]).1=true
   · refine⟨wORDER::wBY::(c++ [wDESC]),?_,?_⟩
     · rw[(at_l1 k).1]
       conv=>lhs;rw[f1,(at_l1 k2).1]
       simp
     · rw[k2];exact .dn f2
   · refine⟨wORDER::wBY::c,?_,?_⟩
     · rw[(at_l1 k).1]
       conv=>lhs;rw[f1]
       rw[at_off k2];simp
     · have:(atRd (psO 6 (atRd r [wORDER,wBY]).2).2 [wDESC]).1=false:=by simpa using k2
       rw[this];exact .up f2
 · rw[if_neg k];exact⟨[],rfl,.no⟩
theorem ord_read{c:List Str}{e:List Ex×Bool}(h:OrdD c e){w:Str}(hw:Stop w)(h1:w≠wORDER)(h2:w≠wDESC)(x:List Str):psOrd ⟨c++w::x,false⟩=(e,⟨w::x,false⟩):=by
 cases h with
 |no=>
  show psOrd ⟨w::x,false⟩=_
  unfold psOrd
  rw[at_not h1,if_neg Bool.false_ne_true]
 | @up d e h=>
   show psOrd ⟨wORDER::wBY::(d++w::x),false⟩=_
   unfold psOrd
   rw[at_two,if_pos rfl]
   dsimp only
   rw[cpl_o 6 d e h w x hw]
   dsimp only
   rw[at_not h2]
 | @dn d e h=>
   have el:(wORDER::wBY::(d++ [wDESC]))++w::x=wORDER::wBY::(d++wDESC::w::x):=by simp
   rw[el]
   unfold psOrd
   rw[at_two,if_pos rfl]
   dsimp only
   rw[cpl_o 6 d e h wDESC (w::x) (stop_of (by decide))]
   dsimp only
   rw[at_one]
theorem snd_lim:SndA LimD psLimit:=fun r hb=>by
 unfold psLimit at hb⊢
 by_cases k:(atRd r [wLIMIT]).1=true
 · rw[if_pos k] at hb⊢
   obtain⟨s,e1,e2,e3,_⟩:=number_l hb
   exact⟨[wLIMIT,s],by rw[(at_l1 k).1,e1];rfl,.n e2 e3⟩
 · rw[if_neg k];exact⟨[],rfl,.no⟩
theorem lim_read{c:List Str}{n:Int}(h:LimD c n){w:Str}(h1:w≠wLIMIT)(x:List Str):psLimit ⟨c++w::x,false⟩=(n,⟨w::x,false⟩):=by
 cases h with
 |no=>
  show psLimit ⟨w::x,false⟩=_
  unfold psLimit
  rw[at_not h1,if_neg Bool.false_ne_true]
 | @n s n h0 h=>
   show psLimit ⟨wLIMIT::s::w::x,false⟩=_
   unfold psLimit
   rw[at_one,if_pos rfl]
   have en:nextM ⟨s::w::x,false⟩=(s,⟨w::x,false⟩):=by unfold nextM;rw[if_neg (show¬(⟨s::w::x,false⟩:Rd).front= [] from h0)];rfl
   unfold psNumber
   rw[en];dsimp only
   rw[h]
theorem snd_out:SndA OutD psOut:=fun r hb=>by
 unfold psOut at hb⊢
 by_cases k:(atRd r [[42]]).1=true
 · rw[if_pos k]
   exact⟨[[42]],(at_l1 k).1,.all⟩
 · rw[if_neg k] at hb⊢
   obtain⟨c,f1,f2⟩:=snd_list (Loc.o 6) (snd_o 6) _ hb
   exact⟨c,f1,.some f2⟩
end Go.Proofs.YtadjbegnlimepaaGreatDoor
