/- Several texts in one, each with its own sentence ahead of it. Conditions: each one says its own. -/
import Derived.Test.YtadjbegnlimepaaGreatDoorZS31
set_option linter.all false
namespace Go.Proofs.YtadjbegnlimepaaGreatDoor
open Go.Abs
set_option maxRecDepth 100000
set_option linter.unusedVariables false
set_option linter.unusedSimpArgs false
def wNULL:Str:= [110,117,108,108]
def wNOT:Str:= [110,111,116]
def wIS:Str:= [105,115]
def wAND:Str:= [97,110,100]
def wOR:Str:= [111,114]
def litE(v:Val):Ex:= .mk 1 v [] [] 0 []
inductive LitD:List Str→Ex→Prop
 |nul:LitD [wNULL] (litE nilV)
 |txt {s:Str} (h:s.headD 0=39) (h0:s≠ []) (hg:goodM (psText s)=true):LitD [s] (litE (psText s))
 |num {s:Str} {n:Int} (h:digC (s.headD 0)=true) (h0:s≠ []) (hn:numS s=some n):LitD [s] (litE ⟨1,n,[]⟩)
 |neg {s:Str} {n:Int} (h0:s≠ []) (hn:numS s=some n):LitD [[45],s] (litE ⟨1,-n,[]⟩)
 |ref {s:Str} (h:namedM s=true):LitD [s] (.mk 2 nilV [] s 0 [])
 |dot {s t:Str} (h:namedM s=true) (h2:namedM t=true):LitD [s,[46],t] (.mk 2 nilV s t 0 [])
inductive Lv|O|A|T|S|M
inductive Dv:Lv→Nat→List Str→Ex→Prop
 |oA {k:Nat} {c:List Str} {e:Ex} (h:Dv .A k c e):Dv .O k c e
 |oO {k:Nat} {a b:List Str} {e1 e2:Ex} (h:Dv .O k a e1) (h2:Dv .A k b e2):Dv .O k (a++wOR::b) (ex2 8 e1 e2)
 |aT {k:Nat} {c:List Str} {e:Ex} (h:Dv .T k c e):Dv .A k c e
 |aA {k:Nat} {a b:List Str} {e1 e2:Ex} (h:Dv .A k a e1) (h2:Dv .T k b e2):Dv .A k (a++wAND::b) (ex2 7 e1 e2)
 |tN {k:Nat} {c:List Str} {e:Ex} (h:Dv .T k c e):Dv .T (k+1) (wNOT::c) (ex1 9 e)
 |tS {k:Nat} {c:List Str} {e:Ex} (h:Dv .S (k+1) c e):Dv .T (k+1) c e
 |tI {k:Nat} {c:List Str} {e:Ex} (h:Dv .S (k+1) c e):Dv .T (k+1) (c++ [wIS,wNULL]) (ex1 10 e)
 |tE {k:Nat} {a b:List Str} {e1 e2:Ex} (h:Dv .S (k+1) a e1) (h2:Dv .S (k+1) b e2):Dv .T (k+1) (a++ [61]::b) (ex2 5 e1 e2)
 |tL {k:Nat} {a b:List Str} {e1 e2:Ex} (h:Dv .S (k+1) a e1) (h2:Dv .S (k+1) b e2):Dv .T (k+1) (a++ [60]::b) (ex2 6 e1 e2)
 |sM {k:Nat} {c:List Str} {e:Ex} (h:Dv .M k c e):Dv .S k c e
 |sP {k:Nat} {a b:List Str} {e1 e2:Ex} (h:Dv .S k a e1) (h2:Dv .M k b e2):Dv .S k (a++ [43]::b) (ex2 3 e1 e2)
 |sN {k:Nat} {a b:List Str} {e1 e2:Ex} (h:Dv .S k a e1) (h2:Dv .M k b e2):Dv .S k (a++ [45]::b) (ex2 4 e1 e2)
 |mB {k:Nat} {c:List Str} {e:Ex} (h:Dv .O k c e):Dv .M (k+1) ([40]::(c++ [[41]])) e
 |mL {k:Nat} {c:List Str} {e:Ex} (h:LitD c e):Dv .M (k+1) c e
def Snd(P:List Str→Ex→Prop)(f:Rd→Ex×Rd):Prop:= ∀r,(f r).2.bad=false→ ∃c,r.l=c++(f r).2.l∧P c (f r).1
theorem at_l1{r:Rd}{ws:List Str}(h:(atRd r ws).1=true):r.l=ws++(atRd r ws).2.l∧(atRd r ws).2.bad=r.bad:=by
 unfold atRd at h⊢
 split at h
 · cases h
 rename_i h1
 rw[if_neg h1]
 split at h
 · rename_i h2
   rw[if_pos h2]
   rw[eqSl_iff] at h2
   refine⟨?_,rfl⟩
   conv=>lhs;rw[←List.take_append_drop ws.length r.l,h2]
 · cases h
theorem take_l{r:Rd}{w:Str}(h:(takeM r [w]).bad=false):r.l=w::(takeM r [w]).l∧r.bad=false:=by
 obtain⟨l,e1,e2⟩:=take_semi h
 rw[e2,e1];exact⟨rfl,rfl⟩
theorem name_l{r:Rd}(h:(nameM r).2.bad=false):r.l=(nameM r).1::(nameM r).2.l∧namedM (nameM r).1=true∧r.bad=false:=by
 unfold nameM nextM at h⊢
 by_cases h0:r.front= []
 · rw[if_pos h0] at h;simp at h
 rw[if_neg h0] at h⊢
 dsimp only at h⊢
 simp only[Bool.or_eq_false_iff,Bool.not_eq_false'] at h
 obtain⟨l,b⟩:=r
 cases l with
 |nil=>exact absurd rfl h0
 |cons a l=>exact⟨rfl,h.2,h.1⟩
theorem number_l{r:Rd}(h:(psNumber r).2.bad=false): ∃s,r.l=s::(psNumber r).2.l∧s≠ [] ∧numS s=some (psNumber r).1∧r.bad=false:=by
 unfold psNumber at h⊢
 cases hn:numS (nextM r).1 with
 |none=>rw[hn] at h;cases h
 |some n=>
  rw[hn] at h
  dsimp only at h⊢
  unfold nextM at h hn⊢
  by_cases h0:r.front= []
  · rw[if_pos h0] at h;cases h
  rw[if_neg h0] at h hn⊢
  obtain⟨l,b⟩:=r
  cases l with
  |nil=>exact absurd rfl h0
  |cons a l=>exact⟨a,rfl,h0,hn,h⟩
theorem next_l{r:Rd}(h:(nextM r).2.bad=false):r.l=(nextM r).1::(nextM r).2.l∧(nextM r).1=r.front∧r.front≠ [] ∧r.bad=false:=by
 unfold nextM at h⊢
 by_cases h0:r.front= []
 · rw[if_pos h0] at h;cases h
 rw[if_neg h0] at h⊢
 obtain⟨l,b⟩:=r
 cases l with
 |nil=>exact absurd rfl h0
 |cons a l=>exact⟨rfl,rfl,h0,h⟩
theorem snd_lit(r:Rd)(h1:(psLit r).1.2=true)(hb:(psLit r).2.bad=false): ∃c,r.l=c++(psLit r).2.l∧LitD c (litE (psLit r).1.1):=by
 unfold psLit at h1 hb⊢
 by_cases k1:(atRd r [[110,117,108,108]]).1=true
 · rw[if_pos k1]
   exact⟨_,(at_l1 k1).1,.nul⟩
 rw[if_neg k1] at h1 hb⊢
 by_cases k2:(atRd r [[45]]).1=true
 · rw[if_pos k2] at hb⊢
   obtain⟨s,e1,e2,e3,_⟩:=number_l hb
   refine⟨[[45],s],?_,.neg e2 e3⟩
   rw[(at_l1 k2).1,e1];rfl
 rw[if_neg k2] at h1 hb⊢
 by_cases k3:r.front≠ [] ∧digC (r.front.headD 0)=true
 · rw[if_pos k3] at hb⊢
   obtain⟨s,e1,e2,e3,_⟩:=number_l hb
   have ef:r.front=s:=by unfold Rd.front;rw[e1];rfl
   refine⟨[s],e1,.num (by rw[←ef];exact k3.2) e2 e3⟩
 rw[if_neg k3] at h1 hb⊢
 by_cases k4:r.front≠ [] ∧r.front.headD 0=39
 · rw[if_pos k4] at hb⊢
   dsimp only at hb⊢
   simp only[Bool.or_eq_false_iff,Bool.not_eq_false'] at hb
   obtain⟨e1,e2,e3,_⟩:=next_l hb.1
   exact⟨[r.front],by rw[e1,e2];rfl,.txt k4.2 k4.1 hb.2⟩
 rw[if_neg k4] at h1
 cases h1
theorem snd_ref(r:Rd)(hb:(psRef r).2.bad=false): ∃c,r.l=c++(psRef r).2.l∧LitD c (psRef r).1:=by
 unfold psRef at hb⊢
 by_cases k1:(atRd (nameM r).2 [[46]]).1=true
 · rw[if_pos k1] at hb⊢
   dsimp only at hb⊢
   obtain⟨e1,e2,e3⟩:=name_l hb
   obtain⟨f1,f2⟩:=at_l1 k1
   rw[f2] at e3
   obtain⟨g1,g2,_⟩:=name_l e3
   exact⟨[(nameM r).1,[46],(nameM (atRd (nameM r).2 [[46]]).2).1],by rw[g1,f1,e1];rfl,.dot g2 e2⟩
 · rw[if_neg k1] at hb⊢
   dsimp only at hb⊢
   rw[at_bd] at hb
   obtain⟨e1,e2,_⟩:=name_l hb
   refine⟨[(nameM r).1],?_,.ref e2⟩
   have:(atRd (nameM r).2 [[46]]).2=(nameM r).2:=by
    unfold atRd at k1⊢
    split
    · rfl
    · rename_i q
      rw[if_neg q] at k1
      split
      · rename_i q2;rw[if_pos q2] at k1;exact absurd rfl k1
      · rfl
   rw[this,e1];rfl
theorem snd_atom{k:Nat}(ho:Snd (Dv .O k) (psO k)):Snd (Dv .M (k+1)) (psAtom (psO k)):=fun r hb=>by
 unfold psAtom at hb⊢
 by_cases k0:r.bad=true
 · rw[if_pos k0] at hb;cases hb
 rw[if_neg k0] at hb⊢
 by_cases k1:(atRd r [[40]]).1=true
 · rw[if_pos k1] at hb⊢
   dsimp only at hb⊢
   obtain⟨e1,e2⟩:=take_l hb
   obtain⟨c,f1,f2⟩:=ho _ e2
   refine⟨[40]::(c++ [[41]]),?_,.mB f2⟩
   rw[(at_l1 k1).1,f1,e1]
   simp
 rw[if_neg k1] at hb⊢
 by_cases k2:(psLit r).1.2=true
 · rw[if_pos k2] at hb⊢
   obtain⟨c,e1,e2⟩:=snd_lit r k2 hb
   exact⟨c,e1,.mL e2⟩
 · rw[if_neg k2] at hb⊢
   obtain⟨c,e1,e2⟩:=snd_ref r hb
   exact⟨c,e1,.mL e2⟩
theorem snd_sumL{k:Nat}{a:Rd→Ex×Rd}(la:Loc a)(ha:Snd (Dv .M k) a): ∀(n:Nat) (c0:List Str) (e0:Ex) (r:Rd),Dv .S k c0 e0→(psSumL a n e0 r).2.bad=false→ ∃c,r.l=c++(psSumL a n e0 r).2.l∧Dv .S k (c0++c) (psSumL a n e0 r).1
 |0,c0,e0,r,h0,hb=>⟨[],rfl,by rw[List.append_nil];exact h0⟩
 |n+1,c0,e0,r,h0,hb=>by
  unfold psSumL at hb⊢
  by_cases k0:r.bad=true
  · rw[if_pos k0] at hb;rw[hb] at k0;cases k0
  rw[if_neg k0] at hb⊢
  by_cases k1:(atRd r [[43]]).1=true
  · rw[if_pos k1] at hb⊢
    obtain⟨c1,e1,e2⟩:=ha _ ((Loc.sumL la n _).bd _ hb)
    obtain⟨c2,f1,f2⟩:=snd_sumL la ha n (c0++ [43]::c1) _ _ (.sP h0 e2) hb
    refine⟨[43]::(c1++c2),?_,?_⟩
    · rw[(at_l1 k1).1,e1]
      conv=>lhs;rw[f1]
      simp
    · simpa using f2
  rw[if_neg k1] at hb⊢
  by_cases k2:(atRd r [[45]]).1=true
  · rw[if_pos k2] at hb⊢
    obtain⟨c1,e1,e2⟩:=ha _ ((Loc.sumL la n _).bd _ hb)
    obtain⟨c2,f1,f2⟩:=snd_sumL la ha n (c0++ [45]::c1) _ _ (.sN h0 e2) hb
    refine⟨[45]::(c1++c2),?_,?_⟩
    · rw[(at_l1 k2).1,e1]
      conv=>lhs;rw[f1]
      simp
    · simpa using f2
  rw[if_neg k2] at hb⊢
  exact⟨[],rfl,by rw[List.append_nil];exact h0⟩
theorem snd_sum{k:Nat}{a:Rd→Ex×Rd}(la:Loc a)(ha:Snd (Dv .M k) a):Snd (Dv .S k) (psSum a):=fun r hb=>by
 unfold psSum at hb⊢
 obtain⟨c1,e1,e2⟩:=ha _ ((Loc.sumL la _ _).bd _ hb)
 obtain⟨c2,f1,f2⟩:=snd_sumL la ha _ _ _ _ (.sM e2) hb
 exact⟨c1++c2,by rw[List.append_assoc,←f1];exact e1,f2⟩
theorem snd_joinL{P Q:List Str→Ex→Prop}{op:Int}{w:Str}{s:Rd→Ex×Rd}(hw: ¬stp w)(ls:Loc s)(hs:Snd P s)(hq: ∀a b e1 e2,Q a e1→P b e2→Q (a++w::b) (ex2 op e1 e2)): ∀(n:Nat) (c0:List Str) (e0:Ex) (r:Rd),Q c0 e0→(psJoinL op w s n e0 r).2.bad=false→ ∃c,r.l=c++(psJoinL op w s n e0 r).2.l∧Q (c0++c) (psJoinL op w s n e0 r).1
 |0,c0,e0,r,h0,hb=>⟨[],rfl,by rw[List.append_nil];exact h0⟩
 |n+1,c0,e0,r,h0,hb=>by
  unfold psJoinL at hb⊢
  by_cases k0:r.bad=true
  · rw[if_pos k0] at hb;rw[hb] at k0;cases k0
  rw[if_neg k0] at hb⊢
  by_cases k1:(atRd r [w]).1=true
  · rw[if_pos k1] at hb⊢
    obtain⟨c1,e1,e2⟩:=hs _ ((Loc.joinL hw ls n _).bd _ hb)
    obtain⟨c2,f1,f2⟩:=snd_joinL hw ls hs hq n (c0++w::c1) _ _ (hq _ _ _ _ h0 e2) hb
    refine⟨w::(c1++c2),?_,?_⟩
    · rw[(at_l1 k1).1,e1]
      conv=>lhs;rw[f1]
      simp
    · simpa using f2
  rw[if_neg k1] at hb⊢
  exact⟨[],rfl,by rw[List.append_nil];exact h0⟩
theorem snd_join{P Q:List Str→Ex→Prop}{op:Int}{w:Str}{s:Rd→Ex×Rd}(hw: ¬stp w)(ls:Loc s)(hs:Snd P s)(h1: ∀c e,P c e→Q c e)(hq: ∀a b e1 e2,Q a e1→P b e2→Q (a++w::b) (ex2 op e1 e2)):Snd Q (psJoin op w s):=fun r hb=>by
 unfold psJoin at hb⊢
 obtain⟨c1,e1,e2⟩:=hs _ ((Loc.joinL hw ls _ _).bd _ hb)
 obtain⟨c2,f1,f2⟩:=snd_joinL hw ls hs hq _ _ _ _ (h1 _ _ e2) hb
 exact⟨c1++c2,by rw[List.append_assoc,←f1];exact e1,f2⟩
theorem snd_test{k:Nat}(ht:Snd (Dv .T k) (psT k))(ls:Loc (psSum (psAtom (psO k))))(hs:Snd (Dv .S (k+1)) (psSum (psAtom (psO k)))):Snd (Dv .T (k+1)) (psT (k+1)):=fun r hb=>by
 have e0:psT (k+1) r=psTest (psT k) (psSum (psAtom (psO k))) r:=rfl
 rw[e0] at hb⊢
 generalize psSum (psAtom (psO k))=s at*
 unfold psTest at hb⊢
 by_cases k0:r.bad=true
 · rw[if_pos k0] at hb;cases hb
 rw[if_neg k0] at hb⊢
 by_cases k1:(atRd r [[110,111,116]]).1=true
 · rw[if_pos k1] at hb⊢
   obtain⟨c,e1,e2⟩:=ht _ hb
   exact⟨wNOT::c,by rw[(at_l1 k1).1,e1];rfl,.tN e2⟩
 rw[if_neg k1] at hb⊢
 by_cases k2:(atRd (s r).2 [[105,115],[110,117,108,108]]).1=true
 · rw[if_pos k2] at hb⊢
   dsimp only at hb⊢
   rw[at_bd] at hb
   obtain⟨c,e1,e2⟩:=hs _ hb
   exact⟨c++ [wIS,wNULL],by rw[e1,(at_l1 k2).1];simp[wIS,wNULL],.tI e2⟩
 rw[if_neg k2] at hb⊢
 by_cases k3:(atRd (s r).2 [[61]]).1=true
 · rw[if_pos k3] at hb⊢
   dsimp only at hb⊢
   obtain⟨c2,f1,f2⟩:=hs _ hb
   have hb2:=ls.bd _ hb
   rw[at_bd] at hb2
   obtain⟨c,e1,e2⟩:=hs _ hb2
   exact⟨c++ [61]::c2,by rw[e1,(at_l1 k3).1,f1];simp,.tE e2 f2⟩
 rw[if_neg k3] at hb⊢
 by_cases k4:(atRd (s r).2 [[60]]).1=true
 · rw[if_pos k4] at hb⊢
   dsimp only at hb⊢
   obtain⟨c2,f1,f2⟩:=hs _ hb
   have hb2:=ls.bd _ hb
   rw[at_bd] at hb2
   obtain⟨c,e1,e2⟩:=hs _ hb2
   exact⟨c++ [60]::c2,by rw[e1,(at_l1 k4).1,f1];simp,.tL e2 f2⟩
 rw[if_neg k4] at hb⊢
 obtain⟨c,e1,e2⟩:=hs _ hb
 exact⟨c,e1,.tS e2⟩
theorem snd_O_of{k:Nat}(h:Snd (Dv .T k) (psT k)):Snd (Dv .O k) (psO k):=
 snd_join nst_or (Loc.join nst_and (Loc.tt k)) (snd_join (op:=7) (w:= [97,110,100]) nst_and (Loc.tt k) h (fun _ _ h=> .aT h) (fun _ _ _ _ h1 h2=> .aA h1 h2)) (fun _ _ h=> .oA h) (fun _ _ _ _ h1 h2=> .oO h1 h2)
theorem snd_T: ∀k,Snd (Dv .T k) (psT k)
 |0=>fun r hb=>by cases hb
 |k+1=>snd_test (snd_T k) (Loc.sum (Loc.atom (Loc.o k))) (snd_sum (Loc.atom (Loc.o k)) (snd_atom (snd_O_of (snd_T k))))
theorem snd_O(k:Nat):Snd (Dv .O k) (psO k):=snd_O_of (snd_T k)
theorem first_S: ∀{lv:Lv} {k:Nat} {c:List Str} {e:Ex},Dv lv k c e→lv= .S∨lv= .M→ ∃u t,c=u::t∧u≠wNOT:=by
 intro lv k c e h
 induction h with
 |oA _ _=>rintro (h|h)<;>cases h
 |oO _ _ _ _=>rintro (h|h)<;>cases h
 |aT _ _=>rintro (h|h)<;>cases h
 |aA _ _ _ _=>rintro (h|h)<;>cases h
 |tN _ _=>rintro (h|h)<;>cases h
 |tS _ _=>rintro (h|h)<;>cases h
 |tI _ _=>rintro (h|h)<;>cases h
 |tE _ _ _ _=>rintro (h|h)<;>cases h
 |tL _ _ _ _=>rintro (h|h)<;>cases h
 |sM _ ih=>intro _;exact ih (.inr rfl)
 |sP _ _ ih _=>intro _;obtain⟨u,t,rfl,h⟩:=ih (.inl rfl);exact⟨u,_,rfl,h⟩
 |sN _ _ ih _=>intro _;obtain⟨u,t,rfl,h⟩:=ih (.inl rfl);exact⟨u,_,rfl,h⟩
 |mB _ _=>intro _;exact⟨_,_,rfl,by decide⟩
 |mL h=>
  intro _
  cases h with
  |nul=>exact⟨_,_,rfl,by decide⟩
  |txt h h0 hg=>exact⟨_,_,rfl,fun e=>by rw[e] at h;exact absurd h (by decide)⟩
  |num h h0 hn=>exact⟨_,_,rfl,fun e=>by rw[e] at h;exact absurd h (by decide)⟩
  |neg h0 hn=>exact⟨_,_,rfl,by decide⟩
  |ref h=>exact⟨_,_,rfl,(named_low h).2.2 wNOT (by simp[words,wNOT])⟩
  |dot h h2=>exact⟨_,_,rfl,(named_low h).2.2 wNOT (by simp[words,wNOT])⟩
theorem lit_read{o:Rd→Ex×Rd}{c:List Str}{e:Ex}(h:LitD c e){w:Str}(hw:w≠ [46])(x:List Str):psAtom o ⟨c++w::x,false⟩=(e,⟨w::x,false⟩):=by
 cases h with
 |nul=>
  show psAtom o ⟨wNULL::w::x,false⟩=_
  unfold psAtom psLit
  rw[if_neg Bool.false_ne_true,at_not (by decide),if_neg Bool.false_ne_true]
  have:atRd ⟨wNULL::w::x,false⟩ [[110,117,108,108]] =(true,⟨w::x,false⟩):=at_one
  rw[this,if_pos rfl,if_pos rfl];rfl
 |txt h h0 hg=>
  rename_i s
  show psAtom o ⟨s::w::x,false⟩=_
  have n1: ∀u:Str,u.headD 0≠39→s≠u:=fun u hu e=>hu (by rw[←e];exact h)
  have hf:(⟨s::w::x,false⟩:Rd).front=s:=rfl
  have hl:psLit ⟨s::w::x,false⟩=((psText s,true),⟨w::x,false⟩):=by
   unfold psLit
   rw[at_not (n1 _ (by decide)),if_neg Bool.false_ne_true,at_not (n1 _ (by decide)),if_neg Bool.false_ne_true,hf,if_neg (fun k=>absurd (h▸k.2) (by decide)),if_pos ⟨h0,h⟩]
   unfold nextM
   rw[hf,if_neg h0]
   simp[hg]
  unfold psAtom
  rw[if_neg Bool.false_ne_true,at_not (n1 _ (by decide)),if_neg Bool.false_ne_true,hl,if_pos rfl];rfl
 |num h h0 hn=>
  rename_i s n
  show psAtom o ⟨s::w::x,false⟩=_
  have n1: ∀u:Str,digC (u.headD 0)=false→s≠u:=fun u hu e=>by rw[←e,h] at hu;cases hu
  have hf:(⟨s::w::x,false⟩:Rd).front=s:=rfl
  have hN:psNumber ⟨s::w::x,false⟩=(n,⟨w::x,false⟩):=by
   have en:nextM ⟨s::w::x,false⟩=(s,⟨w::x,false⟩):=by unfold nextM;rw[hf,if_neg h0];rfl
   unfold psNumber
   rw[en];dsimp only
   rw[hn]
  have hl:psLit ⟨s::w::x,false⟩=((⟨1,n,[]⟩,true),⟨w::x,false⟩):=by
   unfold psLit
   rw[at_not (n1 _ (by decide)),if_neg Bool.false_ne_true,at_not (n1 _ (by decide)),if_neg Bool.false_ne_true,hf,if_pos ⟨h0,h⟩,hN]
  unfold psAtom
  rw[if_neg Bool.false_ne_true,at_not (n1 _ (by decide)),if_neg Bool.false_ne_true,hl,if_pos rfl];rfl
 |neg h0 hn=>
  rename_i s n
  show psAtom o ⟨[45]::s::w::x,false⟩=_
  have hN:psNumber ⟨s::w::x,false⟩=(n,⟨w::x,false⟩):=by
   have en:nextM ⟨s::w::x,false⟩=(s,⟨w::x,false⟩):=by unfold nextM;rw[if_neg (show¬(⟨s::w::x,false⟩:Rd).front= [] from h0)];rfl
   unfold psNumber
   rw[en];dsimp only
   rw[hn]
  have hl:psLit ⟨[45]::s::w::x,false⟩=((⟨1,-n,[]⟩,true),⟨w::x,false⟩):=by
   unfold psLit
   rw[at_not (by decide),if_neg Bool.false_ne_true,at_one,if_pos rfl,hN]
  unfold psAtom
  rw[if_neg Bool.false_ne_true,at_not (by decide),if_neg Bool.false_ne_true,hl,if_pos rfl];rfl
 |ref h=>
  rename_i s
  show psAtom o ⟨s::w::x,false⟩=_
  obtain⟨h0,h1,h2⟩:=named_low h
  unfold psAtom
  rw[if_neg Bool.false_ne_true,at_not (low_ne h1 h0 rfl (by decide)),if_neg Bool.false_ne_true,lit_name h,if_neg Bool.false_ne_true]
  unfold psRef
  rw[name_read h]
  dsimp only
  rw[at_not hw,if_neg Bool.false_ne_true]
 |dot h ht=>
  rename_i s t
  show psAtom o ⟨s:: [46]::t::w::x,false⟩=_
  obtain⟨h0,h1,h2⟩:=named_low h
  unfold psAtom
  rw[if_neg Bool.false_ne_true,at_not (low_ne h1 h0 rfl (by decide)),if_neg Bool.false_ne_true,lit_name h,if_neg Bool.false_ne_true]
  unfold psRef
  rw[name_read h]
  dsimp only
  rw[at_one,if_pos rfl,name_read ht]
structure EndS (w:Str):Prop where
 dot:w≠ [46]
 plus:w≠ [43]
 minus:w≠ [45]
structure EndT (w:Str):Prop extends EndS w where
 is:w≠wIS
 eq:w≠ [61]
 lt:w≠ [60]
def Reads:Lv→Nat→List Str→Ex→Prop
 | .M,k,c,e=> ∀k',k=k'+1→ ∀w x,w≠ [46] →psAtom (psO k') ⟨c++w::x,false⟩=(e,⟨w::x,false⟩)
 | .S,k,c,e=> ∀k',k=k'+1→ ∀w x n,w≠ [46] →(w::x).length<n→psSum (psAtom (psO k')) ⟨c++w::x,false⟩=psSumL (psAtom (psO k')) n e ⟨w::x,false⟩
 | .T,k,c,e=> ∀w x,EndT w→psT k ⟨c++w::x,false⟩=(e,⟨w::x,false⟩)
 | .A,k,c,e=> ∀w x n,EndT w→(w::x).length<n→psAnd (psT k) ⟨c++w::x,false⟩=psJoinL 7 wAND (psT k) n e ⟨w::x,false⟩
 | .O,k,c,e=> ∀w x n,EndT w→w≠wAND→(w::x).length<n→psO k ⟨c++w::x,false⟩=psJoinL 8 wOR (psAnd (psT k)) n e ⟨w::x,false⟩
theorem sum_end{a:Rd→Ex×Rd}{n:Nat}{e:Ex}{w:Str}{x:List Str}(h:EndS w)(hn:(w::x).length<n):psSumL a n e ⟨w::x,false⟩=(e,⟨w::x,false⟩):=by
 obtain⟨n,rfl⟩: ∃m,n=m+1:=⟨n - 1,by omega⟩
 unfold psSumL
 rw[if_neg Bool.false_ne_true,at_not h.plus,if_neg Bool.false_ne_true,at_not h.minus,if_neg Bool.false_ne_true]
theorem join_end{op:Int}{u:Str}{s:Rd→Ex×Rd}{n:Nat}{e:Ex}{w:Str}{x:List Str}(h:w≠u)(hn:(w::x).length<n):psJoinL op u s n e ⟨w::x,false⟩=(e,⟨w::x,false⟩):=by
 obtain⟨n,rfl⟩: ∃m,n=m+1:=⟨n - 1,by omega⟩
 unfold psJoinL
 rw[if_neg Bool.false_ne_true,at_not h,if_neg Bool.false_ne_true]
theorem at_is{w:Str}{x:List Str}(h:w≠wIS):atRd ⟨w::x,false⟩ [[105,115],[110,117,108,108]] =(false,⟨w::x,false⟩):=at_not h
theorem reads_of{lv:Lv}{k:Nat}{c:List Str}{e:Ex}(h:Dv lv k c e):Reads lv k c e:=by
 have lm: ∀k,Loc (psAtom (psO k)):=fun k=>Loc.atom (Loc.o k)
 induction h with
 | @oA k c e h ih=>
   intro w x n hw ha hn
   have:=ih w x n hw hn
   rw[join_end ha hn] at this
   unfold psO psOr psJoin
   rw[this]
   exact joinL_fuel (Loc.join nst_and (Loc.tt k)).sf _ _ _ _ (by simp) hn
 | @oO k a b e1 e2 h h2 ih ih2=>
   intro w x n hw ha hn
   rw[List.append_assoc,List.cons_append,ih wOR (b++w::x) ((wOR::(b++w::x)).length+1) ⟨⟨by decide,by decide,by decide⟩,by decide,by decide,by decide⟩ (by decide) (by omega)]
   conv=>lhs;unfold psJoinL
   rw[if_neg Bool.false_ne_true,at_one,if_pos rfl]
   have e3:=ih2 w x ((w::x).length+1) hw (by omega)
   rw[join_end ha (by omega)] at e3
   rw[e3]
   exact joinL_fuel (Loc.join nst_and (Loc.tt k)).sf _ _ _ _ (by simp only[List.length_cons,List.length_append];omega) hn
 | @aT k c e h ih=>
   intro w x n hw hn
   unfold psAnd psJoin
   rw[ih w x hw]
   exact joinL_fuel (Loc.tt k).sf _ _ _ _ (by simp) hn
 | @aA k a b e1 e2 h h2 ih ih2=>
   intro w x n hw hn
   rw[List.append_assoc,List.cons_append,ih wAND (b++w::x) ((wAND::(b++w::x)).length+1) ⟨⟨by decide,by decide,by decide⟩,by decide,by decide,by decide⟩ (by omega)]
   conv=>lhs;unfold psJoinL
   rw[if_neg Bool.false_ne_true,at_one,if_pos rfl,ih2 w x hw]
   exact joinL_fuel (Loc.tt k).sf _ _ _ _ (by simp only[List.length_cons,List.length_append];omega) hn
 | @tN k c e h ih=>
   intro w x hw
   show psTest (psT k) (psSum (psAtom (psO k))) _=_
   unfold psTest
   rw[if_neg Bool.false_ne_true]
   have e0:atRd ⟨(wNOT::c)++w::x,false⟩ [[110,111,116]] =(true,⟨c++w::x,false⟩):=at_one
   rw[e0,if_pos rfl,ih w x hw]
 | @tS k c e h ih=>
   intro w x hw
   obtain⟨u,t,hc,hu⟩:=first_S h (.inl rfl)
   have es:=ih k rfl w x ((w::x).length+1) hw.dot (by omega)
   rw[sum_end hw.toEndS (by omega)] at es
   have e0:atRd ⟨c++w::x,false⟩ [[110,111,116]] =(false,⟨c++w::x,false⟩):=by rw[hc];exact at_not hu
   show psTest (psT k) (psSum (psAtom (psO k))) _=_
   unfold psTest
   rw[if_neg Bool.false_ne_true,e0,if_neg Bool.false_ne_true,es]
   dsimp only
   rw[at_is hw.is,if_neg Bool.false_ne_true,at_not hw.eq,if_neg Bool.false_ne_true,at_not hw.lt,if_neg Bool.false_ne_true]
 | @tI k c e h ih=>
   intro w x hw
   obtain⟨u,t,hc,hu⟩:=first_S h (.inl rfl)
   have es:=ih k rfl wIS (wNULL::w::x) ((wIS::wNULL::w::x).length+1) (by decide) (by omega)
   rw[sum_end ⟨by decide,by decide,by decide⟩ (by omega)] at es
   have el:c++ [wIS,wNULL] ++w::x=c++wIS::wNULL::w::x:=by simp
   rw[el]
   have e0:atRd ⟨c++wIS::wNULL::w::x,false⟩ [[110,111,116]] =(false,⟨c++wIS::wNULL::w::x,false⟩):=by rw[hc];exact at_not hu
   show psTest (psT k) (psSum (psAtom (psO k))) _=_
   unfold psTest
   rw[if_neg Bool.false_ne_true,e0,if_neg Bool.false_ne_true,es]
   dsimp only
   have e2:atRd ⟨wIS::wNULL::w::x,false⟩ [[105,115],[110,117,108,108]] =(true,⟨w::x,false⟩):=at_two
   rw[e2,if_pos rfl]
 | @tE k a b e1 e2 h h2 ih ih2=>
   intro w x hw
   obtain⟨u,t,hc,hu⟩:=first_S h (.inl rfl)
   have es:=ih k rfl [61] (b++w::x) (([61]::(b++w::x)).length+1) (by decide) (by omega)
   rw[sum_end ⟨by decide,by decide,by decide⟩ (by omega)] at es
   have es2:=ih2 k rfl w x ((w::x).length+1) hw.dot (by omega)
   rw[sum_end hw.toEndS (by omega)] at es2
   rw[List.append_assoc,List.cons_append]
   have e0:atRd ⟨a++ [61]::(b++w::x),false⟩ [[110,111,116]] =(false,⟨a++ [61]::(b++w::x),false⟩):=by rw[hc];exact at_not hu
   show psTest (psT k) (psSum (psAtom (psO k))) _=_
   unfold psTest
   rw[if_neg Bool.false_ne_true,e0,if_neg Bool.false_ne_true,es]
   dsimp only
   rw[at_is (by decide),if_neg Bool.false_ne_true,at_one,if_pos rfl,es2]
 | @tL k a b e1 e2 h h2 ih ih2=>
   intro w x hw
   obtain⟨u,t,hc,hu⟩:=first_S h (.inl rfl)
   have es:=ih k rfl [60] (b++w::x) (([60]::(b++w::x)).length+1) (by decide) (by omega)
   rw[sum_end ⟨by decide,by decide,by decide⟩ (by omega)] at es
   have es2:=ih2 k rfl w x ((w::x).length+1) hw.dot (by omega)
   rw[sum_end hw.toEndS (by omega)] at es2
   rw[List.append_assoc,List.cons_append]
   have e0:atRd ⟨a++ [60]::(b++w::x),false⟩ [[110,111,116]] =(false,⟨a++ [60]::(b++w::x),false⟩):=by rw[hc];exact at_not hu
   show psTest (psT k) (psSum (psAtom (psO k))) _=_
   unfold psTest
   rw[if_neg Bool.false_ne_true,e0,if_neg Bool.false_ne_true,es]
   dsimp only
   rw[at_is (by decide),if_neg Bool.false_ne_true,at_not (by decide),if_neg Bool.false_ne_true,at_one,if_pos rfl,es2]
 | @sM k c e h ih=>
   rintro k' rfl w x n hw hn
   unfold psSum
   rw[ih k' rfl w x hw]
   exact sumL_fuel (lm k').sf _ _ _ _ (by simp) hn
 | @sP k a b e1 e2 h h2 ih ih2=>
   rintro k' rfl w x n hw hn
   rw[List.append_assoc,List.cons_append,ih k' rfl [43] (b++w::x) (([43]::(b++w::x)).length+1) (by decide) (by omega)]
   conv=>lhs;unfold psSumL
   rw[if_neg Bool.false_ne_true,at_one,if_pos rfl,ih2 k' rfl w x hw]
   exact sumL_fuel (lm k').sf _ _ _ _ (by simp only[List.length_cons,List.length_append];omega) hn
 | @sN k a b e1 e2 h h2 ih ih2=>
   rintro k' rfl w x n hw hn
   rw[List.append_assoc,List.cons_append,ih k' rfl [45] (b++w::x) (([45]::(b++w::x)).length+1) (by decide) (by omega)]
   conv=>lhs;unfold psSumL
   rw[if_neg Bool.false_ne_true,at_not (by decide),if_neg Bool.false_ne_true,at_one,if_pos rfl,ih2 k' rfl w x hw]
   exact sumL_fuel (lm k').sf _ _ _ _ (by simp only[List.length_cons,List.length_append];omega) hn
 | @mB k c e h ih=>
   rintro k' hk w x hw
   cases hk
   have e1:=ih [41] (w::x) (([41]::w::x).length+1) ⟨⟨by decide,by decide,by decide⟩,by decide,by decide,by decide⟩ (by decide) (by omega)
   rw[join_end (by decide) (by omega)] at e1
   have el:([40]::(c++ [[41]]))++w::x= [40]::(c++ [41]::w::x):=by simp
   rw[el]
   unfold psAtom
   rw[if_neg Bool.false_ne_true,at_one,if_pos rfl,e1]
   dsimp only
   unfold takeM
   rw[at_one,if_pos rfl]
 | @mL k c e h=>
   rintro k' hk w x hw
   exact lit_read h hw x
theorem o_read{k:Nat}{c:List Str}{e:Ex}(h:Dv .O k c e){w:Str}(hw:EndT w)(h1:w≠wAND)(h2:w≠wOR)(x:List Str):psO k ⟨c++w::x,false⟩=(e,⟨w::x,false⟩):=by
 have:=reads_of h w x ((w::x).length+1) hw h1 (by omega)
 rw[join_end h2 (by omega)] at this
 exact this
end Go.Proofs.YtadjbegnlimepaaGreatDoor
