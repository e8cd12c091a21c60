/- Several texts in one, each with its own sentence ahead of it. Conditions: each one says its own. -/
import Derived.KernelRfl
import Derived.Test.YtadjbegnlimepaaGreatDoorZS30
set_option linter.all false
namespace Go.Proofs.YtadjbegnlimepaaGreatDoor
open Go.Abs
set_option maxRecDepth 100000
set_option linter.unusedVariables false
set_option linter.unusedSimpArgs false
set_option maxHeartbeats 16000000
def stp(w:Str):Prop:=w= [59] ∨w= [41]
structure Loc {α:Type} (f:Rd→α×Rd):Prop where
 sf: ∀r,Sf r (f r).2
 bd: ∀r,(f r).2.bad=false→r.bad=false
 lc: ∀(c p:List Str) (w:Str) (x:List Str) (v:α),stp w→f ⟨c++w::x,false⟩=(v,⟨p++w::x,false⟩)→ ∀(w':Str) (y:List Str),stp w'→f ⟨c++w'::y,false⟩=(v,⟨p++w'::y,false⟩)
theorem Loc.bind{α β:Type}{f:Rd→α×Rd}{g:α→Rd→β×Rd}(hf:Loc f)(hg: ∀a,Loc (g a)):Loc (fun r=>g (f r).1 (f r).2) where
 sf r:=(hf.sf r).trans ((hg _).sf _)
 bd r h:=hf.bd _ ((hg _).bd _ h)
 lc c p w x v hw h w' y hw':=by
  try dsimp only at h⊢
  generalize hq:f ⟨c++w::x,false⟩=q at h
  obtain⟨a,l,b⟩:=q
  try dsimp only at h
  have nb:b=false:=(hg a).bd ⟨l,b⟩ (by rw[h])
  subst nb
  obtain⟨t,ht⟩:=((hg a).sf ⟨l,false⟩).h
  rw[h] at ht
  dsimp only at ht
  have e1:l=(t++p)++w::x:=by rw[←ht,List.append_assoc]
  subst e1
  rw[hf.lc c (t++p) w x a hw hq w' y hw']
  exact(hg a).lc (t++p) p w x v hw h w' y hw'
theorem Loc.pure{α:Type}(v:α):Loc (fun r=>(v,r)) where
 sf r:= .refl r
 bd r h:=h
 lc c p w x u hw h w' y hw':=by
  injection h with h1 h2
  injection h2 with h3 h4
  rw[h1,List.append_cancel_right h3]
theorem Loc.marked{α:Type}(v:α):Loc (fun r=>(v,(⟨r.l,true⟩:Rd))) where
 sf r:= .mark r true
 bd r h:=by cases h
 lc c p w x u hw h w' y hw':=by injection h with h1 h2;injection h2 with h3 h4;cases h4
theorem Loc.check{α:Type}(v:α)(b:Bool):Loc (fun r=>(v,(⟨r.l,r.bad||b⟩:Rd))) where
 sf r:= .mark r _
 bd r h:=by simp at h;exact h.1
 lc c p w x u hw h w' y hw':=by
  injection h with h1 h2
  injection h2 with h3 h4
  rw[h1,List.append_cancel_right h3,h4]
theorem Loc.cond{α:Type}{c:Prop}[Decidable c]{f g:Rd→α×Rd}(hf:Loc f)(hg:Loc g):Loc (fun r=>if c then f r else g r):=by
 by_cases h:c
 · simp only[if_pos h];exact hf
 · simp only[if_neg h];exact hg
theorem Loc.ifb{α:Type}{v:α}{f:Rd→α×Rd}(hf:Loc f):Loc (fun r=>if r.bad then(v,r) else f r) where
 sf r:=by
  show Sf r (if r.bad then(v,r) else f r).2
  split
  · exact .refl r
  · exact hf.sf r
 bd r h:=by
  try dsimp only at h
  split at h
  · exact h
  · exact hf.bd r h
 lc c p w x u hw h w' y hw':=hf.lc c p w x u hw h w' y hw'
theorem Loc.ifbad{α:Type}{v:α}{f:Rd→α×Rd}(hf:Loc f):Loc (fun r=>if r.bad then(v,(⟨r.l,true⟩:Rd)) else f r) where
 sf r:=by
  show Sf r (if r.bad then(v,(⟨r.l,true⟩:Rd)) else f r).2
  split
  · exact .mark r true
  · exact hf.sf r
 bd r h:=by
  try dsimp only at h
  split at h
  · cases h
  · exact hf.bd r h
 lc c p w x u hw h w' y hw':=hf.lc c p w x u hw h w' y hw'
theorem at_bd(r:Rd)(ws:List Str):(atRd r ws).2.bad=r.bad:=by
 unfold atRd;split
 · rfl
 · split<;>rfl
theorem at_cut{ws c:List Str}{w:Str}{x:List Str}{b:Bool}(hn: ∀u∈ws,¬stp u)(hw:stp w):atRd ⟨c++w::x,b⟩ ws=if ws<+:c then(true,⟨c.drop ws.length++w::x,b⟩) else(false,⟨c++w::x,b⟩):=by
 unfold atRd
 dsimp only
 by_cases hp:ws<+:c
 · obtain⟨t,rfl⟩:=hp
   rw[if_neg (by simp),if_pos (by rw[eqSl_iff];simp),if_pos (List.prefix_append _ _)]
   simp
 · rw[if_neg hp]
   split
   · rfl
   · rw[if_neg]
     intro h
     rw[eqSl_iff] at h
     by_cases hl:ws.length≤c.length
     · rw[List.take_append_of_le_length hl] at h
       exact hp ⟨c.drop ws.length,by(conv=>lhs;rw[←h]);rw[show(c.take ws.length).length=ws.length by rw[List.length_take];omega,List.take_append_drop]⟩
     · refine hn w ?_ hw
       rw[←h,List.take_append]
       obtain⟨k,hk⟩: ∃k,ws.length - c.length=k+1:=⟨ws.length - c.length - 1,by omega⟩
       rw[hk];simp
theorem Loc.at{ws:List Str}(hn: ∀u∈ws,¬stp u):Loc (fun r=>atRd r ws) where
 sf r:=sf_at r ws
 bd r h:=by rw[at_bd] at h;exact h
 lc c p w x v hw h w' y hw':=by
  try dsimp only at h⊢
  rw[at_cut hn hw] at h
  rw[at_cut hn hw']
  split at h
  · rename_i k
    rw[if_pos k]
    injection h with h1 h2
    injection h2 with h3 h4
    rw[←h1,List.append_cancel_right h3]
  · rename_i k
    rw[if_neg k]
    injection h with h1 h2
    injection h2 with h3 h4
    rw[←h1,List.append_cancel_right h3]
theorem Loc.opt{α:Type}{ws:List Str}{f g:Rd→α×Rd}(hn: ∀u∈ws,¬stp u)(hf:Loc f)(hg:Loc g):Loc (fun r=>if(atRd r ws).1 then f (atRd r ws).2 else g r) where
 sf r:=by
  show Sf r (if(atRd r ws).1 then f (atRd r ws).2 else g r).2
  split
  · exact(sf_at r ws).trans (hf.sf _)
  · exact hg.sf r
 bd r h:=by
  try dsimp only at h
  split at h
  · have:=hf.bd _ h;rw[at_bd] at this;exact this
  · exact hg.bd r h
 lc c p w x v hw h w' y hw':=by
  try dsimp only at h⊢
  rw[at_cut hn hw] at h
  rw[at_cut hn hw']
  by_cases k:ws<+:c
  · rw[if_pos k] at h⊢
    exact hf.lc _ p w x v hw h w' y hw'
  · rw[if_neg k] at h⊢
    exact hg.lc c p w x v hw h w' y hw'
theorem at_in{ws c x:List Str}{b:Bool}(h:ws<+:c):atRd ⟨c++x,b⟩ ws=(true,⟨c.drop ws.length++x,b⟩):=by
 obtain⟨t,rfl⟩:=h
 unfold atRd
 dsimp only
 rw[if_neg (by simp),if_pos (by rw[eqSl_iff];simp)]
 simp
theorem take_in{ws c p:List Str}{w:Str}{x:List Str}(h:takeM ⟨c++w::x,false⟩ ws=⟨p++w::x,false⟩):ws<+:c∧c.drop ws.length=p:=by
 have hs:(atRd ⟨c++w::x,false⟩ ws).1=true:=by
  unfold takeM at h
  split at h
  · assumption
  · injection h with h3 h4;cases h4
 unfold takeM at h
 rw[if_pos hs] at h
 unfold atRd at h hs
 dsimp only at h hs
 by_cases k1:(c++w::x).length<ws.length
 · rw[if_pos k1] at hs;cases hs
 rw[if_neg k1] at hs h
 by_cases k2:eqSl ((c++w::x).take ws.length) ws=true
 · rw[if_pos k2] at h
   injection h with h3 h4
   have hl:=congrArg List.length h3
   simp only[List.length_drop,List.length_append,List.length_cons] at hl k1
   have hle:ws.length≤c.length:=by omega
   rw[List.take_append_of_le_length hle,eqSl_iff] at k2
   rw[List.drop_append_of_le_length hle] at h3
   exact⟨⟨c.drop ws.length,by(conv=>lhs;rw[←k2]);rw[show(c.take ws.length).length=ws.length by rw[List.length_take];omega,List.take_append_drop]⟩,List.append_cancel_right h3⟩
 · rw[if_neg k2] at hs;cases hs
theorem Loc.take(ws:List Str):Loc (fun r=>((),takeM r ws)) where
 sf r:=sf_take r ws
 bd r h:=by
  dsimp only at h
  unfold takeM at h
  split at h
  · rw[at_bd] at h;exact h
  · cases h
 lc c p w x v hw h w' y hw':=by
  injection h with h1 h2
  obtain⟨i1,i2⟩:=take_in h2
  unfold takeM
  rw[at_in i1,if_pos rfl,i2]
theorem Loc.next:Loc nextM where
 sf:=sf_next
 bd r h:=by
  unfold nextM at h
  split at h
  · cases h
  · exact h
 lc c p w x v hw h w' y hw':=by
  unfold nextM at h⊢
  cases c with
  |nil=>
   split at h
   · injection h with h1 h2;injection h2 with h3 h4;cases h4
   · injection h with h1 h2;injection h2 with h3 h4
     have:=congrArg List.length h3
     simp at this;omega
  |cons a c=>
   have e1:(⟨a::c++w::x,false⟩:Rd).front=a:=rfl
   have e2:(⟨a::c++w'::y,false⟩:Rd).front=a:=rfl
   rw[e1] at h
   rw[e2]
   split at h
   · injection h with h1 h2;injection h2 with h3 h4;cases h4
   · rename_i k
     rw[if_neg k]
     injection h with h1 h2
     injection h2 with h3 h4
     have h5:c=p:=List.append_cancel_right h3
     rw[h1,←h5];rfl
theorem Loc.name:Loc nameM:=Loc.next.bind (g:=fun a r=>(a,⟨r.l,r.bad|| !namedM a⟩)) (fun a=>Loc.check a _)
theorem Loc.number:Loc psNumber:=Loc.next.bind (g:=fun a r=>match numS a with|some n=>(n,r)|none=>(0,⟨r.l,true⟩)) (fun a=>by
 cases numS a with
 |none=>exact Loc.marked 0
 |some n=>exact Loc.pure n)
theorem Loc.ref:Loc psRef:=Loc.name.bind (g:=fun s r=>if(atRd r [[46]]).1 then(Ex.mk 2 nilV s (nameM (atRd r [[46]]).2).1 0 [],(nameM (atRd r [[46]]).2).2) else(.mk 2 nilV [] s 0 [],(atRd r [[46]]).2)) (fun s=>
 (Loc.at (ws:= [[46]]) (by simp[stp])).bind (g:=fun b r=>if b then(Ex.mk 2 nilV s (nameM r).1 0 [],(nameM r).2) else(.mk 2 nilV [] s 0 [],r)) (fun b=>
   Loc.cond (Loc.name.bind (g:=fun t r=>(Ex.mk 2 nilV s t 0 [],r)) (fun t=>Loc.pure _)) (Loc.pure _)))
def psLit2(r:Rd):(Val×Bool)×Rd:=
 if r.front≠ [] ∧digC (r.front.headD 0)=true then((⟨1,(psNumber r).1,[]⟩,true),(psNumber r).2)
 else if r.front≠ [] ∧r.front.headD 0=39 then((psText r.front,true),⟨(nextM r).2.l,(nextM r).2.bad|| !goodM (psText r.front)⟩)
 else((nilV,false),r)
theorem front_cut{w:Str}{x:List Str}(hw:stp w)(b:Bool):psLit2 ⟨w::x,b⟩=((nilV,false),⟨w::x,b⟩):=by
 unfold psLit2
 rw[show(⟨w::x,b⟩:Rd).front=w from rfl]
 rcases hw with rfl|rfl
 · rw[if_neg (by decide),if_neg (by decide)]
 · rw[if_neg (by decide),if_neg (by decide)]
theorem Loc.lit2:Loc psLit2 where
 sf r:=by
  unfold psLit2
  split
  · exact sf_number r
  split
  · exact(sf_next r).to _
  · exact .refl r
 bd r h:=by
  unfold psLit2 at h
  split at h
  · exact Loc.number.bd r h
  split at h
  · simp at h;exact Loc.next.bd r h.1
  · exact h
 lc c p w x v hw h w' y hw':=by
  cases c with
  |nil=>
   rw[List.nil_append,front_cut hw] at h
   rw[List.nil_append,front_cut hw']
   exact(Loc.pure (nilV,false)).lc [] p w x v hw h w' y hw'
  |cons a c=>
   unfold psLit2 at h⊢
   rw[show(⟨a::c++w::x,false⟩:Rd).front=a from rfl] at h
   rw[show(⟨a::c++w'::y,false⟩:Rd).front=a from rfl]
   split at h
   · rename_i k
     rw[if_pos k]
     exact(Loc.number.bind (g:=fun n r=>(((⟨1,n,[]⟩:Val),true),r)) (fun n=>Loc.pure _)).lc (a::c) p w x v hw h w' y hw'
   rename_i k
   rw[if_neg k]
   split at h
   · rename_i k2
     rw[if_pos k2]
     exact(Loc.next.bind (g:=fun _ r=>((psText a,true),(⟨r.l,r.bad|| !goodM (psText a)⟩:Rd))) (fun _=>Loc.check _ _)).lc (a::c) p w x v hw h w' y hw'
   · rename_i k2
     rw[if_neg k2]
     exact(Loc.pure (nilV,false)).lc (a::c) p w x v hw h w' y hw'
theorem Loc.lit:Loc psLit:=
 Loc.opt (ws:= [[110,117,108,108]]) (f:=fun r=>((nilV,true),r)) (g:=fun r=>if(atRd r [[45]]).1 then(((⟨1,-(psNumber (atRd r [[45]]).2).1,[]⟩:Val),true),(psNumber (atRd r [[45]]).2).2) else psLit2 r) (by simp[stp]) (Loc.pure _)
  (Loc.opt (ws:= [[45]]) (f:=fun r=>(((⟨1,-(psNumber r).1,[]⟩:Val),true),(psNumber r).2)) (g:=psLit2) (by simp[stp]) (Loc.number.bind (g:=fun n r=>(((⟨1,-n,[]⟩:Val),true),r)) (fun n=>Loc.pure _)) Loc.lit2)
theorem lit_same{r:Rd}(h:(psLit r).1.2=false):(psLit r).2=r:=by
 unfold psLit at h⊢
 split at h
 · cases h
 rename_i k1
 rw[if_neg k1]
 split at h
 · cases h
 rename_i k2
 rw[if_neg k2]
 split at h
 · cases h
 rename_i k3
 rw[if_neg k3]
 split at h
 · cases h
 rename_i k4
 rw[if_neg k4]
theorem Loc.atom{o:Rd→Ex×Rd}(h:Loc o):Loc (psAtom o):=by
 have hl:Loc (fun r=>if(psLit r).1.2 then(Ex.mk 1 (psLit r).1.1 [] [] 0 [],(psLit r).2) else psRef r):=by
  have k:=Loc.lit.bind (g:=fun a r=>if a.2=true then(Ex.mk 1 a.1 [] [] 0 [],r) else psRef r) (fun a=>Loc.cond (Loc.pure _) Loc.ref)
  have e:(fun r=>if(psLit r).1.2 then(Ex.mk 1 (psLit r).1.1 [] [] 0 [],(psLit r).2) else psRef r)=(fun r=>(fun(a:Val×Bool) r=>if a.2=true then(Ex.mk 1 a.1 [] [] 0 [],r) else psRef r) (psLit r).1 (psLit r).2):=by
   funext r
   dsimp only
   cases hq:(psLit r).1.2 with
   |true=>rfl
   |false=>rw[lit_same hq]
  rw[e];exact k
 exact Loc.ifbad (Loc.opt (ws:= [[40]]) (f:=fun r=>((o r).1,takeM (o r).2 [[41]])) (by simp[stp]) (h.bind (g:=fun e r=>(e,takeM r [[41]])) (fun e=>(Loc.take [[41]]).bind (g:=fun _ r=>(e,r)) (fun _=>Loc.pure e))) hl)
theorem Loc.fuel{α:Type}{f:Rd→α×Rd}{F:Nat→Rd→α×Rd}(hF: ∀n,Loc (F n))(he: ∀n r,r.l.length<n→f r=F n r):Loc f where
 sf r:=by rw[he (r.l.length+1) r (by omega)];exact(hF _).sf r
 bd r h:=by rw[he (r.l.length+1) r (by omega)] at h;exact(hF _).bd r h
 lc c p w x v hw h w' y hw':=by
  rw[he ((c++w::x).length+(c++w'::y).length+1) _ (by dsimp only;omega)] at h⊢
  exact(hF _).lc c p w x v hw h w' y hw'
theorem Loc.sumL{a:Rd→Ex×Rd}(h:Loc a): ∀(n:Nat) (e:Ex),Loc (psSumL a n e)
 |0,e=>Loc.pure e
 |n+1,e=>Loc.ifb (Loc.opt (ws:= [[43]]) (f:=fun r=>psSumL a n (ex2 3 e (a r).1) (a r).2) (by simp[stp]) (h.bind (g:=fun b r=>psSumL a n (ex2 3 e b) r) (fun b=>Loc.sumL h n _))
   (Loc.opt (ws:= [[45]]) (f:=fun r=>psSumL a n (ex2 4 e (a r).1) (a r).2) (by simp[stp]) (h.bind (g:=fun b r=>psSumL a n (ex2 4 e b) r) (fun b=>Loc.sumL h n _)) (Loc.pure e)))
theorem sumL_fuel{a:Rd→Ex×Rd}(h: ∀r,Sf r (a r).2): ∀(n m:Nat) (e:Ex) (r:Rd),r.l.length<n→r.l.length<m→psSumL a n e r=psSumL a m e r
 |0,_,_,_,hn,_=>by omega
 |_+1,0,_,_,_,hm=>by omega
 |n+1,m+1,e,r,hn,hm=>by
  unfold psSumL
  by_cases k:r.bad=true
  · rw[if_pos k,if_pos k]
  rw[if_neg k,if_neg k]
  by_cases k1:(atRd r [[43]]).1=true
  · have:=at_lt k1 (by decide);have:=(h (atRd r [[43]]).2).le
    rw[if_pos k1,if_pos k1,sumL_fuel h n m _ _ (by omega) (by omega)]
  rw[if_neg k1,if_neg k1]
  by_cases k2:(atRd r [[45]]).1=true
  · have:=at_lt k2 (by decide);have:=(h (atRd r [[45]]).2).le
    rw[if_pos k2,if_pos k2,sumL_fuel h n m _ _ (by omega) (by omega)]
  rw[if_neg k2,if_neg k2]
theorem Loc.sum{a:Rd→Ex×Rd}(h:Loc a):Loc (psSum a):=
 Loc.fuel (F:=fun n r=>psSumL a n (a r).1 (a r).2) (fun n=>h.bind (fun e=>Loc.sumL h n e)) (fun n r hn=>by
  have:=(h.sf r).le
  exact sumL_fuel h.sf _ _ _ _ (by omega) (by omega))
theorem Loc.joinL{op:Int}{w:Str}{s:Rd→Ex×Rd}(hw: ¬stp w)(h:Loc s): ∀(n:Nat) (e:Ex),Loc (psJoinL op w s n e)
 |0,e=>Loc.pure e
 |n+1,e=>Loc.ifb (Loc.opt (ws:= [w]) (f:=fun r=>psJoinL op w s n (ex2 op e (s r).1) (s r).2) (by simp[hw]) (h.bind (g:=fun b r=>psJoinL op w s n (ex2 op e b) r) (fun b=>Loc.joinL hw h n _)) (Loc.pure e))
theorem joinL_fuel{op:Int}{w:Str}{s:Rd→Ex×Rd}(h: ∀r,Sf r (s r).2): ∀(n m:Nat) (e:Ex) (r:Rd),r.l.length<n→r.l.length<m→psJoinL op w s n e r=psJoinL op w s m e r
 |0,_,_,_,hn,_=>by omega
 |_+1,0,_,_,_,hm=>by omega
 |n+1,m+1,e,r,hn,hm=>by
  unfold psJoinL
  by_cases k:r.bad=true
  · rw[if_pos k,if_pos k]
  rw[if_neg k,if_neg k]
  by_cases k1:(atRd r [w]).1=true
  · have:=at_lt k1 (by simp);have:=(h (atRd r [w]).2).le
    rw[if_pos k1,if_pos k1,joinL_fuel h n m _ _ (by omega) (by omega)]
  rw[if_neg k1,if_neg k1]
theorem Loc.join{op:Int}{w:Str}{s:Rd→Ex×Rd}(hw: ¬stp w)(h:Loc s):Loc (psJoin op w s):=
 Loc.fuel (F:=fun n r=>psJoinL op w s n (s r).1 (s r).2) (fun n=>h.bind (fun e=>Loc.joinL hw h n e)) (fun n r hn=>by
  have:=(h.sf r).le
  exact joinL_fuel h.sf _ _ _ _ (by omega) (by omega))
theorem Loc.or{t:Rd→Ex×Rd}(h:Loc t):Loc (psOr t):=Loc.join (by simp[stp]) (Loc.join (by simp[stp]) h)
theorem Loc.test{t s:Rd→Ex×Rd}(ht:Loc t)(hs:Loc s):Loc (psTest t s):=
 Loc.ifbad (Loc.opt (ws:= [[110,111,116]]) (f:=fun r=>(ex1 9 (t r).1,(t r).2)) (by simp[stp]) (ht.bind (g:=fun e r=>(ex1 9 e,r)) (fun e=>Loc.pure _))
  (hs.bind (g:=fun e r=>if(atRd r [[105,115],[110,117,108,108]]).1 then(ex1 10 e,(atRd r [[105,115],[110,117,108,108]]).2) else if(atRd r [[61]]).1 then(ex2 5 e (s (atRd r [[61]]).2).1,(s (atRd r [[61]]).2).2) else if(atRd r [[60]]).1 then(ex2 6 e (s (atRd r [[60]]).2).1,(s (atRd r [[60]]).2).2) else(e,r)) (fun e=>
    Loc.opt (ws:= [[105,115],[110,117,108,108]]) (f:=fun r=>(ex1 10 e,r)) (by simp[stp]) (Loc.pure _)
     (Loc.opt (ws:= [[61]]) (f:=fun r=>(ex2 5 e (s r).1,(s r).2)) (by simp[stp]) (hs.bind (g:=fun b r=>(ex2 5 e b,r)) (fun b=>Loc.pure _))
       (Loc.opt (ws:= [[60]]) (f:=fun r=>(ex2 6 e (s r).1,(s r).2)) (by simp[stp]) (hs.bind (g:=fun b r=>(ex2 6 e b,r)) (fun b=>Loc.pure _)) (Loc.pure e))))))
theorem Loc.tt: ∀k,Loc (psT k)
 |0=>Loc.marked nilE
 |k+1=>Loc.test (Loc.tt k) (Loc.sum (Loc.atom (Loc.or (Loc.tt k))))
theorem Loc.o(k:Nat):Loc (psO k):=Loc.or (Loc.tt k)
theorem Loc.listL{α:Type}{step:Rd→α×Rd}(h:Loc step): ∀(n:Nat) (l:List α),Loc (psListL step n l)
 |0,l=>Loc.pure l
 |n+1,l=>Loc.ifb (h.bind (g:=fun a r=>if(atRd r [[44]]).1 then psListL step n (l++ [a]) (atRd r [[44]]).2 else(l++ [a],(atRd r [[44]]).2)) (fun a=>
   (Loc.at (ws:= [[44]]) (by simp[stp])).bind (g:=fun b r=>if b then psListL step n (l++ [a]) r else(l++ [a],r)) (fun b=>Loc.cond (Loc.listL h n _) (Loc.pure _))))
theorem listL_fuel{α:Type}{step:Rd→α×Rd}(h: ∀r,Sf r (step r).2): ∀(n m:Nat) (l:List α) (r:Rd),r.l.length<n→r.l.length<m→psListL step n l r=psListL step m l r
 |0,_,_,_,hn,_=>by omega
 |_+1,0,_,_,_,hm=>by omega
 |n+1,m+1,l,r,hn,hm=>by
  unfold psListL
  by_cases k:r.bad=true
  · rw[if_pos k,if_pos k]
  rw[if_neg k,if_neg k]
  by_cases k1:(atRd (step r).2 [[44]]).1=true
  · have:=at_lt k1 (by decide);have:=(h r).le
    rw[if_pos k1,if_pos k1,listL_fuel h n m _ _ (by omega) (by omega)]
  rw[if_neg k1,if_neg k1]
theorem Loc.list{α:Type}{step:Rd→α×Rd}(h:Loc step):Loc (psList step):=
 Loc.fuel (F:=fun n r=>psListL step n [] r) (fun n=>Loc.listL h n []) (fun n r hn=>listL_fuel h.sf _ _ _ _ (by omega) hn)
theorem Loc.colEnd(n:Str)(t:Int):Loc (colEnd n t):=(Loc.at (ws:= [wMUST]) (by simp[stp,wMUST])).bind (g:=fun b r=>((⟨n,t,b⟩:Col),r)) (fun b=>Loc.pure _)
theorem Loc.col:Loc psCol:=
 Loc.name.bind (g:=fun n r=>if(atRd r [wINT]).1 then Go.Proofs.YtadjbegnlimepaaGreatDoor.colEnd n 1 (atRd r [wINT]).2 else if(atRd r [wTEXT]).1 then Go.Proofs.YtadjbegnlimepaaGreatDoor.colEnd n 2 (atRd r [wTEXT]).2 else Go.Proofs.YtadjbegnlimepaaGreatDoor.colEnd n 0 ⟨r.l,true⟩) (fun n=>
  Loc.opt (ws:= [wINT]) (by simp[stp,wINT]) (Loc.colEnd n 1) (Loc.opt (ws:= [wTEXT]) (by simp[stp,wTEXT]) (Loc.colEnd n 2) ((Loc.marked ()).bind (g:=fun _ r=>Go.Proofs.YtadjbegnlimepaaGreatDoor.colEnd n 0 r) (fun _=>Loc.colEnd n 0))))
theorem Loc.wh:Loc psWhere:=Loc.opt (ws:= [wWHERE]) (by simp[stp,wWHERE]) (Loc.o 6) (Loc.pure nilE)
theorem Loc.row:Loc psRow:=(Loc.take [[40]]).bind (g:=fun _ r=>((psList (psO 6) r).1,takeM (psList (psO 6) r).2 [[41]])) (fun _=>(Loc.list (Loc.o 6)).bind (g:=fun l r=>(l,takeM r [[41]])) (fun l=>(Loc.take [[41]]).bind (g:=fun _ r=>(l,r)) (fun _=>Loc.pure l)))
theorem Loc.set:Loc psSet:=Loc.name.bind (g:=fun n r=>((⟨n,(psO 6 (takeM r [[61]])).1⟩:Ast),(psO 6 (takeM r [[61]])).2)) (fun n=>(Loc.take [[61]]).bind (g:=fun _ r=>((⟨n,(psO 6 r).1⟩:Ast),(psO 6 r).2)) (fun _=>(Loc.o 6).bind (g:=fun e r=>((⟨n,e⟩:Ast),r)) (fun e=>Loc.pure _)))
theorem Loc.ord:Loc psOrd:=
 Loc.opt (ws:= [wORDER,wBY]) (f:=fun r=>(([(psO 6 r).1],(atRd (psO 6 r).2 [wDESC]).1),(atRd (psO 6 r).2 [wDESC]).2)) (by simp[stp,wORDER,wBY])
  ((Loc.o 6).bind (g:=fun e r=>(([e],(atRd r [wDESC]).1),(atRd r [wDESC]).2)) (fun e=>(Loc.at (ws:= [wDESC]) (by simp[stp,wDESC])).bind (g:=fun b r=>(([e],b),r)) (fun b=>Loc.pure _))) (Loc.pure ([],false))
theorem Loc.limit:Loc psLimit:=Loc.opt (ws:= [wLIMIT]) (by simp[stp,wLIMIT]) Loc.number (Loc.pure (-1))
theorem take_semi{r:Rd}{w:Str}(h:(takeM r [w]).bad=false): ∃l,r=⟨w::l,false⟩∧takeM r [w] =⟨l,false⟩:=by
 obtain⟨l,b⟩:=r
 unfold takeM atRd at h⊢
 dsimp only at h⊢
 by_cases k1:l.length< [w].length
 · rw[if_pos k1] at h;cases h
 rw[if_neg k1] at h⊢
 by_cases k2:eqSl (l.take [w].length) [w] =true
 · rw[if_pos k2] at h⊢
   rw[eqSl_iff] at k2
   cases l with
   |nil=>simp at k1
   |cons a l=>
    simp at k2;subst k2
    refine⟨l,?_,?_⟩
    · congr 1
    · simp at h⊢;exact h
 · rw[if_neg k2] at h;cases h
theorem scriptL_of_bad{r:Rd}(h:r.bad=true): ∀(n:Nat) (l:List Stm),psScriptL n l r=(l,r)
 |0,l=>rfl
 |n+1,l=>by unfold psScriptL;rw[if_pos (.inr h)]
end Go.Proofs.YtadjbegnlimepaaGreatDoor
namespace Go.Proofs.YtadjbegnlimepaaGreatDoor
open Go.Abs
set_option maxRecDepth 100000
set_option linter.unusedVariables false
set_option linter.unusedSimpArgs false
theorem named_low{s:Str}(h:namedM s=true):s≠ [] ∧s.all lowC=true∧ ∀w∈words,s≠w:=by
 simp only[namedM,Bool.and_eq_true,decide_eq_true_eq,Bool.not_eq_true',List.any_eq_false,beq_iff_eq] at h
 obtain⟨h1,h2,h3,h4⟩:=h
 exact⟨fun e=>by rw[e] at h2;simp at h2,h1,fun w hw e=>h4 w hw e⟩
theorem at_not{w:Str}{x:List Str}{b:Bool}{u:Str}{us:List Str}(h:w≠u):atRd ⟨w::x,b⟩ (u::us)=(false,⟨w::x,b⟩):=by
 unfold atRd
 dsimp only
 split
 · rfl
 · rw[if_neg]
   intro e
   rw[eqSl_iff] at e
   rw[List.length_cons,List.take_succ_cons] at e
   exact h (List.cons.inj e).1
theorem at_one{w:Str}{x:List Str}{b:Bool}:atRd ⟨w::x,b⟩ [w] =(true,⟨x,b⟩):=by
 unfold atRd
 dsimp only
 rw[if_neg (by simp),if_pos (by rw[eqSl_iff];simp)]
 simp
theorem at_two{w u:Str}{x:List Str}{b:Bool}:atRd ⟨w::u::x,b⟩ [w,u] =(true,⟨x,b⟩):=by
 unfold atRd
 dsimp only
 rw[if_neg (by simp),if_pos (by rw[eqSl_iff];simp)]
 simp
theorem name_read{s:Str}(h:namedM s=true){x:List Str}:nameM ⟨s::x,false⟩=(s,⟨x,false⟩):=by
 have h0:=(named_low h).1
 have e:(⟨s::x,false⟩:Rd).front=s:=rfl
 unfold nameM nextM
 rw[e,if_neg h0]
 simp[h]
theorem low_ne{s:Str}(h:s.all lowC=true)(h0:s≠ []){w:Str}{c:UInt8}(hw:w= [c])(hc:lowC c=false):s≠w:=fun e=>by
 rw[e,hw] at h;simp[hc] at h
theorem lit_name{s:Str}(h:namedM s=true){x:List Str}:(psLit ⟨s::x,false⟩).1.2=false:=by
 obtain⟨h0,h1,h2⟩:=named_low h
 have e:(⟨s::x,false⟩:Rd).front=s:=rfl
 unfold psLit
 rw[at_not (h2 [110,117,108,108] (by simp[words]))]
 rw[if_neg Bool.false_ne_true,at_not (low_ne h1 h0 rfl (by decide)),if_neg Bool.false_ne_true,e]
 cases s with
 |nil=>exact absurd rfl h0
 |cons c s=>
  simp only[List.all_cons,Bool.and_eq_true] at h1
  have hd:digC c=false:=by
   have:=h1.1
   simp only[lowC,digC,Bool.and_eq_true,decide_eq_true_eq] at this⊢
   simp;omega
  have hq:c≠39:=by rintro rfl;simp[lowC] at h1
  rw[if_neg (by simp[hd]),if_neg (by simp[hq])]
end Go.Proofs.YtadjbegnlimepaaGreatDoor
namespace Go.Proofs.YtadjbegnlimepaaGreatDoor
open Go.Abs
set_option maxRecDepth 100000
set_option linter.unusedVariables false
set_option linter.unusedSimpArgs false
end Go.Proofs.YtadjbegnlimepaaGreatDoor
namespace Go.Proofs.YtadjbegnlimepaaGreatDoor
open Go.Abs
set_option maxRecDepth 100000
set_option linter.unusedVariables false
set_option linter.unusedSimpArgs false
theorem nst_and: ¬stp [97,110,100]:=by simp[stp]
theorem nst_or: ¬stp [111,114]:=by simp[stp]
end Go.Proofs.YtadjbegnlimepaaGreatDoor
