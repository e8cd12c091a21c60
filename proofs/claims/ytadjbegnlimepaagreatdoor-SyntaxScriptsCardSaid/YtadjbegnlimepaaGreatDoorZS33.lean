/- Several texts in one, each with its own sentence ahead of it. Conditions: each one says its own. -/
import Derived.Test.YtadjbegnlimepaaGreatDoorZS32
set_option linter.all false
namespace Go.Proofs.YtadjbegnlimepaaGreatDoor
open Go.Abs
set_option maxRecDepth 100000
set_option linter.unusedVariables false
set_option linter.unusedSimpArgs false
def valG(a:Nat):Str→Nat
 | [] =>a
 |c::r=>valG (10*a+(c.toNat - 48)) r
def numR(s:Str):Int×Bool:=if s= [] ∨7<s.length∨s.all digC=false∨(s.headD 0=48∧s≠ [48]) then(0,false) else((valG 0 s:Int),decide ((valG 0 s:Int)≤1000000))
theorem dig_iff{c:UInt8}:digC c=true↔48≤c.toNat∧c.toNat≤57:=by
 simp[digC,UInt8.le_iff_toNat_le]
theorem valG_app: ∀(s t:Str) (a:Nat),valG a (s++t)=valG (valG a s) t
 | [],t,a=>rfl
 |c::s,t,a=>by rw[List.cons_append];exact valG_app s t _
theorem valG_lt: ∀(s:Str) (a:Nat),s.all digC=true→valG a s<(a+1)*10 ^ s.length
 | [],a,_=>by show a<(a+1)*1;omega
 |c::s,a,h=>by
  simp only[List.all_cons,Bool.and_eq_true] at h
  have:=valG_lt s (10*a+(c.toNat - 48)) h.2
  have hc:=dig_iff.1 h.1
  have e:valG a (c::s)=valG (10*a+(c.toNat - 48)) s:=rfl
  rw[e,List.length_cons,Nat.pow_succ]
  generalize 10 ^ s.length=P at*
  have h3:10*a+(c.toNat - 48)+1≤(a+1)*10:=by omega
  have h4:=Nat.mul_le_mul_right P h3
  have h5:((a+1)*10)*P=(a+1)*(P*10):=by rw[Nat.mul_assoc,Nat.mul_comm 10]
  exact Nat.lt_of_lt_of_le this (h5▸h4)
theorem parse_val: ∀(s:Str) (a:Nat),s.all digC=true→valG a s<100000000→Lib.parseUint10 a s= .ok (valG a s)
 | [],a,_,_=>rfl
 |c::s,a,h,hv=>by
  simp only[List.all_cons,Bool.and_eq_true] at h
  have hc:=dig_iff.1 h.1
  have mono: ∀(s:Str) (a:Nat),a≤valG a s:=fun s=>by
   induction s with
   |nil=>intro a;exact Nat.le_refl _
   |cons c s ih=>intro a;exact Nat.le_trans (by omega) (ih _)
  have h1:valG a (c::s)=valG (10*a+(c.toNat - 48)) s:=rfl
  rw[h1] at hv⊢
  have h2:=mono s (10*a+(c.toNat - 48))
  unfold Lib.parseUint10
  rw[if_pos hc,if_neg (by omega),if_neg (by omega),show a*10+(c.toNat - 48)=10*a+(c.toNat - 48) by omega]
  exact parse_val s _ h.2 hv
theorem dec_snoc(s:Str)(hs:s.all digC=true)(h0:s≠ [])(hz: ¬(s.headD 0=48∧s≠ [48])):Lib.decDigits (valG 0 s)=s:=by
 obtain⟨n,hn⟩: ∃n,s.length=n:=⟨_,rfl⟩
 induction n generalizing s with
 |zero=>exact absurd (List.length_eq_zero_iff.1 hn) h0
 |succ n ih=>
  obtain⟨t,c,rfl⟩: ∃t c,s=t++ [c]:=⟨s.dropLast,s.getLast h0,(List.dropLast_concat_getLast h0).symm⟩
  simp only[List.all_append,List.all_cons,List.all_nil,Bool.and_true,Bool.and_eq_true] at hs
  have hc:=dig_iff.1 hs.2
  have hcc:UInt8.ofNat (48+(c.toNat - 48))=c:=by
   rw[show 48+(c.toNat - 48)=c.toNat by omega];exact UInt8.ofNat_toNat
  rw[valG_app]
  show Lib.decDigits (10*valG 0 t+(c.toNat - 48))=_
  cases t with
  |nil=>
   show Lib.decDigits (10*0+(c.toNat - 48))=_
   rw[Lib.decDigits_one (by omega),show 10*0+(c.toNat - 48)=c.toNat - 48 by omega,hcc];rfl
  |cons a t=>
   have ha:a≠48:=fun e=>hz ⟨by rw[e];rfl,by simp⟩
   have iht:=ih (a::t) hs.1 (by simp) (fun k=>ha k.1) (by simp at hn⊢;omega)
   have hpos:1≤valG 0 (a::t):=by
    refine Nat.pos_of_ne_zero (fun e=> ?_)
    rw[e,Lib.decDigits_one (by decide)] at iht
    have:=(List.cons.inj iht).1
    exact ha this.symm
   rw[Lib.decDigits,dif_neg (by omega),show(10*valG 0 (a::t)+(c.toNat - 48)) / 10=valG 0 (a::t) by omega,show(10*valG 0 (a::t)+(c.toNat - 48)) % 10=c.toNat - 48 by omega,iht,hcc]
theorem dec_facts(u:Nat):(Lib.decDigits u).all digC=true∧Lib.decDigits u≠ [] ∧valG 0 (Lib.decDigits u)=u∧((Lib.decDigits u).headD 0=48→u=0):=by
 induction u using Nat.strongRecOn with
 |_ u ih=>
 have hd: ∀d,d<10→digC (UInt8.ofNat (48+d))=true∧(UInt8.ofNat (48+d)).toNat=48+d:=fun d hd=>by
  have e:(UInt8.ofNat (48+d)).toNat=48+d:=by rw[UInt8.toNat_ofNat'];omega
  exact⟨dig_iff.2 (by omega),e⟩
 by_cases h:u<10
 · rw[Lib.decDigits_one h]
   obtain⟨h1,h2⟩:=hd u h
   refine⟨by show(digC _ && true)=true;rw[h1];rfl,by simp,?_,fun e=> ?_⟩
   · show 10*0+((UInt8.ofNat (48+u)).toNat - 48)=u
     omega
   · have e:UInt8.ofNat (48+u)=48:=e
     have:=congrArg UInt8.toNat e
     rw[h2] at this
     have:48+u=48:=this
     omega
 · rw[Lib.decDigits,dif_neg h]
   obtain⟨i1,i2,i3,i4⟩:=ih (u / 10) (by omega)
   obtain⟨h1,h2⟩:=hd (u % 10) (by omega)
   refine⟨by rw[List.all_append,i1];show(true && (digC _ && true))=true;rw[h1];rfl,by simp,?_,fun e=> ?_⟩
   · rw[valG_app,i3]
     show 10*(u / 10)+((UInt8.ofNat (48+u % 10)).toNat - 48)=u
     omega
   · generalize Lib.decDigits (u / 10)=t at*
     cases t with
     |nil=>exact absurd rfl i2
     |cons a t=>
      have:=i4 e
      omega
theorem dec_len{u:Nat}(h:u≤1000000):(Lib.decDigits u).length≤7:=by
 rw[Lib.decDigits_length]
 by_cases k:7≤Lib.nDigits u - 1
 · exfalso
   have: ∀(m u:Nat),m<Lib.nDigits u→10 ^ m≤u∨m=0:=fun m=>by
    induction m with
    |zero=>intro u _;exact .inr rfl
    |succ m ih=>
     intro u hu
     by_cases h10:u<10
     · rw[Lib.nDigits_small h10] at hu;omega
     · rw[Lib.nDigits_big h10] at hu
       left
       rcases ih (u / 10) (by omega) with k|k
       · rw[Nat.pow_succ];omega
       · subst k;omega
   rcases this 7 u (by omega) with k2|k2
   · omega
   · omega
 · omega
theorem num_same{s:Str}(hs:s.head?=some 45→s.length=1)(n:Int):numS s=some n↔numR s=(n,true):=by
 constructor
 · intro h
   unfold numS at h
   cases ha:Lib.atoiAll s with
   |ok v=>
    rw[ha] at h
    dsimp only at h
    by_cases hc:Lib.itoa v=s∧v≤1000000
    · rw[if_pos hc] at h
      injection h with h
      subst h
      obtain⟨hi,hv⟩:=hc
      by_cases hneg:v<0
      · exfalso
        unfold Lib.itoa at hi
        rw[if_pos hneg] at hi
        have h1:=(dec_facts v.natAbs).2.1
        rw[←hi] at hs
        have:=hs rfl
        simp only[List.length_cons] at this
        exact h1 (List.length_eq_zero_iff.1 (by omega))
      · unfold Lib.itoa at hi
        rw[if_neg hneg] at hi
        obtain⟨d1,d2,d3,d4⟩:=dec_facts v.toNat
        have dl:=dec_len (u:=v.toNat) (by omega)
        have hz: ¬((Lib.decDigits v.toNat).headD 0=48∧Lib.decDigits v.toNat≠ [48]):=fun k=>by
         have:=d4 k.1
         rw[this] at k
         exact k.2 (by rw[Lib.decDigits_one (by decide)];rfl)
        unfold numR
        rw[←hi,if_neg (by
         rintro (k|k|k|k)
         · exact d2 k
         · omega
         · rw[d1] at k;cases k
         · exact hz k),d3]
        rw[show((v.toNat:Nat):Int)=v by omega,decide_eq_true hv]
    · rw[if_neg hc] at h;cases h
   |_=>rw[ha] at h;cases h
 · intro h
   unfold numR at h
   split at h
   · simp at h
   rename_i hc
   simp only[not_or,Bool.not_eq_false] at hc
   obtain⟨h0,h7,hd,hz⟩:=hc
   have hlt:=valG_lt s 0 hd
   have h8:valG 0 s<100000000:=by
    refine Nat.lt_of_lt_of_le hlt ?_
    have:(10:Nat)^ s.length≤10 ^ 8:=Nat.pow_le_pow_right (by decide) (by omega)
    rw[Nat.zero_add,Nat.one_mul];exact this
   have hp:=parse_val s 0 hd h8
   have hdec:=dec_snoc s hd h0 hz
   simp only[Prod.mk.injEq,decide_eq_true_eq] at h
   obtain⟨h1,h2⟩:=h
   subst h1
   have ha:Lib.atoiAll s= .ok ((valG 0 s:Nat):Int):=by
    cases s with
    |nil=>exact absurd rfl h0
    |cons c r=>
     have hc:digC c=true:=by simp only[List.all_cons,Bool.and_eq_true] at hd;exact hd.1
     have hc:=dig_iff.1 hc
     unfold Lib.atoiAll
     dsimp only
     rw[if_neg (by omega)]
     unfold Lib.parseMag
     rw[if_neg (by simp),hp]
     dsimp only
     rw[if_neg (by omega),if_neg (by omega),if_neg (by omega)]
   unfold numS
   rw[ha]
   dsimp only
   have hi:Lib.itoa ((valG 0 s:Nat):Int)=s:=by
    unfold Lib.itoa
    rw[if_neg (by omega),Int.toNat_natCast];exact hdec
   rw[if_pos ⟨hi,h2⟩]
def depW(d:Int)(w:Str):Int:=if w= [40] then d+1 else if w= [41] then d - 1 else d
def dep:List Str→Int
 | [] =>0
 |w::c=>depW 0 w+dep c
theorem depW_add(d:Int)(w:Str):depW d w=d+depW 0 w:=by unfold depW;split<;>(try split)<;>omega
theorem dep_app: ∀a b:List Str,dep (a++b)=dep a+dep b
 | [],b=>by simp[dep]
 |w::a,b=>by rw[List.cons_append,dep,dep,dep_app a b];omega
def lastGo(ats:List Str):List Str→Int→Int→Int→Int
 | [],_,_,p=>p
 |w::l,i,d,p=>lastGo ats l (i+1) (depW d w) (if d=0∧w∈ats then i else p)
def lastW(l ats:List Str):Int:=lastGo ats l 0 0 (-1)
theorem lastGo_app(ats:List Str): ∀(a r:List Str) (i d p:Int),lastGo ats (a++r) i d p=lastGo ats r (i+a.length) (d+dep a) (lastGo ats a i d p)
 | [],r,i,d,p=>by simp[lastGo,dep]
 |w::a,r,i,d,p=>by
  rw[List.cons_append,lastGo,lastGo_app ats a r,lastGo,dep,depW_add d w,List.length_cons]
  rw[show i+1+(a.length:Int)=i+((a.length+1:Nat):Int) by omega,show d+depW 0 w+dep a=d+(depW 0 w+dep a) by omega]
theorem lastGo_no(ats:List Str): ∀(c:List Str) (i d p:Int),(∀x w y,c=x++w::y→d+dep x=0→w∉ats)→lastGo ats c i d p=p
 | [],i,d,p,_=>rfl
 |w::c,i,d,p,h=>by
  rw[lastGo,if_neg (fun k=>h [] w c rfl (by simp[dep,k.1]) k.2)]
  refine lastGo_no ats c _ _ _ (fun x u y e hd=>h (w::x) u y (by rw[e];rfl) ?_)
  rw[dep,depW_add] at*;omega
theorem lastGo_is(ats:List Str): ∀(c:List Str) (i d p:Int),lastGo ats c i d p=p∨ ∃a w b,c=a++w::b∧w∈ats∧lastGo ats c i d p=i+a.length
 | [],i,d,p=> .inl rfl
 |w::c,i,d,p=>by
  rw[lastGo]
  rcases lastGo_is ats c (i+1) (depW d w) (if d=0∧w∈ats then i else p) with h|⟨a,u,b,e,hu,h⟩
  · rw[h]
    by_cases k:d=0∧w∈ats
    · rw[if_pos k];exact .inr ⟨[],w,c,rfl,k.2,by simp⟩
    · rw[if_neg k];exact .inl rfl
  · exact .inr ⟨w::a,u,b,by rw[e];rfl,hu,by rw[h,List.length_cons];omega⟩
theorem last_is{l ats:List Str}(h:0≤lastW l ats): ∃a w b,l=a++w::b∧w∈ats∧(lastW l ats).toNat=a.length:=by
 rcases lastGo_is ats l 0 0 (-1) with k|⟨a,w,b,e,hw,k⟩
 · unfold lastW at h;omega
 · exact⟨a,w,b,e,hw,by unfold lastW;omega⟩
theorem last_lt{l ats:List Str}(h:0≤lastW l ats):(lastW l ats).toNat<l.length:=by
 obtain⟨a,w,b,e,_,k⟩:=last_is h
 rw[k];conv=>rhs;rw[e]
 simp
def cutGo(ats:List Str):List Str→Nat→Int→Option (Nat×Nat)
 | [],_,_=>none
 |w::l,i,d=>if d=0∧w∈ats then some (i,ats.findIdx (· ==w)) else cutGo ats l (i+1) (depW d w)
def cutM(l ats:List Str):Option (Nat×Nat):=cutGo ats l 0 0
theorem cutGo_skip(ats:List Str): ∀(c r:List Str) (i:Nat) (d:Int),(∀x w y,c=x++w::y→d+dep x=0→w∉ats)→cutGo ats (c++r) i d=cutGo ats r (i+c.length) (d+dep c)
 | [],r,i,d,_=>by simp[dep]
 |w::c,r,i,d,h=>by
  rw[List.cons_append,cutGo,if_neg (fun k=>h [] w c rfl (by simp[dep,k.1]) k.2),cutGo_skip ats c r _ _ (fun x u y e hd=>h (w::x) u y (by rw[e];rfl) (by rw[dep];rw[depW_add] at hd;omega)),dep,depW_add d w,List.length_cons]
  rw[show i+1+c.length=i+(c.length+1) by omega,show d+depW 0 w+dep c=d+(depW 0 w+dep c) by omega]
theorem cutGo_is(ats:List Str): ∀(c:List Str) (i:Nat) (d:Int) (p:Nat×Nat),cutGo ats c i d=some p→ ∃a w b,c=a++w::b∧w∈ats∧p=(i+a.length,ats.findIdx (· ==w))
 | [],i,d,p,h=>by cases h
 |w::c,i,d,p,h=>by
  rw[cutGo] at h
  split at h
  · rename_i k
    injection h with h
    exact⟨[],w,c,rfl,k.2,by rw[←h];simp⟩
  · obtain⟨a,u,b,e,hu,e2⟩:=cutGo_is ats c _ _ p h
    exact⟨w::a,u,b,by rw[e];rfl,hu,by rw[e2,List.length_cons];rw[show i+1+a.length=i+(a.length+1) by omega]⟩
theorem cut_is{l ats:List Str}{p:Nat×Nat}(h:cutM l ats=some p): ∃a w b,l=a++w::b∧w∈ats∧p=(a.length,ats.findIdx (· ==w)):=by
 obtain⟨a,w,b,e,hw,k⟩:=cutGo_is ats l 0 0 p h
 exact⟨a,w,b,e,hw,by rw[k];simp⟩
theorem cut_none{c ats:List Str}(h: ∀x w y,c=x++w::y→dep x=0→w∉ats):cutM c ats=none:=by
 have:=cutGo_skip ats c [] 0 0 (fun x w y e hd=>h x w y e (by omega))
 rw[List.append_nil] at this
 exact this
theorem cut_at{a b ats:List Str}{w:Str}(h: ∀x w y,a=x++w::y→dep x=0→w∉ats)(hz:dep a=0)(hw:w∈ats):cutM (a++w::b) ats=some (a.length,ats.findIdx (· ==w)):=by
 unfold cutM
 rw[cutGo_skip ats a (w::b) 0 0 (fun x w y e hd=>h x w y e (by omega)),hz,cutGo,if_pos ⟨by omega,hw⟩,Nat.zero_add]
def sumGo:List Str→Int→Int→Int→Str→Int
 | [],_,_,p,_=>p
 |w::l,i,d,p,v=>sumGo l (i+1) (depW d w) (if(w= [43] ∨w= [45])∧d=0∧0<i∧v≠ [43] ∧v≠ [45] then i else p) w
def sumAt(l:List Str):Int:=sumGo l 0 0 (-1) []
theorem sumGo_app: ∀(a r:List Str) (i d p:Int) (v:Str),sumGo (a++r) i d p v=sumGo r (i+a.length) (d+dep a) (sumGo a i d p v) (a.getLastD v)
 | [],r,i,d,p,v=>by simp[sumGo,dep]
 |w::a,r,i,d,p,v=>by
  rw[List.cons_append,sumGo,sumGo_app a r,sumGo,dep,depW_add d w,List.length_cons,List.getLastD_cons]
  rw[show i+1+(a.length:Int)=i+((a.length+1:Nat):Int) by omega,show d+depW 0 w+dep a=d+(depW 0 w+dep a) by omega]
theorem sumGo_no: ∀(c:List Str) (i d p:Int) (v:Str),(∀x w y,c=x++w::y→d+dep x=0→ ¬(w= [43] ∨(w= [45] ∧(x≠ [] ∨(0<i∧v≠ [43] ∧v≠ [45])))))→sumGo c i d p v=p
 | [],i,d,p,v,_=>rfl
 |w::c,i,d,p,v,h=>by
  have h0:d=0→ ¬(w= [43] ∨(w= [45] ∧(([]:List Str)≠ [] ∨(0<i∧v≠ [43] ∧v≠ [45])))):=fun k=>h [] w c rfl (by simp[dep,k])
  rw[sumGo,if_neg (fun k=>h0 k.2.1 (k.1.elim .inl (fun e=> .inr ⟨e,.inr k.2.2⟩)))]
  refine sumGo_no c _ _ _ _ (fun x u y e hd k=> ?_)
  refine h (w::x) u y (by rw[e];rfl) (by rw[dep];rw[depW_add] at hd;omega) (k.elim .inl (fun k=> .inr ⟨k.1,.inl (by simp)⟩))
theorem sumGo_is: ∀(c:List Str) (i d p:Int) (v:Str),sumGo c i d p v=p∨ ∃a w b,c=a++w::b∧(w= [43] ∨w= [45])∧sumGo c i d p v=i+a.length
 | [],i,d,p,v=> .inl rfl
 |w::c,i,d,p,v=>by
  rw[sumGo]
  rcases sumGo_is c (i+1) (depW d w) (if(w= [43] ∨w= [45])∧d=0∧0<i∧v≠ [43] ∧v≠ [45] then i else p) w with h|⟨a,u,b,e,hu,h⟩
  · rw[h]
    by_cases k:(w= [43] ∨w= [45])∧d=0∧0<i∧v≠ [43] ∧v≠ [45]
    · rw[if_pos k];exact .inr ⟨[],w,c,rfl,k.1,by simp⟩
    · rw[if_neg k];exact .inl rfl
  · exact .inr ⟨w::a,u,b,by rw[e];rfl,hu,by rw[h,List.length_cons];omega⟩
theorem sum_is{l:List Str}(h:0≤sumAt l): ∃a w b,l=a++w::b∧(w= [43] ∨w= [45])∧(sumAt l).toNat=a.length:=by
 rcases sumGo_is l 0 0 (-1) [] with k|⟨a,w,b,e,hw,k⟩
 · unfold sumAt at h;omega
 · exact⟨a,w,b,e,hw,by unfold sumAt;omega⟩
theorem sum_lt{l:List Str}(h:0≤sumAt l):(sumAt l).toNat<l.length:=by
 obtain⟨a,w,b,e,_,k⟩:=sum_is h
 rw[k];conv=>rhs;rw[e]
 simp
end Go.Proofs.YtadjbegnlimepaaGreatDoor
namespace Go.Proofs.YtadjbegnlimepaaGreatDoor
open Go.Abs
set_option maxRecDepth 100000
set_option linter.unusedVariables false
set_option linter.unusedSimpArgs false
def okM(w:Str):Prop:=w= [40] ∨w=wNULL∨w= [45] ∨w= [46] ∨w.headD 0=39∨digC (w.headD 0)=true∨namedM w=true
def badU(u:Str):Bool:=u != [40] && (u !=wNULL && (u != [45] && (u != [46] && (u.headD 0 !=39 && (!digC (u.headD 0) && !namedM u)))))
theorem okM_ne{w u:Str}(h:okM w)(hu:badU u=true):w≠u:=by
 rintro rfl
 simp only[badU,Bool.and_eq_true,bne_iff_ne,ne_eq,Bool.not_eq_true'] at hu
 obtain⟨h1,h2,h3,h4,h5,h6,h7⟩:=hu
 rcases h with h|h|h|h|h|h|h
 · exact h1 h
 · exact h2 h
 · exact h3 h
 · exact h4 h
 · exact h5 h
 · rw[h6] at h;cases h
 · rw[h7] at h;cases h
def Lv.more:Lv→List Str
 | .M=> []
 | .S=> [[43]]
 | .T=> [[43],wNOT,wIS,[61],[60]]
 | .A=> [[43],wNOT,wIS,[61],[60],wAND]
 | .O=> [[43],wNOT,wIS,[61],[60],wAND,wOR]
def okW(lv:Lv)(w:Str):Prop:=okM w∨w∈lv.more
theorem okW_ne{lv:Lv}{w u:Str}(h:okW lv w)(hu:badU u=true)(hm:u∉lv.more):w≠u:=by
 rcases h with h|h
 · exact okM_ne h hu
 · exact fun e=>hm (e▸h)
structure Fl (P:Str→Prop) (c:List Str):Prop where
 z:dep c=0
 nn: ∀x y,c=x++y→0≤dep x
 fr: ∀x w y,c=x++w::y→dep x=0→P w
theorem Fl.imp{P Q:Str→Prop}{c:List Str}(h:Fl P c)(k: ∀w,P w→Q w):Fl Q c:=⟨h.z,h.nn,fun x w y e hd=>k w (h.fr x w y e hd)⟩
theorem app_cases{α:Type}{a b x y:List α}(h:a++b=x++y):(∃z,a=x++z∧y=z++b)∨ ∃z,x=a++z∧b=z++y:=by
 rcases List.append_eq_append_iff.1 h with⟨z,h1,h2⟩|⟨z,h1,h2⟩
 · exact .inr ⟨z,h1,h2⟩
 · exact .inl ⟨z,h1,h2⟩
theorem Fl.app{P:Str→Prop}{a b:List Str}(ha:Fl P a)(hb:Fl P b):Fl P (a++b):=by
 refine⟨by rw[dep_app,ha.z,hb.z];rfl,fun x y e=> ?_,fun x w y e hd=> ?_⟩
 · rcases app_cases e with⟨z,h1,_⟩|⟨z,h1,h2⟩
   · exact ha.nn x z h1
   · rw[h1,dep_app,ha.z];have:=hb.nn z y h2;omega
 · rcases app_cases e with⟨z,h1,h2⟩|⟨z,h1,h2⟩
   · cases z with
     |nil=>
      rw[List.append_nil] at h1
      exact hb.fr [] w y h2.symm rfl
     |cons u z=>
      rw[List.cons_append] at h2
      obtain⟨rfl,_⟩:=List.cons.inj h2
      exact ha.fr x w z h1 hd
   · rw[h1,dep_app,ha.z] at hd
     exact hb.fr z w y h2 (by omega)
theorem Fl.one{P:Str→Prop}{w:Str}(h:P w)(h1:w≠ [40])(h2:w≠ [41]):Fl P [w]:=by
 refine⟨by simp[dep,depW,h1,h2],fun x y e=> ?_,fun x u y e hd=> ?_⟩
 · cases x with
   |nil=>exact Int.le_refl 0
   |cons a x=>
    obtain⟨rfl,e2⟩:=List.cons.inj e
    have:x= []:=by cases x with
     |nil=>rfl
     |cons b x=>cases e2
    subst this
    simp[dep,depW,h1,h2]
 · cases x with
   |nil=>obtain⟨rfl,_⟩:=List.cons.inj e;exact h
   |cons a x=>
    have:=(List.cons.inj e).2
    cases x<;>cases this
theorem Fl.cons{P:Str→Prop}{w:Str}{c:List Str}(h:P w)(h1:w≠ [40])(h2:w≠ [41])(hc:Fl P c):Fl P (w::c):=(Fl.one h h1 h2).app hc
theorem Fl.brk{P Q:Str→Prop}{c:List Str}(hc:Fl Q c)(h:P [40]):Fl P ([40]::(c++ [[41]])):=by
 have e40:depW 0 [40] =1:=rfl
 have e41:dep [[41]] = -1:=rfl
 refine⟨by rw[dep,dep_app,hc.z,e40,e41];rfl,fun x y e=> ?_,fun x w y e hd=> ?_⟩
 · cases x with
   |nil=>exact Int.le_refl 0
   |cons a x=>
    obtain⟨rfl,e2⟩:=List.cons.inj e
    rw[dep,e40]
    rcases app_cases e2 with⟨z,h1,_⟩|⟨z,h1,h2⟩
    · have:=hc.nn x z h1;omega
    · rw[h1,dep_app,hc.z]
      cases z with
      |nil=>simp[dep]
      |cons b z=>
       obtain⟨rfl,e3⟩:=List.cons.inj h2
       have:z= []:=by cases z with
        |nil=>rfl
        |cons b z=>cases e3
       subst this
       rw[e41];omega
 · cases x with
   |nil=>obtain⟨rfl,_⟩:=List.cons.inj e;exact h
   |cons a x=>
    exfalso
    obtain⟨rfl,e2⟩:=List.cons.inj e
    rw[dep,e40] at hd
    rcases app_cases e2 with⟨z,h1,_⟩|⟨z,h1,h2⟩
    · have:=hc.nn x z h1;omega
    · rw[h1,dep_app,hc.z] at hd
      cases z with
      |nil=>simp[dep] at hd
      |cons b z=>
       have:=(List.cons.inj h2).2
       cases z<;>cases this
def TokA(c:List Str):Prop:= ∀w∈c,TokOk w∧w≠ []
theorem num_dig{s:Str}{n:Int}(hs:s.head?=some 45→s.length=1)(h:numS s=some n):digC (s.headD 0)=true:=by
 have h:=(num_same hs n).1 h
 unfold numR at h
 split at h
 · simp at h
 rename_i hc
 simp only[not_or,Bool.not_eq_false] at hc
 cases s with
 |nil=>exact absurd rfl hc.1
 |cons a s=>have:=hc.2.2.1;simp only[List.all_cons,Bool.and_eq_true] at this;exact this.1
theorem named_ne{s:Str}(h:namedM s=true){u:Str}(hu:namedM u=false):s≠u:=fun e=>by rw[e,hu] at h;cases h
theorem dv_fl{lv:Lv}{k:Nat}{c:List Str}{e:Ex}(h:Dv lv k c e):TokA c→Fl (okW lv) c:=by
 have mono: ∀{a b:Lv},(∀u∈a.more,u∈b.more)→ ∀w,okW a w→okW b w:=fun hab w hw=>hw.elim .inl (fun h=> .inr (hab w h))
 induction h with
 |oA h ih=>exact fun ht=>(ih ht).imp (mono (by simp[Lv.more]))
 |oO h h2 ih ih2=>
  intro ht
  refine((ih (fun w hw=>ht w (by simp[hw])))).app (Fl.cons (.inr (by simp[Lv.more])) (by decide) (by decide) ((ih2 (fun w hw=>ht w (by simp[hw]))).imp (mono (by simp[Lv.more]))))
 |aT h ih=>exact fun ht=>(ih ht).imp (mono (by simp[Lv.more]))
 |aA h h2 ih ih2=>
  intro ht
  refine((ih (fun w hw=>ht w (by simp[hw])))).app (Fl.cons (.inr (by simp[Lv.more])) (by decide) (by decide) ((ih2 (fun w hw=>ht w (by simp[hw]))).imp (mono (by simp[Lv.more]))))
 |tN h ih=>exact fun ht=>Fl.cons (.inr (by simp[Lv.more])) (by decide) (by decide) (ih (fun w hw=>ht w (by simp[hw])))
 |tS h ih=>exact fun ht=>(ih ht).imp (mono (by simp[Lv.more]))
 |tI h ih=>exact fun ht=>((ih (fun w hw=>ht w (by simp[hw]))).imp (mono (by simp[Lv.more]))).app (Fl.cons (.inr (by simp[Lv.more])) (by decide) (by decide) (Fl.one (.inl (.inr (.inl rfl))) (by decide) (by decide)))
 |tE h h2 ih ih2=>
  intro ht
  refine((ih (fun w hw=>ht w (by simp[hw]))).imp (mono (by simp[Lv.more]))).app (Fl.cons (.inr (by simp[Lv.more])) (by decide) (by decide) ((ih2 (fun w hw=>ht w (by simp[hw]))).imp (mono (by simp[Lv.more]))))
 |tL h h2 ih ih2=>
  intro ht
  refine((ih (fun w hw=>ht w (by simp[hw]))).imp (mono (by simp[Lv.more]))).app (Fl.cons (.inr (by simp[Lv.more])) (by decide) (by decide) ((ih2 (fun w hw=>ht w (by simp[hw]))).imp (mono (by simp[Lv.more]))))
 |sM h ih=>exact fun ht=>(ih ht).imp (mono (by simp[Lv.more]))
 |sP h h2 ih ih2=>
  intro ht
  refine(ih (fun w hw=>ht w (by simp[hw]))).app (Fl.cons (.inr (by simp[Lv.more])) (by decide) (by decide) ((ih2 (fun w hw=>ht w (by simp[hw]))).imp (mono (by simp[Lv.more]))))
 |sN h h2 ih ih2=>
  intro ht
  refine(ih (fun w hw=>ht w (by simp[hw]))).app (Fl.cons (.inl (.inr (.inr (.inl rfl)))) (by decide) (by decide) ((ih2 (fun w hw=>ht w (by simp[hw]))).imp (mono (by simp[Lv.more]))))
 |mB h ih=>exact fun ht=>(ih (fun w hw=>ht w (by simp[hw]))).brk (.inl (.inl rfl))
 |mL h=>
  intro ht
  cases h with
  |nul=>exact Fl.one (.inl (.inr (.inl rfl))) (by decide) (by decide)
  |txt h h0 hg=>exact Fl.one (.inl (.inr (.inr (.inr (.inr (.inl h)))))) (fun e=>by rw[e] at h;exact absurd h (by decide)) (fun e=>by rw[e] at h;exact absurd h (by decide))
  |num h h0 hn=>exact Fl.one (.inl (.inr (.inr (.inr (.inr (.inr (.inl h))))))) (fun e=>by rw[e] at h;exact absurd h (by decide)) (fun e=>by rw[e] at h;exact absurd h (by decide))
  |neg h0 hn=>
   have h:=num_dig (ht _ (by simp)).1.2.2 hn
   exact Fl.cons (.inl (.inr (.inr (.inl rfl)))) (by decide) (by decide) (Fl.one (.inl (.inr (.inr (.inr (.inr (.inr (.inl h))))))) (fun e=>by rw[e] at h;exact absurd h (by decide)) (fun e=>by rw[e] at h;exact absurd h (by decide)))
  |ref h=>exact Fl.one (.inl (.inr (.inr (.inr (.inr (.inr (.inr h))))))) (named_ne h (by decide)) (named_ne h (by decide))
  |dot h h2=>
   exact Fl.cons (.inl (.inr (.inr (.inr (.inr (.inr (.inr h))))))) (named_ne h (by decide)) (named_ne h (by decide)) (Fl.cons (.inl (.inr (.inr (.inr (.inl rfl))))) (by decide) (by decide) (Fl.one (.inl (.inr (.inr (.inr (.inr (.inr (.inr h2))))))) (named_ne h2 (by decide)) (named_ne h2 (by decide))))
theorem dv_sign{k:Nat}{c:List Str}{e:Ex}(h:Dv .M k c e)(ht:TokA c): ∀x w y,c=x++w::y→dep x=0→w≠ [43] ∧(w= [45] →x= []):=by
 intro x w y hc hd
 have hf:=(dv_fl h ht).fr x w y hc hd
 refine⟨okW_ne hf (by decide) (by simp[Lv.more]),fun hw=> ?_⟩
 subst hw
 cases h with
 |mB h=>
  cases x with
  |nil=>rfl
  |cons a x=>
   exfalso
   have hi:=dv_fl h (fun w hw=>ht w (by simp[hw]))
   obtain⟨rfl,e2⟩:=List.cons.inj hc
   have e40:depW 0 [40] =1:=rfl
   rw[dep,e40] at hd
   rcases app_cases e2 with⟨z,h1,_⟩|⟨z,h1,h2⟩
   · have:=hi.nn x z h1;omega
   · rw[h1,dep_app,hi.z] at hd
     cases z with
     |nil=>simp[dep] at hd
     |cons b z=>have:=(List.cons.inj h2).2;cases z<;>cases this
 |mL h=>
  cases h with
  |nul=>cases x with
   |nil=>rfl
   |cons a x=>have:=(List.cons.inj hc).2;cases x<;>cases this
  |txt h h0 hg=>cases x with
   |nil=>rfl
   |cons a x=>have:=(List.cons.inj hc).2;cases x<;>cases this
  |num h h0 hn=>cases x with
   |nil=>rfl
   |cons a x=>have:=(List.cons.inj hc).2;cases x<;>cases this
  |ref h=>cases x with
   |nil=>rfl
   |cons a x=>have:=(List.cons.inj hc).2;cases x<;>cases this
  |neg h0 hn=>
   rename_i s n
   cases x with
   |nil=>rfl
   |cons a x=>
    exfalso
    have e2:=(List.cons.inj hc).2
    have h:=num_dig (ht s (by simp)).1.2.2 hn
    cases x with
    |nil=>obtain⟨rfl,_⟩:=List.cons.inj e2;exact absurd h (by decide)
    |cons b x=>have:=(List.cons.inj e2).2;cases x<;>cases this
  |dot h h2=>
   rename_i s t
   cases x with
   |nil=>rfl
   |cons a x=>
    exfalso
    have e2:=(List.cons.inj hc).2
    cases x with
    |nil=>exact absurd (List.cons.inj e2).1 (by decide)
    |cons b x=>
     have e3:=(List.cons.inj e2).2
     cases x with
     |nil=>obtain⟨rfl,_⟩:=List.cons.inj e3;exact absurd h2 (by decide)
     |cons b x=>have:=(List.cons.inj e3).2;cases x<;>cases this
theorem dv_ne{lv:Lv}{k:Nat}{c:List Str}{e:Ex}(h:Dv lv k c e):c≠ []:=by
 induction h with
 |oA _ ih=>exact ih
 |oO _ _ _ _=>simp
 |aT _ ih=>exact ih
 |aA _ _ _ _=>simp
 |tN _ _=>simp
 |tS _ ih=>exact ih
 |tI _ _=>simp
 |tE _ _ _ _=>simp
 |tL _ _ _ _=>simp
 |sM _ ih=>exact ih
 |sP _ _ _ _=>simp
 |sN _ _ _ _=>simp
 |mB _ _=>simp
 |mL h=>cases h<;>simp
theorem dv_last{lv:Lv}{k:Nat}{c:List Str}{e:Ex}(h:Dv lv k c e):lv= .S∨lv= .M→TokA c→ ∃y w,c=y++ [w] ∧w≠ [43] ∧w≠ [45]:=by
 induction h with
 |oA _ _=>rintro (h|h)<;>cases h
 |oO _ _ _ _=>rintro (h|h)<;>cases h
 |aT _ _=>rintro (h|h)<;>cases h
 |aA _ _ _ _=>rintro (h|h)<;>cases h
 |tN _ _=>rintro (h|h)<;>cases h
 |tS _ _=>rintro (h|h)<;>cases h
 |tI _ _=>rintro (h|h)<;>cases h
 |tE _ _ _ _=>rintro (h|h)<;>cases h
 |tL _ _ _ _=>rintro (h|h)<;>cases h
 |sM _ ih=>exact fun _ ht=>ih (.inr rfl) ht
 | @sP k a b e1 e2 _ _ _ ih=>intro _ ht;obtain⟨y,w,rfl,h1,h2⟩:=ih (.inr rfl) (fun w hw=>ht w (by simp[hw]));exact⟨a++ [43]::y,w,by simp,h1,h2⟩
 | @sN k a b e1 e2 _ _ _ ih=>intro _ ht;obtain⟨y,w,rfl,h1,h2⟩:=ih (.inr rfl) (fun w hw=>ht w (by simp[hw]));exact⟨a++ [45]::y,w,by simp,h1,h2⟩
 |mB _ _=>exact fun _ _=>⟨_::_,[41],rfl,by decide,by decide⟩
 |mL h=>
  intro _ ht
  cases h with
  |nul=>exact⟨[],_,rfl,by decide,by decide⟩
  |txt h h0 hg=>exact⟨[],_,rfl,fun e=>by rw[e] at h;exact absurd h (by decide),fun e=>by rw[e] at h;exact absurd h (by decide)⟩
  |num h h0 hn=>exact⟨[],_,rfl,fun e=>by rw[e] at h;exact absurd h (by decide),fun e=>by rw[e] at h;exact absurd h (by decide)⟩
  |neg h0 hn=>
   rename_i s n
   have h:=num_dig (ht s (by simp)).1.2.2 hn
   exact⟨[[45]],s,rfl,fun e=>by rw[e] at h;exact absurd h (by decide),fun e=>by rw[e] at h;exact absurd h (by decide)⟩
  |ref h=>exact⟨[],_,rfl,named_ne h (by decide),named_ne h (by decide)⟩
  |dot h h2=>exact⟨[_,_],_,rfl,named_ne h2 (by decide),named_ne h2 (by decide)⟩
theorem at_end{P:Str→Prop}{b p y:List Str}(hb:Fl P b)(h0:b≠ [])(hi: ¬P wIS)(h:p++b=y++ [wIS,wNULL]):b= [wNULL] ∧p=y++ [wIS]:=by
 rcases app_cases h with⟨z,h1,h2⟩|⟨z,h1,h2⟩
 ·
  cases z with
  |nil=>
   rw[List.nil_append] at h2
   exact absurd (hb.fr [] wIS [wNULL] h2.symm rfl) hi
  |cons u z=>
   rw[List.cons_append] at h2
   obtain⟨rfl,h3⟩:=List.cons.inj h2
   cases z with
   |nil=>rw[List.nil_append] at h3;exact⟨h3.symm,h1⟩
   |cons v z=>
    exfalso
    rw[List.cons_append] at h3
    have:=(List.cons.inj h3).2
    cases z with
    |nil=>rw[List.nil_append] at this;exact h0 this.symm
    |cons v z=>cases this
 · refine absurd (hb.fr z wIS [wNULL] h2 ?_) hi
   have hz:=hb.z
   rw[h2,dep_app] at hz
   have:dep [wIS,wNULL] =0:=rfl
   omega
end Go.Proofs.YtadjbegnlimepaaGreatDoor
