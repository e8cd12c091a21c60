/- Lemmas towards the law. Conditions: each one says its own. -/
import Derived.Test.YtnhmohbhgocbjaaGreatDoorZT4
set_option linter.all false
set_option maxHeartbeats 64000000
set_option maxRecDepth 100000
namespace Go.Proofs.Y
open Go.Abs Go.Proofs.Tryz
attribute [local irreducible] L Code.wp bodyPost Exit.then Exit.inBlock
section
variable {es:List (List IV)}{i k:Nat}{v:List IV}
def aD(hk: ∀e∈es,e.length=k)(h0:0<k)(hne:es≠ []):es.flatten≠ []:=fun e=>by
 have:=ao es hk;rw[e] at this;have hp:0<es.length:=gU hne;have:0<es.length*k:=Nat.mul_pos hp h0;simp at*;omega
def ui(hk: ∀e∈es,e.length=k)(hv:v.length=k): ∀e∈es.take i++v::es.drop i,e.length=k:=fun e he=>by
 rcases mA he with h|h
 · exact hk e (mT h)
 · rcases List.mem_cons.1 h with rfl|h
   · exact hv
   · exact hk e (mD h)
def uj(hi:i≤es.length):(es.take i++v::es.drop i).length=es.length+1:=by
 simp;omega
def Hm(v:List IV):([v].drop 0).take 1= [v]:=rfl
def Kz(hi:i≤es.length):(es.take i).take i++(([v].drop 0).take 1++(es.take i).drop (i+1))=es.take i++ [v]:=by
 rw[Hm,List.take_take,Nat.min_self,@List.drop_eq_nil_of_le _ (es.take i) _ (by simp;omega)];simp
def Ky(hi:i≤es.length):(es.take i++ [v]).take (i+1)++((es.drop i).take (es.length - i)++(es.take i++ [v]).drop (i+1+(es.length - i)))=es.take i++v::es.drop i:=by
 rw[tL (l:=es.take i++ [v]) (by simp;omega),@List.drop_eq_nil_of_le _ (es.take i++ [v]) _ (by simp;omega),tL (l:=es.drop i) sP];simp
def Kx(hi:i≤es.length):es.take (i+1)++((es.drop i).take (es.length - i)++es.drop (i+1+(es.length - i)))=es.take (i+1)++es.drop i:=by
 rw[@List.drop_eq_nil_of_le _ es (i+1+(es.length - i)) C,tL (l:=es.drop i) sP];simp
def Kw(hi:i<es.length):(es.take (i+1)++es.drop i).take i++(([v].drop 0).take 1++(es.take (i+1)++es.drop i).drop (i+1))=es.take i++v::es.drop i:=by
 have hl:(es.take (i+1)).length=i+1:=by simp;omega
 rw[Hm,tA C,List.take_take,Nat.min_eq_left C,List.drop_append_of_le_length C,@List.drop_eq_nil_of_le _ (es.take (i+1)) _ C];simp
def Kv:es.take es.length++(([v].drop 0).take 1++es.drop (es.length+1))=es.take es.length++v::es.drop es.length:=by
 rw[Hm,@List.drop_eq_nil_of_le _ es (es.length+1) C];simp
def Ku:es.take es.length++([v].drop 0).take 1=es.take es.length++v::es.drop es.length:=by simp
def Bx(es:List (List IV))(v:List IV)(i:Nat)(hk: ∀e∈es,e.length=1)(hv:v.length=1)(hne:es≠ [])(hi:i≤es.length)(hm:es.length+1≤maxLen)(hl:(es.length+1)*16≤140737488355328):
 CallA prog 192 [.bsh 1000 0 es.length 1,aI (i:Int),.bsl 1001 0 1 1] [(1000,⟨9,.r es.flatten 0⟩),(1001,⟨9,.r [v].flatten 0⟩)] [(1002,⟨9,.r (es.take i++v::es.drop i).flatten 0⟩),(1000,⟨9,.l []⟩),(1001,⟨9,.l []⟩)] [] (.bsh 1002 0 (es.length+1) 1):=by
 have hfl:=ao es hk;have hpos:0<es.length:=gU hne;have hfne:=aD hk dD hne;have hkv: ∀e∈ [v],e.length=1:=by simpa using hv
 have hvl: [v].flatten.length=1:=by simpa using hv
 have hki:=ui (i:=i) hk hv;have hli:=uj (v:=v) hi;have hkt: ∀e∈es.take i,e.length=1:=bw hk;have hlt:(es.take i).length=i:=by simp;omega
 have hft:=ao _ hkt;have hk1: ∀e∈es.take i++ [v],e.length=1:=cH hkt hkv;have hl1:(es.take i++ [v]).length=i+1:=by simp;omega
 have hk3: ∀e∈es.take (i+1)++es.drop i,e.length=1:=cH (bw hk) (bO hk);have h1v: [v].length=1:=rfl;have hl3:i<es.length→(es.take (i+1)++es.drop i).length=es.length+1:=fun h=>by simp;omega
 refine iA func192 ntmps192 (fun w0 E0=> ?_);refine L.openRow 0 U U (.inl hfne) C (fun cap hc1 hc2=> ?_);generalize hmm:cap*1 - es.flatten.length=mm;have hz:(((1:Nat):Int)==0)=false:=rfl;by_cases hin:i=es.length
 · have hb:(((i:Nat):Int)==((es.length:Nat):Int))=true:=by simp[hin]
   subst hin;by_cases hroom:es.length+1≤cap
   · (repeat' first|intro hb hp|(refine LW.is ?_;first|refine ag U (cy U U C C U U U) ?_|refine oc (i':=0) U U U U U (.inl hfne) hk hkv U (Nat.le_refl 1) C hroom nR C Kv U U ?_)|refine am ?_|refine ak ?_ ?_|fail)
     all_goals(apply cv 6 1002 (k:=1) (n:=es.length+1);rfl;rfl;rfl;exact hki;exact hli;omega;omega)
     all_goals refine cT 1001 U (Go.Abs.row_ne (.inl (aD hkv dD sP))) ?_
     all_goals exact L.ends U U fR wK
   · (repeat' first|intro hb hp|(refine LW.is ?_;first|refine ag U (cy U U C C U U U) ?_|refine qM 1002 (i':=0) U U U U U hk hkv U Nat.one_pos (Nat.le_refl 1) nR C hm hl U Ku U ?_)|refine am ?_|refine ak ?_ ?_|fail)
     all_goals refine cT 1000 U (Go.Abs.row_ne (.inl hfne)) ?_
     all_goals refine cT 1001 U (Go.Abs.row_ne (.inl (aD hkv dD sP))) ?_
     all_goals exact L.ends U U fR wK
 · have hb:(((i:Nat):Int)==((es.length:Nat):Int))=false:=by simp;omega
   have hilt:i<es.length:=C;have hl3:=hl3 hilt;by_cases hroom:es.length+1≤cap
   · have hb2:decide ((cap:Int)<(es.length:Int)+((1:Nat):Int))=false:=by simp;omega
     (repeat' first|intro hb hp|(refine LW.is ?_;first|refine ag U (cy U U C C U U U) ?_|refine ag U (fg U U C C U) ?_|refine ag U (lz U U U U U dD C hfne) ?_|refine ii (es:=es.take (i+1)++es.drop i) (es':= [v]) (i:=i) (i':=0) (cnt:=1) (er:=es.take i++v::es.drop i) U U U U U hk3 hkv dD C U (by show min _ _=_;omega) dD C C (by simp;omega) (by simp;omega) (Kw hilt) U ?_)|(refine DR.is ?_;first|refine bk U (cy U U C C U U U) ?_|refine jz (es:=es) (es':=es) (i:=i+1) (i':=i) (cnt:=es.length - i) (er:=es.take (i+1)++es.drop i) U U U U U hk hk dD C C (by show min _ _=_;omega) C C C C C (Kx hi) U ?_)|refine am ?_|refine ak ?_ ?_|fail)
     all_goals(apply cv 6 1002 (k:=1) (n:=es.length+1);rfl;rfl;rfl;exact hki;exact hli;omega;omega)
     all_goals refine cT 1001 U (Go.Abs.row_ne (.inl (aD hkv dD sP))) ?_
     all_goals exact L.ends U U fR wK
   · have hb2:decide ((cap:Int)<(es.length:Int)+((1:Nat):Int))=true:=by simp;omega
     (repeat' first|intro hb hp|refine L.openRow 9 (id:=2000) (n:=es.length+1) (k:=1) (ty:=9) (xs:=(es.take i).flatten) (m:=(es.length+1 - i)*1) U U (.inr C) C (fun cap2 hd1 hd2=> ?_)|(refine LW.is ?_;first|refine ag U (cy U U C C U U U) ?_|refine ag U (fg U U C C U) ?_|refine qL 2000 (n:=i) (m:=es.length+1 - i) (nr:=es.length+1) U U U C U hk C C C C C U U C U ?_|refine ii (es:=es.take i) (es':= [v]) (i:=i) (i':=0) (cnt:=1) (er:=es.take i++ [v]) U U U U U hkt hkv dD C U (by show min _ _=_;omega) dD C C C C (Kz hi) U ?_)|(refine DR.is ?_;first|refine bk U (cy U U C C U U U) ?_|refine jz (es:=es.take i++ [v]) (es':=es) (i:=i+1) (i':=i) (cnt:=es.length - i) (er:=es.take i++v::es.drop i) U U U U U hk1 hk dD C C (by show min _ _=_;omega) C C C C C (Ky hi) U ?_)|refine am ?_|refine ak ?_ ?_|fail)
     all_goals(apply cv 6 1002 (k:=1) (n:=es.length+1);rfl;rfl;rfl;exact hki;exact hli;omega;omega)
     all_goals refine cT 1000 U (Go.Abs.row_ne (.inl hfne)) ?_
     all_goals refine cT 1001 U (Go.Abs.row_ne (.inl (aD hkv dD sP))) ?_
     all_goals exact L.ends U U fR wK
def By(es:List (List IV))(v:List IV)(i:Nat)(hk: ∀e∈es,e.length=2)(hv:v.length=2)(hne:es≠ [])(hi:i≤es.length)(hm:es.length+1≤maxLen)(hl:(es.length+1)*48≤140737488355328):
 CallA prog 193 [.bsh 1000 0 es.length 2,aI (i:Int),.bsl 1001 0 1 1] [(1000,⟨93,.r es.flatten 0⟩),(1001,⟨93,.r [v].flatten 0⟩)] [(1002,⟨93,.r (es.take i++v::es.drop i).flatten 0⟩),(1000,⟨93,.l []⟩),(1001,⟨93,.l []⟩)] [] (.bsh 1002 0 (es.length+1) 2):=by
 have hfl:=ao es hk;have hpos:0<es.length:=gU hne;have hfne:=aD hk dD hne;have hkv: ∀e∈ [v],e.length=2:=by simpa using hv
 have hvl: [v].flatten.length=2:=by simpa using hv
 have hki:=ui (i:=i) hk hv;have hli:=uj (v:=v) hi;have hkt: ∀e∈es.take i,e.length=2:=bw hk;have hlt:(es.take i).length=i:=by simp;omega
 have hft:=ao _ hkt;have hk1: ∀e∈es.take i++ [v],e.length=2:=cH hkt hkv;have hl1:(es.take i++ [v]).length=i+1:=by simp;omega
 have hk3: ∀e∈es.take (i+1)++es.drop i,e.length=2:=cH (bw hk) (bO hk);have h1v: [v].length=1:=rfl;have hl3:i<es.length→(es.take (i+1)++es.drop i).length=es.length+1:=fun h=>by simp;omega
 refine iA func193 ntmps193 (fun w0 E0=> ?_);refine L.openRow 0 U U (.inl hfne) C (fun cap hc1 hc2=> ?_);generalize hmm:cap*2 - es.flatten.length=mm;have hz:(((1:Nat):Int)==0)=false:=rfl;by_cases hin:i=es.length
 · have hb:(((i:Nat):Int)==((es.length:Nat):Int))=true:=by simp[hin]
   subst hin;by_cases hroom:es.length+1≤cap
   · (repeat' first|intro hb hp|(refine LW.is ?_;first|refine ag U (cy U U C C U U U) ?_|refine oc (i':=0) U U U U U (.inl hfne) hk hkv U (Nat.le_refl 1) C hroom nR C Kv U U ?_)|refine am ?_|refine ak ?_ ?_|fail)
     all_goals(apply cv 6 1002 (k:=2) (n:=es.length+1);rfl;rfl;rfl;exact hki;exact hli;omega;omega)
     all_goals refine cT 1001 U (Go.Abs.row_ne (.inl (aD hkv dD sP))) ?_
     all_goals exact L.ends U U fR wK
   · (repeat' first|intro hb hp|(refine LW.is ?_;first|refine ag U (cy U U C C U U U) ?_|refine qM 1002 (i':=0) U U U U U hk hkv U Nat.one_pos (Nat.le_refl 1) nR C hm hl U Ku U ?_)|refine am ?_|refine ak ?_ ?_|fail)
     all_goals refine cT 1000 U (Go.Abs.row_ne (.inl hfne)) ?_
     all_goals refine cT 1001 U (Go.Abs.row_ne (.inl (aD hkv dD sP))) ?_
     all_goals exact L.ends U U fR wK
 · have hb:(((i:Nat):Int)==((es.length:Nat):Int))=false:=by simp;omega
   have hilt:i<es.length:=C;have hl3:=hl3 hilt;by_cases hroom:es.length+1≤cap
   · have hb2:decide ((cap:Int)<(es.length:Int)+((1:Nat):Int))=false:=by simp;omega
     (repeat' first|intro hb hp|(refine LW.is ?_;first|refine ag U (cy U U C C U U U) ?_|refine ag U (fg U U C C U) ?_|refine ag U (lz U U U U U dD C hfne) ?_|refine ii (es:=es.take (i+1)++es.drop i) (es':= [v]) (i:=i) (i':=0) (cnt:=1) (er:=es.take i++v::es.drop i) U U U U U hk3 hkv dD C U (by show min _ _=_;omega) dD C C (by simp;omega) (by simp;omega) (Kw hilt) U ?_)|(refine DR.is ?_;first|refine bk U (cy U U C C U U U) ?_|refine jz (es:=es) (es':=es) (i:=i+1) (i':=i) (cnt:=es.length - i) (er:=es.take (i+1)++es.drop i) U U U U U hk hk dD C C (by show min _ _=_;omega) C C C C C (Kx hi) U ?_)|refine am ?_|refine ak ?_ ?_|fail)
     all_goals(apply cv 6 1002 (k:=2) (n:=es.length+1);rfl;rfl;rfl;exact hki;exact hli;omega;omega)
     all_goals refine cT 1001 U (Go.Abs.row_ne (.inl (aD hkv dD sP))) ?_
     all_goals exact L.ends U U fR wK
   · have hb2:decide ((cap:Int)<(es.length:Int)+((1:Nat):Int))=true:=by simp;omega
     (repeat' first|intro hb hp|refine L.openRow 9 (id:=2000) (n:=es.length+1) (k:=2) (ty:=93) (xs:=(es.take i).flatten) (m:=(es.length+1 - i)*2) U U (.inr C) C (fun cap2 hd1 hd2=> ?_)|(refine LW.is ?_;first|refine ag U (cy U U C C U U U) ?_|refine ag U (fg U U C C U) ?_|refine qL 2000 (n:=i) (m:=es.length+1 - i) (nr:=es.length+1) U U U C U hk C C C C C U U C U ?_|refine ii (es:=es.take i) (es':= [v]) (i:=i) (i':=0) (cnt:=1) (er:=es.take i++ [v]) U U U U U hkt hkv dD C U (by show min _ _=_;omega) dD C C C C (Kz hi) U ?_)|(refine DR.is ?_;first|refine bk U (cy U U C C U U U) ?_|refine jz (es:=es.take i++ [v]) (es':=es) (i:=i+1) (i':=i) (cnt:=es.length - i) (er:=es.take i++v::es.drop i) U U U U U hk1 hk dD C C (by show min _ _=_;omega) C C C C C (Ky hi) U ?_)|refine am ?_|refine ak ?_ ?_|fail)
     all_goals(apply cv 6 1002 (k:=2) (n:=es.length+1);rfl;rfl;rfl;exact hki;exact hli;omega;omega)
     all_goals refine cT 1000 U (Go.Abs.row_ne (.inl hfne)) ?_
     all_goals refine cT 1001 U (Go.Abs.row_ne (.inl (aD hkv dD sP))) ?_
     all_goals exact L.ends U U fR wK
end
def KV{es:List (List IV)}{i:Nat}(hi:i<es.length):es.take i++((es.drop (i+1)).take (es.length - (i+1))++es.drop (i+(es.length - (i+1))))=(es.take i++es.drop (i+1))++es.drop (es.length - 1):=by
 rw[tL (l:=es.drop (i+1)) sP,show i+(es.length - (i+1))=es.length - 1 by omega];simp
def Nm{es:List (List IV)}{i:Nat}(hi:i<es.length):((es.take i++es.drop (i+1))++es.drop (es.length - 1)).take (es.length - 1)=es.take i++es.drop (i+1):=by
 have:(es.take i++es.drop (i+1)).length=es.length - 1:=by simp;omega
 rw[tA C,tL C]
def BV(es:List (List IV))(i:Nat)(a b:Int)(ha:a=i)(hb:b=i+1)(hk: ∀e∈es,e.length=1)(hi:i<es.length)(h2:2≤es.length):
 CallA prog 162 [.bsh 1000 0 es.length 1,aI a,aI b] [(1000,⟨9,.r es.flatten 0⟩)] [(1001,⟨9,.r (es.take i++es.drop (i+1)).flatten 0⟩),(1000,⟨9,.l []⟩)] [] (.bsh 1001 0 (es.length - 1) 1):=by
 have hfl:=ao es hk;have hfne:=aD hk dD (fun e=>by rw[e] at h2;simp at h2);have hkr: ∀e∈es.take i++es.drop (i+1),e.length=1:=cH (bw hk) (bO hk);have hlr:(es.take i++es.drop (i+1)).length=es.length - 1:=by simp;omega
 have hkr2: ∀e∈(es.take i++es.drop (i+1))++es.drop (es.length - 1),e.length=1:=cH hkr (bO hk);have hlr2:((es.take i++es.drop (i+1))++es.drop (es.length - 1)).length=es.length:=by simp;omega
 refine iA func162 ntmps162 (fun w0 E0=> ?_);refine L.openRow 0 U U (.inl hfne) C (fun cap hc1 hc2=> ?_);generalize hmm:cap*1 - es.flatten.length=mm;have he:(a==b)=false:=by simp;omega
 (repeat' first|intro hb hp|(refine LW.is ?_;first|refine ag U (yP U U U U C C C C) ?_|refine ag U (tY U U U C C C U U U) ?_|refine gf (j:=es.length - 1) U U hkr2 C C C C (Nm hi) U ?_)|(refine DR.is ?_;first|refine bk U (cy (n':=es.length - (i+1)) U U C C U C U) ?_|refine bk U (fg (n':=i) U U C C C) ?_|refine rt (n:=i) (i':=i+1) (n':=es.length - (i+1)) (nr:=es.length - 1) U U U U U (.inl hfne) hk hk C C C C C C (KV hi) U C ?_)|refine am ?_|refine ak ?_ ?_|fail)
 all_goals(apply cv 6 1001 (k:=1) (n:=es.length - 1);rfl;rfl;rfl;exact hkr;exact hlr;omega;omega)
 all_goals exact L.ends U U fR wK
def BU(es:List (List IV))(i:Nat)(a b:Int)(ha:a=i)(hb:b=i+1)(hk: ∀e∈es,e.length=1)(hi:i<es.length)(h2:es.length=1):
 CallA prog 162 [.bsh 1000 0 es.length 1,aI a,aI b] [(1000,⟨9,.r es.flatten 0⟩)] [(1000,⟨9,.l []⟩)] [] (.iv (.sl [])):=by
 have hfl:=ao es hk;have hfne:=aD hk dD (fun e=>by rw[e] at h2;simp at h2);have hkr2: ∀e∈(es.take i++es.drop (i+1))++es.drop (es.length - 1),e.length=1:=cH (cH (bw hk) (bO hk)) (bO hk);have hlr2:((es.take i++es.drop (i+1))++es.drop (es.length - 1)).length=es.length:=by simp;omega
 refine iA func162 ntmps162 (fun w0 E0=> ?_);refine L.openRow 0 U U (.inl hfne) C (fun cap hc1 hc2=> ?_);generalize hmm:cap*1 - es.flatten.length=mm;have he:(a==b)=false:=by simp;omega
 (repeat' first|intro hb hp|(refine LW.is ?_;first|refine ag U (yP U U U U C C C C) ?_|refine ag U (tY (off':=0) (n':=1) U U U C C C U C U) ?_|refine gf (j:=0) (er:= []) (mr:=(es.length*1+mm) - 0) U U hkr2 C C C C U C ?_)|(refine DR.is ?_;first|refine bk U (cy (n':=es.length - (i+1)) U U C C U C U) ?_|refine bk U (fg (n':=i) U U C C C) ?_|refine rt (n:=i) (i':=i+1) (n':=es.length - (i+1)) (nr:=0) U U U U U (.inl hfne) hk hk C C C C C C (KV hi) U C ?_)|refine am ?_|refine ak ?_ ?_|fail)
 all_goals refine cT 1000 U (Go.Abs.row_ne (.inr C)) ?_
 all_goals exact L.ends U U (Sub.bsl0 _ _ _) wK
def BY(es:List (List IV))(i:Nat)(a b:Int)(ha:a=i)(hb:b=i+1)(hk: ∀e∈es,e.length=2)(hi:i<es.length)(h2:2≤es.length):
 CallA prog 163 [.bsh 1000 0 es.length 2,aI a,aI b] [(1000,⟨93,.r es.flatten 0⟩)] [(1001,⟨93,.r (es.take i++es.drop (i+1)).flatten 0⟩),(1000,⟨93,.l []⟩)] [] (.bsh 1001 0 (es.length - 1) 2):=by
 have hfl:=ao es hk;have hfne:=aD hk dD (fun e=>by rw[e] at h2;simp at h2);have hkr: ∀e∈es.take i++es.drop (i+1),e.length=2:=cH (bw hk) (bO hk);have hlr:(es.take i++es.drop (i+1)).length=es.length - 1:=by simp;omega
 have hkr2: ∀e∈(es.take i++es.drop (i+1))++es.drop (es.length - 1),e.length=2:=cH hkr (bO hk);have hlr2:((es.take i++es.drop (i+1))++es.drop (es.length - 1)).length=es.length:=by simp;omega
 refine iA func163 ntmps163 (fun w0 E0=> ?_);refine L.openRow 0 U U (.inl hfne) C (fun cap hc1 hc2=> ?_);generalize hmm:cap*2 - es.flatten.length=mm;have he:(a==b)=false:=by simp;omega
 (repeat' first|intro hb hp|(refine LW.is ?_;first|refine ag U (yP U U U U C C C C) ?_|refine ag U (tY U U U C C C U U U) ?_|refine gf (j:=es.length - 1) U U hkr2 C C C C (Nm hi) U ?_)|(refine DR.is ?_;first|refine bk U (cy (n':=es.length - (i+1)) U U C C U C U) ?_|refine bk U (fg (n':=i) U U C C C) ?_|refine rt (n:=i) (i':=i+1) (n':=es.length - (i+1)) (nr:=es.length - 1) U U U U U (.inl hfne) hk hk C C C C C C (KV hi) U C ?_)|refine am ?_|refine ak ?_ ?_|fail)
 all_goals(apply cv 6 1001 (k:=2) (n:=es.length - 1);rfl;rfl;rfl;exact hkr;exact hlr;omega;omega)
 all_goals exact L.ends U U fR wK
def BX(es:List (List IV))(i:Nat)(a b:Int)(ha:a=i)(hb:b=i+1)(hk: ∀e∈es,e.length=2)(hi:i<es.length)(h2:es.length=1):
 CallA prog 163 [.bsh 1000 0 es.length 2,aI a,aI b] [(1000,⟨93,.r es.flatten 0⟩)] [(1000,⟨93,.l []⟩)] [] (.iv (.sl [])):=by
 have hfl:=ao es hk;have hfne:=aD hk dD (fun e=>by rw[e] at h2;simp at h2);have hkr2: ∀e∈(es.take i++es.drop (i+1))++es.drop (es.length - 1),e.length=2:=cH (cH (bw hk) (bO hk)) (bO hk);have hlr2:((es.take i++es.drop (i+1))++es.drop (es.length - 1)).length=es.length:=by simp;omega
 refine iA func163 ntmps163 (fun w0 E0=> ?_);refine L.openRow 0 U U (.inl hfne) C (fun cap hc1 hc2=> ?_);generalize hmm:cap*2 - es.flatten.length=mm;have he:(a==b)=false:=by simp;omega
 (repeat' first|intro hb hp|(refine LW.is ?_;first|refine ag U (yP U U U U C C C C) ?_|refine ag U (tY (off':=0) (n':=1) U U U C C C U C U) ?_|refine gf (j:=0) (er:= []) (mr:=(es.length*2+mm) - 0) U U hkr2 C C C C U C ?_)|(refine DR.is ?_;first|refine bk U (cy (n':=es.length - (i+1)) U U C C U C U) ?_|refine bk U (fg (n':=i) U U C C C) ?_|refine rt (n:=i) (i':=i+1) (n':=es.length - (i+1)) (nr:=0) U U U U U (.inl hfne) hk hk C C C C C C (KV hi) U C ?_)|refine am ?_|refine ak ?_ ?_|fail)
 all_goals refine cT 1000 U (Go.Abs.row_ne (.inr C)) ?_
 all_goals exact L.ends U U (Sub.bsl0 _ _ _) wK
def aF{α:Type}(l:List α)(i:Nat)(a:α):List α:=l.take i++a::l.drop i
def gX{α:Type}{l:List α}{i:Nat}{a:α}(hi:i≤l.length):(aF l i a).length=l.length+1:=by simp[aF];omega
def yi{α β:Type}(f:α→β)(l:List α)(i:Nat)(a:α):(aF l i a).map f=(l.map f).take i++f a::(l.map f).drop i:=by simp[aF,List.map_take,List.map_drop]
def cU(ks:List Str): ∀e∈ks.map Str.c,e.length=1:=fun e he=>by
 obtain⟨s,_,rfl⟩:=mM he;rfl
def dq(ps:List Pg): ∀e∈ps.map Pg.c,e.length=2:=fun e he=>by
 obtain⟨s,_,rfl⟩:=mM he;rfl
def bH{α β:Type}{f:α→β}{l:List α}(h:l≠ []):l.map f≠ []:=by simpa using h
def fC:maxLen=9223372036854775807:=rfl
def ji(ks:List Str)(hne:ks≠ [])(hl:ks.length≤1000):
 CallA prog 51 [.iv (.sl (ks.map Str.c))] [] [(1000,⟨9,.r (ks.map Str.c).flatten 0⟩)] [] (.bsh 1000 0 ks.length 1):=by
 have:=DT (ks.map Str.c) (cU ks) (bH hne) (by rw[lM,fC];omega) (by rw[lM];omega);rw[lM] at this;exact this
def jY(ps:List Pg)(hne:ps≠ [])(hl:ps.length*48≤140737488355328):
 CallA prog 160 [.iv (.sl (ps.map Pg.c))] [] [(1000,⟨93,.r (ps.map Pg.c).flatten 0⟩)] [] (.bsh 1000 0 ps.length 2):=by
 have:=DV (ps.map Pg.c) (dq ps) (bH hne) (by rw[lM,fC];omega) (by rw[lM];omega);rw[lM] at this;exact this
def lN(ks:List Str)(key:Str)(i:Nat)(a:Int)(ha:a=i)(hne:ks≠ [])(hi:i≤ks.length)(hl:ks.length≤1000):
 CallA prog 192 [.bsh 1000 0 ks.length 1,aI a,.bsl 1001 0 1 1] [(1000,⟨9,.r (ks.map Str.c).flatten 0⟩),(1001,⟨9,.r [[S key]].flatten 0⟩)] [(1002,⟨9,.r ((aF ks i key).map Str.c).flatten 0⟩),(1000,⟨9,.l []⟩),(1001,⟨9,.l []⟩)] [] (.bsh 1002 0 (aF ks i key).length 1):=by
 have:=Bx (ks.map Str.c) [S key] i (cU ks) U (bH hne) (by rw[lM];exact hi) (by rw[lM,fC];omega) (by rw[lM];omega);rw[lM,←gX hi (a:=key)] at this;rw[yi,ha];exact this
def Dv(ps:List Pg)(y:Pg)(i:Nat)(a:Int)(ha:a=i)(hne:ps≠ [])(hi:i≤ps.length)(hl:(ps.length+1)*48≤140737488355328):
 CallA prog 193 [.bsh 1000 0 ps.length 2,aI a,.bsl 1001 0 1 1] [(1000,⟨93,.r (ps.map Pg.c).flatten 0⟩),(1001,⟨93,.r [Pg.c y].flatten 0⟩)] [(1002,⟨93,.r ((aF ps i y).map Pg.c).flatten 0⟩),(1000,⟨93,.l []⟩),(1001,⟨93,.l []⟩)] [] (.bsh 1002 0 (aF ps i y).length 2):=by
 have:=By (ps.map Pg.c) (Pg.c y) i (dq ps) U (bH hne) (by rw[lM];exact hi) (by rw[lM,fC];omega) (by rw[lM];exact hl);rw[lM,←gX hi (a:=y)] at this;rw[yi,ha];exact this
def mN(p:Pg)(hk:p.ks≠ [])(hv:p.vs≠ [])(h1:p.ks.length≤1000)(h2:p.vs.length≤1000):
 CallA prog 161 [.agg [.iv (.sl (p.ks.map Str.c)),.iv (.sl (p.vs.map Str.c))]] [] [(1000,⟨9,.r (p.ks.map Str.c).flatten 0⟩),(1001,⟨9,.r (p.vs.map Str.c).flatten 0⟩)] [] (.agg [.bsh 1000 0 p.ks.length 1,.bsh 1001 0 p.vs.length 1]):=by
 have h:CallA prog 161 [.agg [.iv (.sl (p.ks.map Str.c)),.iv (.sl (p.vs.map Str.c))]] [] [(5,⟨9,.r (p.ks.map Str.c).flatten 0⟩),(8,⟨9,.r (p.vs.map Str.c).flatten 0⟩)] [] (.agg [.bsh 5 0 p.ks.length 1,.bsh 8 0 p.vs.length 1]):=by
  refine iA func161 ntmps161 (fun w0 E0=> ?_);(repeat' first|intro hb hp|(refine DR.is ?_;first|refine li U (ji p.ks hk h1) U U U ?_|refine li U (ji p.vs hv h2) U U U ?_)|refine am ?_|refine ak ?_ ?_|fail)
  all_goals exact L.ends U U fR (Wk.mk' (by intro id h;simp[keys] at h) .nil B2 .nil)
 exact h.sws [(5,1000),(8,1001)] U U U U U
def iP(ps:List Pg)(key val:Str):List Pg:=
 if aG ps then
  match ps[be ps key]? with
  |none=> [⟨[key],[val]⟩]
  |some x=>
   if bN x.ks key then ps.set (be ps key) ⟨x.ks,x.vs.set (aW x.ks key) val⟩
   else if 4<x.ks.length+1 then
    (aF ps (be ps key+1) ⟨(aF x.ks (aW x.ks key) key).drop ((x.ks.length+1) / 2),(aF x.vs (aW x.ks key) val).drop ((x.ks.length+1) / 2)⟩).set (be ps key)
      ⟨(aF x.ks (aW x.ks key) key).take ((x.ks.length+1) / 2),(aF x.vs (aW x.ks key) val).take ((x.ks.length+1) / 2)⟩
   else ps.set (be ps key) ⟨aF x.ks (aW x.ks key) key,aF x.vs (aW x.ks key) val⟩
 else ps
def zp{ps:List Pg}{key:Str}(h:ps≠ []):be ps key<ps.length:=by
 have:=jd (la key) ps;have hp:0<ps.length:=gU h;unfold be;omega
def EP(ps:List Pg)(key val:Str)(hl:(ps.length+1)*48≤140737488355328):
 CallA prog 159 [.agg [.iv (.sl (ps.map Pg.c))],aS key,aS val] [] [] [] (.agg [.iv (.sl ((iP ps key val).map Pg.c))]):=by
 have kg:=iC ps C;refine iA func159 ntmps159 (fun w0 E0=> ?_);cases hg:aG ps with
 |false=>
  rw[hg] at kg;have e:iP ps key val=ps:=by simp[iP,hg]
  rw[e];refine wz ?_;all_goals refine bn ?_
  all_goals rfl
 |true=>
  rw[hg] at kg;have hs:=dG key hg;have kp:=pt ps key C hs;by_cases hne:ps= []
  · subst hne;have e:iP [] key val= [⟨[key],[val]⟩]:=by simp[iP,aG,pS]
    have em:dm [] key=(0,0,false):=rfl;rw[e];rw[em] at kp;dsimp only at kp;(repeat' first|intro hb hp|(refine LW.is ?_;first|apply gp;rfl;exact DU;rfl;rfl)|refine am ?_|refine ak ?_ ?_|fail)
    all_goals refine bn ?_
    all_goals rfl
  · have hp:=zp (key:=key) hne;obtain⟨x,hx⟩: ∃x,ps[be ps key]?=some x:=⟨_,gG hp⟩
    have em:dm ps key=(be ps key,aW x.ks key,bN x.ks key):=by rw[dm,hx]
    rw[em] at kp;dsimp only at kp;have hmem:=gE hx;have hvl:=hs.vs x hmem;have hk4:=hs.len x hmem;have hkn:=hs.ne x hmem;have hkp:0<x.ks.length:=gU hkn;have hvn:x.vs≠ []:=fun h=>by rw[h] at hvl;simp at hvl;omega
    have h1:x.ks.length≤1000:=C;have h2:x.vs.length≤1000:=C;have hl0:ps.length*48≤140737488355328:=C;have hz:(((ps.length:Nat):Int)==0)=false:=by simp;omega
    have hlb:aW x.ks key≤x.ks.length:=jd _ _;have hvl2:=hvl;have gx:(ps.map Pg.c)[be ps key]?=some (Pg.c x):=by rw[gP,hx];rfl
    cases hf:bN x.ks key with
    |true=>
     rw[hf] at kp;have hlt:aW x.ks key<x.vs.length:=by
      rw[hvl];unfold bN at hf;have:x.ks[aW x.ks key]?=some key:=by simpa using hf
      exact(gS this).1
     have e:iP ps key val=ps.set (be ps key) ⟨x.ks,x.vs.set (aW x.ks key) val⟩:=by simp[iP,hg,hx,hf]
     rw[e];generalize aW x.ks key=k at*
     generalize be ps key=p at*
     have hset:x.vs.set k val≠ []:=fun h=>hvn (by simpa using h)
     have hset2:ps.set p ⟨x.ks,x.vs.set k val⟩≠ []:=fun h=>hne (by simpa using h)
     (repeat' first|intro hb hp|apply L.pubB 45 10 (es:=x.ks.map Str.c);rfl;rfl;exact cU _;decide;exact bH (by assumption);exact lM _;rfl;exact cN _ _;rfl;exact .cons .here (.cons .same .nil)|apply L.pubB 2045 10 (es:=(x.vs.set k val).map Str.c) (n:=x.vs.length);rfl;rfl;exact cU _;decide;exact bH (by assumption);simp;rfl;exact cN _ _;rfl;exact .cons .same (.cons .here .nil)|apply L.pubB 26 3 (es:=(ps.set p ⟨x.ks,x.vs.set k val⟩).map Pg.c) (n:=ps.length);rfl;rfl;exact dq _;decide;exact bH (by assumption);simp;rfl;exact cN _ _;rfl;exact .cons .here .nil|(refine LW.is ?_;first|apply jw;rfl;exact jY ps hne hl0;rfl;rfl;rfl|apply ag;rfl;apply jt (i:=p) (e:=Pg.c x);rfl;rfl;exact dq ps;omega;exact gx;rfl|apply mz;rfl;exact mN x hkn hvn h1 h2;rfl;rfl;rfl;rfl|apply ag;rfl;apply az;rfl;rfl;omega;omega;rfl|apply dS (i:=k) (e:= [S val]) (er:=(x.vs.set k val).map Str.c);rfl;rfl;rfl;rfl;rfl;rfl;exact cU _;omega;(rw[lM];omega);exact(List.map_set ..).symm|apply dS (i:=p) (e:=Pg.c ⟨x.ks,x.vs.set k val⟩) (er:=(ps.set p ⟨x.ks,x.vs.set k val⟩).map Pg.c);rfl;rfl;rfl;rfl;rfl;rfl;exact dq _;omega;(rw[lM];omega);exact(List.map_set ..).symm)|refine am ?_|refine ak ?_ ?_|fail)
     all_goals refine bn ?_
     all_goals rfl
    |false=>
     rw[hf] at kp;have hkl:aW x.ks key≤x.ks.length:=hlb;have hvl:aW x.ks key≤x.vs.length:=C;have hKl:(aF x.ks (aW x.ks key) key).length=x.ks.length+1:=gX hkl;have hVl:(aF x.vs (aW x.ks key) val).length=x.ks.length+1:=by rw[gX hvl,hvl2]
     by_cases hbig:4<x.ks.length+1
     · have e:iP ps key val=(aF ps (be ps key+1) ⟨(aF x.ks (aW x.ks key) key).drop ((x.ks.length+1) / 2),(aF x.vs (aW x.ks key) val).drop ((x.ks.length+1) / 2)⟩).set (be ps key)
        ⟨(aF x.ks (aW x.ks key) key).take ((x.ks.length+1) / 2),(aF x.vs (aW x.ks key) val).take ((x.ks.length+1) / 2)⟩:=by simp[iP,hg,hx,hf,hbig]
       rw[e];generalize hK:aF x.ks (aW x.ks key) key=K at hKl⊢;generalize hV:aF x.vs (aW x.ks key) val=V at hVl⊢;have hdec:decide ((4:Int)<(((K.map Str.c).length:Nat):Int))=true:=by rw[lM,hKl];simp;omega
       generalize hh:(x.ks.length+1) / 2=h;have hq:((((K.map Str.c).length:Nat):Int)).tdiv 2=(h:Int):=by rw[lM,hKl,Int.tdiv_eq_ediv_of_nonneg C];omega
       have hKm:(K.map Str.c).length=x.ks.length+1:=by rw[lM,hKl]
       have q0:0≤((((K.map Str.c).length:Nat):Int)).tdiv 2:=by rw[hq];omega
       have q1:((((K.map Str.c).length:Nat):Int)).tdiv 2≤(((K.map Str.c).length:Nat):Int):=by rw[hq,lM,hKl];omega
       have q2:((((K.map Str.c).length:Nat):Int)).tdiv 2≤(((V.map Str.c).length:Nat):Int):=by rw[hq,lM,hVl];omega
       have qd1:(K.map Str.c).drop (((((K.map Str.c).length:Nat):Int)).tdiv 2).toNat=(K.drop h).map Str.c:=by rw[hq,iN,List.map_drop]
       have qd2:(V.map Str.c).drop (((((K.map Str.c).length:Nat):Int)).tdiv 2).toNat=(V.drop h).map Str.c:=by rw[hq,iN,List.map_drop]
       have qt1:(K.map Str.c).take (((((K.map Str.c).length:Nat):Int)).tdiv 2).toNat=(K.take h).map Str.c:=by rw[hq,iN,List.map_take]
       have qt2:(V.map Str.c).take (((((K.map Str.c).length:Nat):Int)).tdiv 2).toNat=(V.take h).map Str.c:=by rw[hq,iN,List.map_take]
       have n0:K≠ []:=fun h=>by rw[h] at hKl;simp at hKl
       have n00:V≠ []:=fun h=>by rw[h] at hVl;simp at hVl
       have n1:K.drop h≠ []:=fun e=>by have:=congrArg List.length e;rw[lD] at this;simp only[List.length_nil] at this;omega
       have n2:V.drop h≠ []:=fun e=>by have:=congrArg List.length e;rw[lD] at this;simp only[List.length_nil] at this;omega
       have n3:K.take h≠ []:=fun e=>by have:=congrArg List.length e;rw[lT] at this;simp only[List.length_nil] at this;omega
       have n4:V.take h≠ []:=fun e=>by have:=congrArg List.length e;rw[lT] at this;simp only[List.length_nil] at this;omega
       generalize hY:(⟨K.drop h,V.drop h⟩:Pg)=Y;generalize hX:(⟨K.take h,V.take h⟩:Pg)=X;have hil:(aF ps (be ps key+1) Y).length=ps.length+1:=gX hp;have hne2:(aF ps (be ps key+1) Y).set (be ps key) X≠ []:=fun h=>by have:=congrArg List.length h;simp[hil] at this
       subst hK;subst hV;generalize aW x.ks key=k at*
       generalize be ps key=p at*
       subst hY;subst hX
       (repeat' first|intro hb hp|apply L.pubB 82 12 (es:=((aF x.ks k key).drop h).map Str.c);rfl;rfl;exact cU _;decide;exact bH (by assumption);exact lM _;rfl;exact cN _ _;rfl;exact .cons .here (.cons .same .nil)|apply L.pubB 88 12 (es:=((aF x.vs k val).drop h).map Str.c);rfl;rfl;exact cU _;decide;exact bH (by assumption);exact lM _;rfl;exact cN _ _;rfl;exact .cons .same (.cons .here .nil)|apply L.pubB 95 10 (es:=((aF x.ks k key).take h).map Str.c);rfl;rfl;exact cU _;decide;exact bH (by assumption);exact lM _;rfl;exact cN _ _;rfl;exact .cons .here (.cons .same .nil)|apply L.pubB 101 10 (es:=((aF x.vs k val).take h).map Str.c);rfl;rfl;exact cU _;decide;exact bH (by assumption);exact lM _;rfl;exact cN _ _;rfl;exact .cons .same (.cons .here .nil)|apply L.pubB 110 3 (es:=((aF ps (p+1) ⟨(aF x.ks k key).drop h,(aF x.vs k val).drop h⟩).set p ⟨(aF x.ks k key).take h,(aF x.vs k val).take h⟩).map Pg.c) (n:=(aF ps (p+1) ⟨(aF x.ks k key).drop h,(aF x.vs k val).drop h⟩).length);rfl;rfl;exact dq _;decide;exact bH (by assumption);simp;rfl;exact cN _ _;rfl;exact .cons .here .nil|apply L.pubB 63 10 (es:=(aF x.ks k key).map Str.c);rfl;rfl;exact cU _;decide;exact bH (by assumption);exact lM _;rfl;exact cN _ _;rfl;exact .cons .here (.cons .same .nil)|apply L.pubB 69 10 (es:=(aF x.vs k val).map Str.c);rfl;rfl;exact cU _;decide;exact bH (by assumption);exact lM _;rfl;exact cN _ _;rfl;exact .cons .same (.cons .here .nil)|(refine LW.is ?_;first|apply jw;rfl;exact jY ps hne hl0;rfl;rfl;rfl|apply ag;rfl;apply jt (i:=p) (e:=Pg.c x);rfl;rfl;exact dq ps;omega;exact gx;rfl|apply mz;rfl;exact mN x hkn hvn h1 h2;rfl;rfl;rfl;rfl|apply ag;rfl;apply az;rfl;rfl;omega;omega;rfl|apply og (es:= [Pg.c ⟨(aF x.ks k key).drop h,(aF x.vs k val).drop h⟩]);rfl;rfl;rfl;rfl;rfl;rfl;rfl;rfl;rfl|apply oe;rfl;exact Dv ps ⟨(aF x.ks k key).drop h,(aF x.vs k val).drop h⟩ (p+1) ((p:Int)+1) C hne C hl;rfl;rfl;rfl;exact aD (dq _) dD (bH hne);exact cN _ _;rfl;rfl;rfl|apply dS (i:=p) (e:=Pg.c ⟨(aF x.ks k key).take h,(aF x.vs k val).take h⟩) (er:=((aF ps (p+1) ⟨(aF x.ks k key).drop h,(aF x.vs k val).drop h⟩).set p ⟨(aF x.ks k key).take h,(aF x.vs k val).take h⟩).map Pg.c);rfl;rfl;rfl;rfl;rfl;rfl;exact dq _;omega;(rw[lM];omega);exact(List.map_set ..).symm)|(refine DR.is ?_;first|apply rz (es:= [[S key]]);rfl;rfl;rfl;rfl;rfl;rfl;rfl;rfl;rfl|apply rz (es:= [[S val]]);rfl;rfl;rfl;rfl;rfl;rfl;rfl;rfl;rfl|apply ru;rfl;exact lN x.ks key k _ rfl hkn hkl h1;rfl;rfl;rfl;exact aD (cU _) dD (bH hkn);exact cN _ _;rfl;rfl;rfl|apply ru;rfl;exact lN x.vs val k _ rfl hvn hvl h2;rfl;rfl;rfl;exact aD (cU _) dD (bH hvn);exact cN _ _;rfl;rfl;rfl|apply bk;rfl;apply jT (es':=((aF x.ks k key).drop h).map Str.c);rfl;rfl;exact cU _;exact q0;exact q1;exact qd1|apply bk;rfl;apply jT (es':=((aF x.vs k val).drop h).map Str.c);rfl;rfl;exact cU _;exact q0;exact q2;exact qd2|apply bk;rfl;apply eA (es':=((aF x.ks k key).take h).map Str.c);rfl;rfl;exact cU _;exact q0;exact q1;exact qt1|apply bk;rfl;apply eA (es':=((aF x.vs k val).take h).map Str.c);rfl;rfl;exact cU _;exact q0;exact q2;exact qt2|apply li;rfl;exact ji ((aF x.ks k key).drop h) n1 (by simp;omega);rfl;rfl;rfl|apply li;rfl;exact ji ((aF x.vs k val).drop h) n2 (by simp;omega);rfl;rfl;rfl|apply li;rfl;exact ji ((aF x.ks k key).take h) n3 (by simp;omega);rfl;rfl;rfl|apply li;rfl;exact ji ((aF x.vs k val).take h) n4 (by simp;omega);rfl;rfl;rfl)|refine am ?_|refine ak ?_ ?_|fail)
       all_goals refine bn ?_
       all_goals rfl
     · have e:iP ps key val=ps.set (be ps key) ⟨aF x.ks (aW x.ks key) key,aF x.vs (aW x.ks key) val⟩:=by simp[iP,hg,hx,hf,hbig]
       rw[e];have hdec:decide ((4:Int)<((((aF x.ks (aW x.ks key) key).map Str.c).length:Nat):Int))=false:=by rw[lM,hKl];simp;omega
       have n0:aF x.ks (aW x.ks key) key≠ []:=fun h=>by rw[h] at hKl;simp at hKl
       have n00:aF x.vs (aW x.ks key) val≠ []:=fun h=>by rw[h] at hVl;simp at hVl
       have hset2:ps.set (be ps key) ⟨aF x.ks (aW x.ks key) key,aF x.vs (aW x.ks key) val⟩≠ []:=fun h=>hne (by simpa using h)
       generalize aW x.ks key=k at*
       generalize be ps key=p at*
       (repeat' first|intro hb hp|apply L.pubB 26 3 (es:=(ps.set p ⟨(aF x.ks k key),(aF x.vs k val)⟩).map Pg.c) (n:=ps.length);rfl;rfl;exact dq _;decide;exact bH (by assumption);simp;rfl;exact cN _ _;rfl;exact .cons .here .nil|apply L.pubB 63 10 (es:=(aF x.ks k key).map Str.c);rfl;rfl;exact cU _;decide;exact bH (by assumption);exact lM _;rfl;exact cN _ _;rfl;exact .cons .here (.cons .same .nil)|apply L.pubB 69 10 (es:=(aF x.vs k val).map Str.c);rfl;rfl;exact cU _;decide;exact bH (by assumption);exact lM _;rfl;exact cN _ _;rfl;exact .cons .same (.cons .here .nil)|(refine LW.is ?_;first|apply jw;rfl;exact jY ps hne hl0;rfl;rfl;rfl|apply ag;rfl;apply jt (i:=p) (e:=Pg.c x);rfl;rfl;exact dq ps;omega;exact gx;rfl|apply mz;rfl;exact mN x hkn hvn h1 h2;rfl;rfl;rfl;rfl|apply ag;rfl;apply az;rfl;rfl;omega;omega;rfl|apply dS (i:=p) (e:=Pg.c ⟨(aF x.ks k key),(aF x.vs k val)⟩) (er:=(ps.set p ⟨(aF x.ks k key),(aF x.vs k val)⟩).map Pg.c);rfl;rfl;rfl;rfl;rfl;rfl;exact dq _;omega;(rw[lM];omega);exact(List.map_set ..).symm)|(refine DR.is ?_;first|apply rz (es:= [[S key]]);rfl;rfl;rfl;rfl;rfl;rfl;rfl;rfl;rfl|apply rz (es:= [[S val]]);rfl;rfl;rfl;rfl;rfl;rfl;rfl;rfl;rfl|apply ru;rfl;exact lN x.ks key k _ rfl hkn hkl h1;rfl;rfl;rfl;exact aD (cU _) dD (bH hkn);exact cN _ _;rfl;rfl;rfl|apply ru;rfl;exact lN x.vs val k _ rfl hvn hvl h2;rfl;rfl;rfl;exact aD (cU _) dD (bH hvn);exact cN _ _;rfl;rfl;rfl)|refine am ?_|refine ak ?_ ?_|fail)
       all_goals refine bn ?_
       all_goals rfl
end Go.Proofs.Y
namespace Go.Proofs.Y
open Go.Abs Go.Proofs.Tryz
attribute [local irreducible] L Code.wp bodyPost Exit.then Exit.inBlock LO
def cx{α:Type}(l:List α)(i:Nat):List α:=l.take i++l.drop (i+1)
def fc{α:Type}{l:List α}{i:Nat}(hi:i<l.length):(cx l i).length=l.length - 1:=by simp[cx];omega
def yB{α β:Type}(f:α→β)(l:List α)(i:Nat):(cx l i).map f=(l.map f).take i++(l.map f).drop (i+1):=by simp[cx,List.map_take,List.map_drop]
def tE(ks:List Str)(n:Nat)(hn:ks.length=n)(i:Nat)(a b:Int)(ha:a=i)(hb:b=i+1)(hi:i<ks.length)(h2:2≤ks.length):
 CallA prog 162 [.bsh 1000 0 n 1,aI a,aI b] [(1000,⟨9,.r (ks.map Str.c).flatten 0⟩)] [(1001,⟨9,.r ((cx ks i).map Str.c).flatten 0⟩),(1000,⟨9,.l []⟩)] [] (.bsh 1001 0 (n - 1) 1):=by
 have:=BV (ks.map Str.c) i a b ha hb (cU ks) (by rw[lM];exact hi) (by rw[lM];exact h2);rw[lM,hn] at this;rw[yB];exact this
def jR(ks:List Str)(n:Nat)(hn:ks.length=n)(i:Nat)(a b:Int)(ha:a=i)(hb:b=i+1)(hi:i<ks.length)(h2:ks.length=1):
 CallA prog 162 [.bsh 1000 0 n 1,aI a,aI b] [(1000,⟨9,.r (ks.map Str.c).flatten 0⟩)] [(1000,⟨9,.l []⟩)] [] (.iv (.sl [])):=by
 have:=BU (ks.map Str.c) i a b ha hb (cU ks) (by rw[lM];exact hi) (by rw[lM];exact h2);rw[lM,hn] at this;exact this
def wj(ps:List Pg)(n:Nat)(hn:ps.length=n)(i:Nat)(a b:Int)(ha:a=i)(hb:b=i+1)(hi:i<ps.length)(h2:2≤ps.length):
 CallA prog 163 [.bsh 1000 0 n 2,aI a,aI b] [(1000,⟨93,.r (ps.map Pg.c).flatten 0⟩)] [(1001,⟨93,.r ((cx ps i).map Pg.c).flatten 0⟩),(1000,⟨93,.l []⟩)] [] (.bsh 1001 0 (n - 1) 2):=by
 have:=BY (ps.map Pg.c) i a b ha hb (dq ps) (by rw[lM];exact hi) (by rw[lM];exact h2);rw[lM,hn] at this;rw[yB];exact this
def BW(ps:List Pg)(n:Nat)(hn:ps.length=n)(i:Nat)(a b:Int)(ha:a=i)(hb:b=i+1)(hi:i<ps.length)(h2:ps.length=1):
 CallA prog 163 [.bsh 1000 0 n 2,aI a,aI b] [(1000,⟨93,.r (ps.map Pg.c).flatten 0⟩)] [(1000,⟨93,.l []⟩)] [] (.iv (.sl [])):=by
 have:=BX (ps.map Pg.c) i a b ha hb (dq ps) (by rw[lM];exact hi) (by rw[lM];exact h2);rw[lM,hn] at this;exact this
def Gb(n:Nat)(a:Int)(ha:a=n)(hn:0<n)(hl:n≤1000):
 CallA prog 223 [.nils,aI a] [] [(1000,⟨9,.r [] (n*1)⟩)] [] (.bsh 1000 0 0 1):=by
 refine iA func223 ntmps223 (fun w0 E0=> ?_);have hb:decide (a<0)=false:=by simp;omega
 have hb4:decide ((0:Int)<a - ((0:Int) - ((([]:List (List IV)).length:Nat):Int)))=true:=by simp;omega
 have hz:((([]:List (List IV)).length:Nat):Int)=0:=rfl;(repeat' first|intro hb hp|(refine LW.is ?_;first|apply ag;rfl;apply nV;rfl|apply ag;rfl;apply yO;rfl;rfl;rfl|apply uO 1000 (m:=n);rfl;rfl;rfl;omega;exact hn;(rw[fC];omega);omega;rfl;rfl|apply ag;rfl;apply ur (n':=0);rfl;rfl;exact Int.le_refl _;omega;rfl|apply ag;rfl;apply qf;rfl;rfl;omega;omega)|refine am ?_|refine ak ?_ ?_|fail)
 all_goals(apply L.ends;rfl;rfl;exact fR;exact Wk.mk' (by intro id h;simp[keys] at h) .nil B1 .nil)
def tH(A B:List Str)(hA:A≠ [])(hB:B≠ [])(h1:A.length≤100)(h2:B.length≤100):
 CallA prog 194 [.iv (.sl [[.sl (A.map Str.c)],[.sl (B.map Str.c)]])] [] [] [] (.iv (.sl ((A++B).map Str.c))):=by
 have hpA:0<A.length:=gU hA;have hAB:A++B≠ []:=fun h=>hA (List.append_eq_nil_iff.1 h).1
 have lA:(A.map Str.c).length=A.length:=lM _;have lB:(B.map Str.c).length=B.length:=lM _;have hb1:decide ((0:Int)+(((A.map Str.c).length:Nat):Int)<0)=false:=by(first|(simp;done)|(simp;omega))
 have hb2:decide ((0:Int)+(((A.map Str.c).length:Nat):Int)+(((B.map Str.c).length:Nat):Int)<0)=false:=by(first|(simp;done)|(simp;omega))
 have kg:=Gb (A.length+B.length) ((0:Int)+(((A.map Str.c).length:Nat):Int)+(((B.map Str.c).length:Nat):Int)) sP C C;refine iA func194 ntmps194 (fun w0 E0=> ?_);(repeat' first|intro hb hp|refine L.unroll 3 ?_|refine MK ?_|(refine LW.is ?_;first|apply FH;rfl;exact kg;rfl;rfl;rfl|apply ag;rfl;apply cd;rfl;rfl;decide;rfl;rfl|apply eY 3000 (es:= []) (n:=0) (news:=A.map Str.c) (er:=A.map Str.c) (nr:=A.length);rfl;rfl;rfl;rfl;exact .inr C;(intro e he;cases he);exact cU A;exact Nat.le_refl _;exact bH hA;(rw[fC];omega);omega;rfl;rfl;(rw[lM];omega)|apply eY 3001 (es:=A.map Str.c) (n:=A.length) (news:=B.map Str.c) (er:=(A++B).map Str.c) (nr:=(A++B).length);rfl;rfl;rfl;rfl;exact .inl (aD (cU A) dD (bH hA));exact cU A;exact cU B;(rw[lM];exact Nat.le_refl _);exact bH hB;(rw[fC];omega);omega;rfl;(rw[tL (by rw[lM];exact Nat.le_refl _),pA]);(rw[gV,lM]))|refine am ?_|refine ak ?_ ?_|fail)
 all_goals(apply L.pubS 3001 2 (es:=(A++B).map Str.c);rfl;rfl;exact cU _;decide;exact bH hAB;exact lM _;rfl;exact .here)
 all_goals refine bn ?_
 all_goals rfl
def mU(ps:List Pg)(p:Nat)(a b:Pg):List Pg:=cx (ps.set p ⟨a.ks++b.ks,a.vs++b.vs⟩) (p+1)
def yg{ps:List Pg}{p:Nat}{a b:Pg}(h:p+1<ps.length):(mU ps p a b).length=ps.length - 1:=by
 rw[mU,fc (by simpa using h)];simp
def Bt(ps:List Pg)(n:Nat)(hn:ps.length=n)(p:Nat)(i:Int)(hi:i=p)(a b:Pg)(ha:ps[p]?=some a)(hb:ps[p+1]?=some b)(hak:a.ks≠ [])(hbk:b.ks≠ [])(hav:a.vs≠ [])(hbv:b.vs≠ [])
 (h1:a.ks.length≤100) (h2:b.ks.length≤100) (h3:a.vs.length≤100) (h4:b.vs.length≤100) (hl:n≤4611686018427387904):
 CallA prog 164 [.ptr 1000 0,aI i] [(1000,⟨51,.l [.bsh 1001 0 n 2]⟩),(1001,⟨93,.r (ps.map Pg.c).flatten 0⟩)]
  [(1000,⟨51,.l [.bsh 1002 0 (n - 1) 2]⟩),(1002,⟨93,.r ((mU ps p a b).map Pg.c).flatten 0⟩),(1001,⟨93,.l []⟩)] [] (.tup []):=by
 have hp:p+1<ps.length:=(gS hb).1;have ga:(ps.map Pg.c)[p]?=some (Pg.c a):=by rw[gP,ha];rfl
 have gb:(ps.map Pg.c)[p+1]?=some (Pg.c b):=by rw[gP,hb];rfl
 have hne:ps≠ []:=fun h=>by rw[h] at hp;simp at hp
 have hsl:(ps.set p ⟨a.ks++b.ks,a.vs++b.vs⟩).length=n:=by rw[List.length_set,hn]
 have h:CallA prog 164 [.ptr 1000 0,aI i] [(1000,⟨51,.l [.bsh 1001 0 n 2]⟩),(1001,⟨93,.r (ps.map Pg.c).flatten 0⟩)]
  [(1000,⟨51,.l [.bsh 49 0 (n - 1) 2]⟩),(49,⟨93,.r ((mU ps p a b).map Pg.c).flatten 0⟩),(1001,⟨93,.l []⟩)] [] (.tup []):=by
  refine iA func164 ntmps164 (fun w0 E0=> ?_);(repeat' first|intro hb hp|(refine LW.is ?_;first|apply uQ;rfl;exact wj (ps.set p ⟨a.ks++b.ks,a.vs++b.vs⟩) n hsl (p+1) (i+1) (i+2) C C C C;rfl;rfl;exact aD (dq _) dD (bH (by simpa using hne));rfl;rfl)|(refine DR.is ?_;first|apply bk;rfl;apply az (off':=p*2);rfl;rfl;omega;omega;omega|apply bk;rfl;apply az (off':=(p+1)*2);rfl;rfl;omega;omega;omega|apply bk;rfl;apply jt (i:=p) (e:=Pg.c a);rfl;rfl;exact dq ps;omega;exact ga;rfl|apply bk;rfl;apply jt (i:=p+1) (e:=Pg.c b);rfl;rfl;exact dq ps;omega;exact gb;rfl|apply ry;rfl;exact tH a.ks b.ks hak hbk h1 h2;rfl;rfl|apply ry;rfl;exact tH a.vs b.vs hav hbv h3 h4;rfl;rfl|apply dV (i:=p) (e:=Pg.c ⟨a.ks++b.ks,a.vs++b.vs⟩) (er:=(ps.set p ⟨a.ks++b.ks,a.vs++b.vs⟩).map Pg.c);rfl;rfl;rfl;rfl;rfl;rfl;exact dq _;omega;(rw[lM];omega);exact(List.map_set ..).symm)|refine am ?_|refine ak ?_ ?_|fail)
  all_goals(apply Fr;rfl;rfl;exact fR;exact Wk.mk' kK .nil B3 .nil)
 exact h.sws [(49,1002)] rfl rfl rfl rfl rfl
def qA(ps:List Pg)(i:Nat):Pg:=ps.getD i ⟨[],[]⟩
def lm{ps:List Pg}{i:Nat}(h:i<ps.length):ps[i]?=some (qA ps i):=by
 rw[qA,List.getD_eq_getElem?_getD,gG h];rfl
def pK{ps:List Pg}{i:Nat}(h:i<ps.length):qA ps i∈ps:=gE (lm h)
def mj(ps:List Pg)(p:Nat)(x:Pg):List Pg:=
 if x.ks.length=0 then cx (ps.set p x) p
 else if 0<p∧(qA ps (p - 1)).ks.length+x.ks.length≤4 then mU (ps.set p x) (p - 1) (qA ps (p - 1)) x
 else if p+1<ps.length∧(qA ps (p+1)).ks.length+x.ks.length≤4 then mU (ps.set p x) p x (qA ps (p+1))
 else ps.set p x
def fx(ps:List Pg)(key:Str):List Pg:=
 if aG ps then
  match ps[be ps key]? with
  |none=>ps
  |some x=>if bN x.ks key then mj ps (be ps key) ⟨cx x.ks (aW x.ks key),cx x.vs (aW x.ks key)⟩ else ps
 else ps
def BO(ps:List Pg)(key:Str)(hl:ps.length*48≤140737488355328):
 CallA prog 118 [.agg [.iv (.sl (ps.map Pg.c))],aS key] [] [] [] (.agg [.iv (.sl ((fx ps key).map Pg.c))]):=by
 have kg:=iC ps C;cases hg:aG ps with
 |false=>
  refine iA func118 ntmps118 (fun w0 E0=> ?_);rw[hg] at kg;have e:fx ps key=ps:=by simp[fx,hg]
  rw[e];refine wz ?_;all_goals refine bn ?_
  all_goals rfl
 |true=>
  rw[hg] at kg;have hs:=dG key hg;have kp:=pt ps key C hs;by_cases hfd:(dm ps key).2.2=false
  · refine iA func118 ntmps118 (fun w0 E0=> ?_);have e:fx ps key=ps:=by
     rw[fx,if_pos hg];cases hx:ps[be ps key]? with
     |none=>rfl
     |some x=>rw[dm,hx] at hfd;simp only at hfd⊢;rw[if_neg (by simp[hfd])]
    rw[e];rw[hfd] at kp;refine wz ?_;all_goals refine bn ?_
    all_goals rfl
  · have hne:ps≠ []:=fun h=>by subst h;exact hfd rfl
    have hp:=zp (key:=key) hne;obtain⟨x,hx⟩: ∃x,ps[be ps key]?=some x:=⟨_,gG hp⟩
    have em:dm ps key=(be ps key,aW x.ks key,bN x.ks key):=by rw[dm,hx]
    rw[em] at kp hfd;dsimp only at kp hfd;have hf:bN x.ks key=true:=by simpa using hfd
    have hmem:=gE hx;have hvl:=hs.vs x hmem;have hk4:=hs.len x hmem;have hkn:=hs.ne x hmem;have hkp:0<x.ks.length:=gU hkn;have hvn:x.vs≠ []:=fun h=>by rw[h] at hvl;simp at hvl;omega
    have h1:x.ks.length≤1000:=C;have h2:x.vs.length≤1000:=C;have hltk:aW x.ks key<x.ks.length:=by
     have hf:=hf;unfold bN at hf;have:x.ks[aW x.ks key]?=some key:=by simpa using hf
     exact(gS this).1
    rw[hf] at kp;have gx:(ps.map Pg.c)[be ps key]?=some (Pg.c x):=by rw[gP,hx];rfl
    have e:fx ps key=mj ps (be ps key) ⟨cx x.ks (aW x.ks key),cx x.vs (aW x.ks key)⟩:=by simp[fx,hg,hx,hf]
    rw[e];have hall: ∀i,i<ps.length→(qA ps i).ks≠ [] ∧(qA ps i).ks.length≤4∧(qA ps i).vs.length=(qA ps i).ks.length:=fun i hi=>⟨hs.ne _ (pK hi),hs.len _ (pK hi),hs.vs _ (pK hi)⟩
    clear e em hfd hs hmem hg;generalize aW x.ks key=k at*
    generalize be ps key=p at*
    have hltv:k<x.vs.length:=C;have lk:=fc hltk;have lv:=fc hltv;generalize hX:(⟨cx x.ks k,cx x.vs k⟩:Pg)=X;have hsl:(ps.set p X).length=ps.length:=List.length_set;have hsne:ps.set p X≠ []:=by simpa using hne
    by_cases hone:x.ks.length=1
    · have hk0:cx x.ks k= []:=List.length_eq_zero_iff.1 C;have hv0:cx x.vs k= []:=List.length_eq_zero_iff.1 C;rw[hk0,hv0] at hX;subst hX;have e0:mj ps p ⟨[],[]⟩=cx (ps.set p ⟨[],[]⟩) p:=if_pos rfl;rw[e0];by_cases hp1:ps.length=1
      · have e:cx (ps.set p ⟨[],[]⟩) p= []:=List.length_eq_zero_iff.1 (by rw[fc C];omega);rw[e];refine iA func118 ntmps118 (fun w0 E0=> ?_);(repeat' first|intro hb hp|(refine LW.is ?_;first|apply jw;rfl;exact jY ps hne hl;rfl;rfl;rfl|apply ag;rfl;apply az (off':=p*2);rfl;rfl;omega;omega;omega|apply ag;rfl;apply jt (i:=p) (e:=Pg.c x);rfl;rfl;exact dq ps;omega;exact gx;rfl|apply mz;rfl;exact mN x hkn hvn h1 h2;rfl;rfl;rfl;rfl|apply dS (i:=p) (e:=Pg.c ⟨[],[]⟩) (er:=(ps.set p ⟨[],[]⟩).map Pg.c);rfl;rfl;rfl;rfl;rfl;rfl;exact dq _;omega;(rw[lM];omega);exact(List.map_set ..).symm|apply AN;rfl;exact BW (ps.set p ⟨[],[]⟩) ps.length hsl p _ _ rfl rfl C C;rfl;rfl;exact aD (dq _) dD (bH hsne);rfl)|(refine DR.is ?_;first|apply rv;rfl;exact jR x.ks _ rfl k _ _ rfl rfl hltk hone;rfl;rfl;exact aD (cU _) dD (bH hkn);rfl|apply rv;rfl;exact jR x.vs _ rfl k _ _ rfl rfl hltv C;rfl;rfl;exact aD (cU _) dD (bH hvn);rfl)|refine am ?_|refine ak ?_ ?_|fail)
        all_goals refine bn ?_
        all_goals rfl
      · refine iA func118 ntmps118 (fun w0 E0=> ?_);have hd2:cx (ps.set p ⟨[],[]⟩) p≠ []:=fun h=>by have:=congrArg List.length h;rw[fc C] at this;simp at this;omega
        (repeat' first|intro hb hp|(refine LW.is ?_;first|apply jw;rfl;exact jY ps hne hl;rfl;rfl;rfl|apply ag;rfl;apply az (off':=p*2);rfl;rfl;omega;omega;omega|apply ag;rfl;apply jt (i:=p) (e:=Pg.c x);rfl;rfl;exact dq ps;omega;exact gx;rfl|apply mz;rfl;exact mN x hkn hvn h1 h2;rfl;rfl;rfl;rfl|apply dS (i:=p) (e:=Pg.c ⟨[],[]⟩) (er:=(ps.set p ⟨[],[]⟩).map Pg.c);rfl;rfl;rfl;rfl;rfl;rfl;exact dq _;omega;(rw[lM];omega);exact(List.map_set ..).symm|apply uQ;rfl;exact wj (ps.set p ⟨[],[]⟩) ps.length hsl p _ _ rfl rfl C C;rfl;rfl;exact aD (dq _) dD (bH hsne);rfl;rfl)|(refine DR.is ?_;first|apply rv;rfl;exact jR x.ks _ rfl k _ _ rfl rfl hltk hone;rfl;rfl;exact aD (cU _) dD (bH hkn);rfl|apply rv;rfl;exact jR x.vs _ rfl k _ _ rfl rfl hltv C;rfl;rfl;exact aD (cU _) dD (bH hvn);rfl)|refine am ?_|refine ak ?_ ?_|fail)
        all_goals(apply L.pubB 62 4 (es:=(cx (ps.set p ⟨[],[]⟩) p).map Pg.c);rfl;rfl;exact dq _;decide;exact bH hd2;(rw[lM,fc C,hsl]);rfl;exact cN _ _;rfl;exact .cons .here .nil)
        all_goals refine bn ?_
        all_goals rfl
    · have hk2:2≤x.ks.length:=C;have hv2:2≤x.vs.length:=C;have n1:cx x.ks k≠ []:=fun h=>by rw[h] at lk;simp at lk;omega
      have n2:cx x.vs k≠ []:=fun h=>by rw[h] at lv;simp at lv;omega
      have lkm:((cx x.ks k).map Str.c).length=x.ks.length - 1:=by rw[lM,lk]
      have lvm:((cx x.vs k).map Str.c).length=x.vs.length - 1:=by rw[lM,lv]
      have hz:((((((cx x.ks k).map Str.c).length:Nat):Int))==0)=false:=by simp;omega
      have g1:0<p→((ps.set p X).map Pg.c)[p - 1]?=some (Pg.c (qA ps (p - 1))):=fun h=>by
       rw[gP,List.getElem?_set,if_neg C,lm C];rfl
      have g2:p+1<ps.length→((ps.set p X).map Pg.c)[p+1]?=some (Pg.c (qA ps (p+1))):=fun h=>by
       rw[gP,List.getElem?_set,if_neg C,lm C];rfl
      have q1:0<p→(ps.set p X)[p - 1]?=some (qA ps (p - 1)):=fun h=>by
       rw[List.getElem?_set,if_neg C,lm C]
      have q2:p+1<ps.length→(ps.set p X)[p+1]?=some (qA ps (p+1)):=fun h=>by
       rw[List.getElem?_set,if_neg C,lm C]
      have q0:(ps.set p X)[p]?=some X:=by rw[List.getElem?_set,if_pos rfl,if_pos hp]
      have q0':0<p→(ps.set p X)[p - 1+1]?=some X:=fun h=>by rw[show p - 1+1=p by omega];exact q0
      have ea:((qA ps (p - 1)).ks.map Str.c).length=(qA ps (p - 1)).ks.length:=lM _;have eb:((qA ps (p+1)).ks.map Str.c).length=(qA ps (p+1)).ks.length:=lM _;have wa:0<p→_:=fun h:0<p=>hall (p - 1) C
      have wb:p+1<ps.length→_:=fun h:p+1<ps.length=>hall (p+1) C
      have wa4:0<p→(qA ps (p - 1)).ks.length≤4:=fun h=>(wa h).2.1
      have wb4:p+1<ps.length→(qA ps (p+1)).ks.length≤4:=fun h=>(wb h).2.1
      have eX:X.ks.length=x.ks.length - 1:=by rw[←hX];exact lk
      have eXv:X.vs.length=x.ks.length - 1:=by rw[←hX];show(cx x.vs k).length=_;omega
      have nXk:X.ks≠ []:=by rw[←hX];exact n1
      have nXv:X.vs≠ []:=by rw[←hX];exact n2
      have cX:Pg.c X= [.sl ((cx x.ks k).map Str.c),.sl ((cx x.vs k).map Str.c)]:=by rw[←hX];rfl
      generalize hr:mj ps p X=r;refine iA func118 ntmps118 (fun w0 E0=> ?_)
      (repeat' first|intro hb hp|apply L.pubB 38 8 (es:=(cx x.ks k).map Str.c);rfl;rfl;exact cU _;decide;exact bH n1;exact lkm;rfl;exact cN _ _;rfl;exact .cons .here (.cons .same .nil)|apply L.pubB 44 8 (es:=(cx x.vs k).map Str.c);rfl;rfl;exact cU _;decide;exact bH n2;exact lvm;rfl;exact cN _ _;rfl;exact .cons .same (.cons .here .nil)|(refine LW.is ?_;first|apply jw;rfl;exact jY ps hne hl;rfl;rfl;rfl|apply ag;rfl;apply az (off':=p*2);rfl;rfl;omega;omega;omega|apply ag;rfl;apply jt (i:=p) (e:=Pg.c x);rfl;rfl;exact dq ps;omega;exact gx;rfl|apply mz;rfl;exact mN x hkn hvn h1 h2;rfl;rfl;rfl;rfl|apply dS (i:=p) (e:=Pg.c X) (er:=(ps.set p X).map Pg.c);rfl;rfl;rfl;rfl;(rw[cX];rfl);rfl;exact dq _;omega;(rw[lM];omega);exact(List.map_set ..).symm|apply EG 3000;rfl;exact Bt (ps.set p X) ps.length hsl (p - 1) ((p:Int) - 1) C (qA ps (p - 1)) X (q1 C) (q0' C) (wa C).1 nXk (fun h=>by have:=(wa C).2.2;rw[h] at this;exact(wa C).1 (List.length_eq_zero_iff.1 this.symm)) nXv (by have:=wa4 C;omega) C (by have:=wa4 C;have:=(wa C).2.2;omega) C C;rfl;rfl;rfl;exact aD (dq _) dD (bH hsne);rfl;rfl;rfl;rfl|apply EG 3000;rfl;exact Bt (ps.set p X) ps.length hsl p _ rfl X (qA ps (p+1)) q0 (q2 C) nXk (wb C).1 nXv (fun h=>by have:=(wb C).2.2;rw[h] at this;exact(wb C).1 (List.length_eq_zero_iff.1 this.symm)) C (by have:=wb4 C;omega) C (by have:=wb4 C;have:=(wb C).2.2;omega) C;rfl;rfl;rfl;exact aD (dq _) dD (bH hsne);rfl;rfl;rfl;rfl)|(refine DR.is ?_;first|apply bk;rfl;apply az (off':=(p - 1)*2);rfl;rfl;omega;omega;omega|apply bk;rfl;apply az (off':=(p+1)*2);rfl;rfl;omega;omega;omega|apply bk;rfl;apply aZ (i:=p - 1) (f:=0) (e:=Pg.c (qA ps (p - 1)));rfl;rfl;exact dq _;omega;exact g1 C;rfl|apply bk;rfl;apply aZ (i:=p+1) (f:=0) (e:=Pg.c (qA ps (p+1)));rfl;rfl;exact dq _;omega;exact g2 C;rfl|apply Ca;rfl;exact tE x.ks _ rfl k _ _ rfl rfl hltk hk2;rfl;rfl;exact aD (cU _) dD (bH hkn);rfl;rfl|apply Ca;rfl;exact tE x.vs _ rfl k _ _ rfl rfl hltv hv2;rfl;rfl;exact aD (cU _) dD (bH hvn);rfl;rfl)|refine am ?_|refine ak ?_ ?_|fail)
      all_goals first
       |(have e:r=mU (ps.set p X) (p - 1) (qA ps (p - 1)) X:=by
          rw[←hr,mj,if_neg C,if_pos ⟨by omega,by omega⟩]
         have hjl:=yg (ps:=ps.set p X) (p:=p - 1) (a:=qA ps (p - 1)) (b:=X) C;subst e;apply L.pubB 3000 4 (es:=(mU (ps.set p X) (p - 1) (qA ps (p - 1)) X).map Pg.c) (n:=ps.length - 1);rfl;rfl;exact dq _;decide;exact bH (fun h=>by rw[h] at hjl;simp at hjl;omega);(rw[lM];omega);rfl;exact cN _ _;rfl;exact .cons .here .nil)
       |(have e:r=mU (ps.set p X) p X (qA ps (p+1)):=by
          rw[←hr,mj,if_neg C,if_neg C,if_pos ⟨by omega,by omega⟩]
         have hjl:=yg (ps:=ps.set p X) (p:=p) (a:=X) (b:=qA ps (p+1)) C;subst e;apply L.pubB 3000 4 (es:=(mU (ps.set p X) p X (qA ps (p+1))).map Pg.c) (n:=ps.length - 1);rfl;rfl;exact dq _;decide;exact bH (fun h=>by rw[h] at hjl;simp at hjl;omega);(rw[lM];omega);rfl;exact cN _ _;rfl;exact .cons .here .nil)
       |(have e:r=ps.set p X:=by
          rw[←hr,mj,if_neg C,if_neg C,if_neg C]
         subst e;apply L.pubB 25 4 (es:=(ps.set p X).map Pg.c) (n:=ps.length);rfl;rfl;exact dq _;decide;exact bH hsne;(rw[lM];omega);rfl;exact cN _ _;rfl;exact .cons .here .nil)
      all_goals refine bn ?_
      all_goals rfl
end Go.Proofs.Y
