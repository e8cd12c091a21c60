/- Lemmas towards the law. Conditions: each one says its own. -/
import Derived.Test.YtnhmohbhgocbjaaGreatDoorZU3
set_option linter.all false
set_option maxHeartbeats 64000000
set_option maxRecDepth 100000
namespace Go.Proofs.Y
open Go.Abs Go.Proofs.Tryz
attribute [local irreducible] L Code.wp bodyPost Exit.then Exit.inBlock
section
variable {es:List (List IV)}{i k:Nat}{v:List IV}
def aD(hk: ∀e∈es,e.length=k)(h0:0<k)(T:es≠ []):es.flatten≠ []:=fun e=>by
 have:=ao es hk;rw[e] at this;have hp:0<es.length:=gU T;have:0<es.length*k:=Nat.mul_pos hp h0;simp at*;omega
def tS(hk: ∀e∈es,e.length=k)(T:v.length=k): ∀e∈es.take i++v::es.drop i,e.length=k:=fun e he=>by
 rcases mA he with h|h
 · exact hk e (mT h)
 · rcases List.mem_cons.1 h with rfl|h
   · exact T
   · exact hk e (mD h)
def tT(hi:i<=es.length):(es.take i++v::es.drop i).length=es.length+1:=by
 simp;omega
def GO(v:List IV):([v].drop 0).take 1= [v]:=rfl
def JX(hi:i<=es.length):(es.take i).take i++(([v].drop 0).take 1++(es.take i).drop (i+1))=es.take i++ [v]:=by
 rw[GO,List.take_take,Nat.min_self,@List.drop_eq_nil_of_le _ (es.take i) _ (by simp;omega)];simp
def JW(hi:i<=es.length):(es.take i++ [v]).take (i+1)++((es.drop i).take (es.length - i)++(es.take i++ [v]).drop (i+1+(es.length - i)))=es.take i++v::es.drop i:=by
 rw[tL (l:=es.take i++ [v]) (by simp;omega),@List.drop_eq_nil_of_le _ (es.take i++ [v]) _ (by simp;omega),tL (l:=es.drop i) sP];simp
def JV(hi:i<=es.length):es.take (i+1)++((es.drop i).take (es.length - i)++es.drop (i+1+(es.length - i)))=es.take (i+1)++es.drop i:=by
 rw[@List.drop_eq_nil_of_le _ es (i+1+(es.length - i)) C,tL (l:=es.drop i) sP];simp
def JU(hi:i<es.length):(es.take (i+1)++es.drop i).take i++(([v].drop 0).take 1++(es.take (i+1)++es.drop i).drop (i+1))=es.take i++v::es.drop i:=by
 have hl:(es.take (i+1)).length=i+1:=by simp;omega
 rw[GO,tA C,List.take_take,Nat.min_eq_left C,List.drop_append_of_le_length C,@List.drop_eq_nil_of_le _ (es.take (i+1)) _ C];simp
def JT:es.take es.length++(([v].drop 0).take 1++es.drop (es.length+1))=es.take es.length++v::es.drop es.length:=by
 rw[GO,@List.drop_eq_nil_of_le _ es (es.length+1) C];simp
def JS:es.take es.length++([v].drop 0).take 1=es.take es.length++v::es.drop es.length:=by simp
def Ba(es:List (List IV))(v:List IV)(i:Nat)(hk: ∀e∈es,e.length=1)(hv:v.length=1)(a3:es≠ [])(hi:i<=es.length)(hm:es.length+1<=maxLen)(hl:(es.length+1)*16<=140737488355328):
 CallA prog 192 [.bsh 1000 0 es.length 1,aI (i:Int),.bsl 1001 0 1 1] [(1000,⟨9,.r es.flatten 0⟩),(1001,⟨9,.r [v].flatten 0⟩)] [(1002,⟨9,.r (es.take i++v::es.drop i).flatten 0⟩),(1000,⟨9,.l []⟩),(1001,⟨9,.l []⟩)] [] (.bsh 1002 0 (es.length+1) 1):=by
 have bh:=ao es hk;have a9:0<es.length:=gU a3;have ad:=aD hk dD a3;have T: ∀e∈ [v],e.length=1:=by simpa using hv
 have bi: [v].flatten.length=1:=by simpa using hv
 have a0:=tS (i:=i) hk hv;have a1:=tT (v:=v) hi;have a2: ∀e∈es.take i,e.length=1:=bv hk;have bl:(es.take i).length=i:=by simp;omega
 have bm:=ao _ a2;have a6: ∀e∈es.take i++ [v],e.length=1:=cF a2 T;have bp:(es.take i++ [v]).length=i+1:=by simp;omega
 have a7: ∀e∈es.take (i+1)++es.drop i,e.length=1:=cF (bv hk) (bN hk);have bP: [v].length=1:=rfl;have a4:i<es.length->(es.take (i+1)++es.drop i).length=es.length+1:=fun h=>by simp;omega
 refine iA func192 ntmps192 (fun w0 E0=> ?_);refine L.openRow 0 U U (.inl ad) C (fun cap bR bS=> ?_);generalize bW:cap*1 - es.flatten.length=mm;have hz:(((1:Nat):Int)==0)=false:=rfl;by_cases a5:i=es.length
 · have hb:(((i:Nat):Int)==((es.length:Nat):Int))=true:=by simp[a5]
   subst a5;by_cases ar:es.length+1<=cap
   · (repeat' first|intro hb hp|(refine LW.is ?_;first|refine ag U (cx U U C C U U U) ?_|refine nT (i':=0) U U U U U (.inl ad) hk T U (Nat.le_refl 1) C ar nR C JT U U ?_)|refine am ?_|refine al ?_ ?_|fail)
     all_goals(apply cu 6 1002 (k:=1) (n:=es.length+1);rfl;rfl;rfl;exact a0;exact a1;omega;omega)
     all_goals refine cT 1001 U (Go.Abs.row_ne (.inl (aD T dD sP))) ?_
     all_goals exact L.ends U U fR wK
   · (repeat' first|intro hb hp|(refine LW.is ?_;first|refine ag U (cx U U C C U U U) ?_|refine qz 1002 (i':=0) U U U U U hk T U Nat.one_pos (Nat.le_refl 1) nR C hm hl U JS U ?_)|refine am ?_|refine al ?_ ?_|fail)
     all_goals refine cT 1000 U (Go.Abs.row_ne (.inl ad)) ?_
     all_goals refine cT 1001 U (Go.Abs.row_ne (.inl (aD T dD sP))) ?_
     all_goals exact L.ends U U fR wK
 · have hb:(((i:Nat):Int)==((es.length:Nat):Int))=false:=by simp;omega
   have aR:i<es.length:=C;have a4:=a4 aR;by_cases ar:es.length+1<=cap
   · have a8:decide ((cap:Int)<(es.length:Int)+((1:Nat):Int))=false:=by simp;omega
     (repeat' first|intro hb hp|(refine LW.is ?_;first|refine ag U (cx U U C C U U U) ?_|refine ag U (fa U U C C U) ?_|refine ag U (lr U U U U U dD C ad) ?_|refine ii (es:=es.take (i+1)++es.drop i) (es':= [v]) (i:=i) (i':=0) (cnt:=1) (er:=es.take i++v::es.drop i) U U U U U a7 T dD C U (by show min _ _=_;omega) dD C C (by simp;omega) (by simp;omega) (JU aR) U ?_)|(refine DR.is ?_;first|refine bg U (cx U U C C U U U) ?_|refine jx (es:=es) (es':=es) (i:=i+1) (i':=i) (cnt:=es.length - i) (er:=es.take (i+1)++es.drop i) U U U U U hk hk dD C C (by show min _ _=_;omega) C C C C C (JV hi) U ?_)|refine am ?_|refine al ?_ ?_|fail)
     all_goals(apply cu 6 1002 (k:=1) (n:=es.length+1);rfl;rfl;rfl;exact a0;exact a1;omega;omega)
     all_goals refine cT 1001 U (Go.Abs.row_ne (.inl (aD T dD sP))) ?_
     all_goals exact L.ends U U fR wK
   · have a8:decide ((cap:Int)<(es.length:Int)+((1:Nat):Int))=true:=by simp;omega
     (repeat' first|intro hb hp|refine L.openRow 9 (id:=2000) (n:=es.length+1) (k:=1) (ty:=9) (xs:=(es.take i).flatten) (m:=(es.length+1 - i)*1) U U (.inr C) C (fun ba b1 b2=> ?_)|(refine LW.is ?_;first|refine ag U (cx U U C C U U U) ?_|refine ag U (fa U U C C U) ?_|refine qy 2000 (n:=i) (m:=es.length+1 - i) (nr:=es.length+1) U U U C U hk C C C C C U U C U ?_|refine ii (es:=es.take i) (es':= [v]) (i:=i) (i':=0) (cnt:=1) (er:=es.take i++ [v]) U U U U U a2 T dD C U (by show min _ _=_;omega) dD C C C C (JX hi) U ?_)|(refine DR.is ?_;first|refine bg U (cx U U C C U U U) ?_|refine jx (es:=es.take i++ [v]) (es':=es) (i:=i+1) (i':=i) (cnt:=es.length - i) (er:=es.take i++v::es.drop i) U U U U U a6 hk dD C C (by show min _ _=_;omega) C C C C C (JW hi) U ?_)|refine am ?_|refine al ?_ ?_|fail)
     all_goals(apply cu 6 1002 (k:=1) (n:=es.length+1);rfl;rfl;rfl;exact a0;exact a1;omega;omega)
     all_goals refine cT 1000 U (Go.Abs.row_ne (.inl ad)) ?_
     all_goals refine cT 1001 U (Go.Abs.row_ne (.inl (aD T dD sP))) ?_
     all_goals exact L.ends U U fR wK
def Bb(es:List (List IV))(v:List IV)(i:Nat)(hk: ∀e∈es,e.length=2)(hv:v.length=2)(a3:es≠ [])(hi:i<=es.length)(hm:es.length+1<=maxLen)(hl:(es.length+1)*48<=140737488355328):
 CallA prog 193 [.bsh 1000 0 es.length 2,aI (i:Int),.bsl 1001 0 1 1] [(1000,⟨93,.r es.flatten 0⟩),(1001,⟨93,.r [v].flatten 0⟩)] [(1002,⟨93,.r (es.take i++v::es.drop i).flatten 0⟩),(1000,⟨93,.l []⟩),(1001,⟨93,.l []⟩)] [] (.bsh 1002 0 (es.length+1) 2):=by
 have bh:=ao es hk;have a9:0<es.length:=gU a3;have ad:=aD hk dD a3;have T: ∀e∈ [v],e.length=2:=by simpa using hv
 have bi: [v].flatten.length=2:=by simpa using hv
 have a0:=tS (i:=i) hk hv;have a1:=tT (v:=v) hi;have a2: ∀e∈es.take i,e.length=2:=bv hk;have bl:(es.take i).length=i:=by simp;omega
 have bm:=ao _ a2;have a6: ∀e∈es.take i++ [v],e.length=2:=cF a2 T;have bp:(es.take i++ [v]).length=i+1:=by simp;omega
 have a7: ∀e∈es.take (i+1)++es.drop i,e.length=2:=cF (bv hk) (bN hk);have bP: [v].length=1:=rfl;have a4:i<es.length->(es.take (i+1)++es.drop i).length=es.length+1:=fun h=>by simp;omega
 refine iA func193 ntmps193 (fun w0 E0=> ?_);refine L.openRow 0 U U (.inl ad) C (fun cap bR bS=> ?_);generalize bW:cap*2 - es.flatten.length=mm;have hz:(((1:Nat):Int)==0)=false:=rfl;by_cases a5:i=es.length
 · have hb:(((i:Nat):Int)==((es.length:Nat):Int))=true:=by simp[a5]
   subst a5;by_cases ar:es.length+1<=cap
   · (repeat' first|intro hb hp|(refine LW.is ?_;first|refine ag U (cx U U C C U U U) ?_|refine nT (i':=0) U U U U U (.inl ad) hk T U (Nat.le_refl 1) C ar nR C JT U U ?_)|refine am ?_|refine al ?_ ?_|fail)
     all_goals(apply cu 6 1002 (k:=2) (n:=es.length+1);rfl;rfl;rfl;exact a0;exact a1;omega;omega)
     all_goals refine cT 1001 U (Go.Abs.row_ne (.inl (aD T dD sP))) ?_
     all_goals exact L.ends U U fR wK
   · (repeat' first|intro hb hp|(refine LW.is ?_;first|refine ag U (cx U U C C U U U) ?_|refine qz 1002 (i':=0) U U U U U hk T U Nat.one_pos (Nat.le_refl 1) nR C hm hl U JS U ?_)|refine am ?_|refine al ?_ ?_|fail)
     all_goals refine cT 1000 U (Go.Abs.row_ne (.inl ad)) ?_
     all_goals refine cT 1001 U (Go.Abs.row_ne (.inl (aD T dD sP))) ?_
     all_goals exact L.ends U U fR wK
 · have hb:(((i:Nat):Int)==((es.length:Nat):Int))=false:=by simp;omega
   have aR:i<es.length:=C;have a4:=a4 aR;by_cases ar:es.length+1<=cap
   · have a8:decide ((cap:Int)<(es.length:Int)+((1:Nat):Int))=false:=by simp;omega
     (repeat' first|intro hb hp|(refine LW.is ?_;first|refine ag U (cx U U C C U U U) ?_|refine ag U (fa U U C C U) ?_|refine ag U (lr U U U U U dD C ad) ?_|refine ii (es:=es.take (i+1)++es.drop i) (es':= [v]) (i:=i) (i':=0) (cnt:=1) (er:=es.take i++v::es.drop i) U U U U U a7 T dD C U (by show min _ _=_;omega) dD C C (by simp;omega) (by simp;omega) (JU aR) U ?_)|(refine DR.is ?_;first|refine bg U (cx U U C C U U U) ?_|refine jx (es:=es) (es':=es) (i:=i+1) (i':=i) (cnt:=es.length - i) (er:=es.take (i+1)++es.drop i) U U U U U hk hk dD C C (by show min _ _=_;omega) C C C C C (JV hi) U ?_)|refine am ?_|refine al ?_ ?_|fail)
     all_goals(apply cu 6 1002 (k:=2) (n:=es.length+1);rfl;rfl;rfl;exact a0;exact a1;omega;omega)
     all_goals refine cT 1001 U (Go.Abs.row_ne (.inl (aD T dD sP))) ?_
     all_goals exact L.ends U U fR wK
   · have a8:decide ((cap:Int)<(es.length:Int)+((1:Nat):Int))=true:=by simp;omega
     (repeat' first|intro hb hp|refine L.openRow 9 (id:=2000) (n:=es.length+1) (k:=2) (ty:=93) (xs:=(es.take i).flatten) (m:=(es.length+1 - i)*2) U U (.inr C) C (fun ba b1 b2=> ?_)|(refine LW.is ?_;first|refine ag U (cx U U C C U U U) ?_|refine ag U (fa U U C C U) ?_|refine qy 2000 (n:=i) (m:=es.length+1 - i) (nr:=es.length+1) U U U C U hk C C C C C U U C U ?_|refine ii (es:=es.take i) (es':= [v]) (i:=i) (i':=0) (cnt:=1) (er:=es.take i++ [v]) U U U U U a2 T dD C U (by show min _ _=_;omega) dD C C C C (JX hi) U ?_)|(refine DR.is ?_;first|refine bg U (cx U U C C U U U) ?_|refine jx (es:=es.take i++ [v]) (es':=es) (i:=i+1) (i':=i) (cnt:=es.length - i) (er:=es.take i++v::es.drop i) U U U U U a6 hk dD C C (by show min _ _=_;omega) C C C C C (JW hi) U ?_)|refine am ?_|refine al ?_ ?_|fail)
     all_goals(apply cu 6 1002 (k:=2) (n:=es.length+1);rfl;rfl;rfl;exact a0;exact a1;omega;omega)
     all_goals refine cT 1000 U (Go.Abs.row_ne (.inl ad)) ?_
     all_goals refine cT 1001 U (Go.Abs.row_ne (.inl (aD T dD sP))) ?_
     all_goals exact L.ends U U fR wK
end
def Kt{es:List (List IV)}{i:Nat}(hi:i<es.length):es.take i++((es.drop (i+1)).take (es.length - (i+1))++es.drop (i+(es.length - (i+1))))=(es.take i++es.drop (i+1))++es.drop (es.length - 1):=by
 rw[tL (l:=es.drop (i+1)) sP,show i+(es.length - (i+1))=es.length - 1 by omega];simp
def MJ{es:List (List IV)}{i:Nat}(hi:i<es.length):((es.take i++es.drop (i+1))++es.drop (es.length - 1)).take (es.length - 1)=es.take i++es.drop (i+1):=by
 have:(es.take i++es.drop (i+1)).length=es.length - 1:=by simp;omega
 rw[tA C,tL C]
def Bx(es:List (List IV))(i:Nat)(a b:Int)(ha:a=i)(hb:b=i+1)(hk: ∀e∈es,e.length=1)(hi:i<es.length)(h2:2<=es.length):
 CallA prog 162 [.bsh 1000 0 es.length 1,aI a,aI b] [(1000,⟨9,.r es.flatten 0⟩)] [(1001,⟨9,.r (es.take i++es.drop (i+1)).flatten 0⟩),(1000,⟨9,.l []⟩)] [] (.bsh 1001 0 (es.length - 1) 1):=by
 have a1:=ao es hk;have T:=aD hk dD (fun e=>by rw[e] at h2;simp at h2);have ad: ∀e∈es.take i++es.drop (i+1),e.length=1:=cF (bv hk) (bN hk);have aR:(es.take i++es.drop (i+1)).length=es.length - 1:=by simp;omega
 have ar: ∀e∈(es.take i++es.drop (i+1))++es.drop (es.length - 1),e.length=1:=cF ad (bN hk);have a0:((es.take i++es.drop (i+1))++es.drop (es.length - 1)).length=es.length:=by simp;omega
 refine iA func162 ntmps162 (fun w0 E0=> ?_);refine L.openRow 0 U U (.inl T) C (fun cap a2 a3=> ?_);generalize a4:cap*1 - es.flatten.length=mm;have he:(a==b)=false:=by simp;omega
 (repeat' first|intro hb hp|(refine LW.is ?_;first|refine ag U (yr U U U U C C C C) ?_|refine ag U (tG U U U C C C U U U) ?_|refine gf (j:=es.length - 1) U U ar C C C C (MJ hi) U ?_)|(refine DR.is ?_;first|refine bg U (cx (n':=es.length - (i+1)) U U C C U C U) ?_|refine bg U (fa (n':=i) U U C C C) ?_|refine rb (n:=i) (i':=i+1) (n':=es.length - (i+1)) (nr:=es.length - 1) U U U U U (.inl T) hk hk C C C C C C (Kt hi) U C ?_)|refine am ?_|refine al ?_ ?_|fail)
 all_goals(apply cu 6 1001 (k:=1) (n:=es.length - 1);rfl;rfl;rfl;exact ad;exact aR;omega;omega)
 all_goals exact L.ends U U fR wK
def Bw(es:List (List IV))(i:Nat)(a b:Int)(ha:a=i)(hb:b=i+1)(hk: ∀e∈es,e.length=1)(hi:i<es.length)(h2:es.length=1):
 CallA prog 162 [.bsh 1000 0 es.length 1,aI a,aI b] [(1000,⟨9,.r es.flatten 0⟩)] [(1000,⟨9,.l []⟩)] [] (.iv (.sl [])):=by
 have aR:=ao es hk;have T:=aD hk dD (fun e=>by rw[e] at h2;simp at h2);have ad: ∀e∈(es.take i++es.drop (i+1))++es.drop (es.length - 1),e.length=1:=cF (cF (bv hk) (bN hk)) (bN hk);have ar:((es.take i++es.drop (i+1))++es.drop (es.length - 1)).length=es.length:=by simp;omega
 refine iA func162 ntmps162 (fun w0 E0=> ?_);refine L.openRow 0 U U (.inl T) C (fun cap a0 a1=> ?_);generalize a2:cap*1 - es.flatten.length=mm;have he:(a==b)=false:=by simp;omega
 (repeat' first|intro hb hp|(refine LW.is ?_;first|refine ag U (yr U U U U C C C C) ?_|refine ag U (tG (off':=0) (n':=1) U U U C C C U C U) ?_|refine gf (j:=0) (er:= []) (mr:=(es.length*1+mm) - 0) U U ad C C C C U C ?_)|(refine DR.is ?_;first|refine bg U (cx (n':=es.length - (i+1)) U U C C U C U) ?_|refine bg U (fa (n':=i) U U C C C) ?_|refine rb (n:=i) (i':=i+1) (n':=es.length - (i+1)) (nr:=0) U U U U U (.inl T) hk hk C C C C C C (Kt hi) U C ?_)|refine am ?_|refine al ?_ ?_|fail)
 all_goals refine cT 1000 U (Go.Abs.row_ne (.inr C)) ?_
 all_goals exact L.ends U U (Sub.bsl0 _ _ _) wK
def BA(es:List (List IV))(i:Nat)(a b:Int)(ha:a=i)(hb:b=i+1)(hk: ∀e∈es,e.length=2)(hi:i<es.length)(h2:2<=es.length):
 CallA prog 163 [.bsh 1000 0 es.length 2,aI a,aI b] [(1000,⟨93,.r es.flatten 0⟩)] [(1001,⟨93,.r (es.take i++es.drop (i+1)).flatten 0⟩),(1000,⟨93,.l []⟩)] [] (.bsh 1001 0 (es.length - 1) 2):=by
 have a1:=ao es hk;have T:=aD hk dD (fun e=>by rw[e] at h2;simp at h2);have ad: ∀e∈es.take i++es.drop (i+1),e.length=2:=cF (bv hk) (bN hk);have aR:(es.take i++es.drop (i+1)).length=es.length - 1:=by simp;omega
 have ar: ∀e∈(es.take i++es.drop (i+1))++es.drop (es.length - 1),e.length=2:=cF ad (bN hk);have a0:((es.take i++es.drop (i+1))++es.drop (es.length - 1)).length=es.length:=by simp;omega
 refine iA func163 ntmps163 (fun w0 E0=> ?_);refine L.openRow 0 U U (.inl T) C (fun cap a2 a3=> ?_);generalize a4:cap*2 - es.flatten.length=mm;have he:(a==b)=false:=by simp;omega
 (repeat' first|intro hb hp|(refine LW.is ?_;first|refine ag U (yr U U U U C C C C) ?_|refine ag U (tG U U U C C C U U U) ?_|refine gf (j:=es.length - 1) U U ar C C C C (MJ hi) U ?_)|(refine DR.is ?_;first|refine bg U (cx (n':=es.length - (i+1)) U U C C U C U) ?_|refine bg U (fa (n':=i) U U C C C) ?_|refine rb (n:=i) (i':=i+1) (n':=es.length - (i+1)) (nr:=es.length - 1) U U U U U (.inl T) hk hk C C C C C C (Kt hi) U C ?_)|refine am ?_|refine al ?_ ?_|fail)
 all_goals(apply cu 6 1001 (k:=2) (n:=es.length - 1);rfl;rfl;rfl;exact ad;exact aR;omega;omega)
 all_goals exact L.ends U U fR wK
def Bz(es:List (List IV))(i:Nat)(a b:Int)(ha:a=i)(hb:b=i+1)(hk: ∀e∈es,e.length=2)(hi:i<es.length)(h2:es.length=1):
 CallA prog 163 [.bsh 1000 0 es.length 2,aI a,aI b] [(1000,⟨93,.r es.flatten 0⟩)] [(1000,⟨93,.l []⟩)] [] (.iv (.sl [])):=by
 have aR:=ao es hk;have T:=aD hk dD (fun e=>by rw[e] at h2;simp at h2);have ad: ∀e∈(es.take i++es.drop (i+1))++es.drop (es.length - 1),e.length=2:=cF (cF (bv hk) (bN hk)) (bN hk);have ar:((es.take i++es.drop (i+1))++es.drop (es.length - 1)).length=es.length:=by simp;omega
 refine iA func163 ntmps163 (fun w0 E0=> ?_);refine L.openRow 0 U U (.inl T) C (fun cap a0 a1=> ?_);generalize a2:cap*2 - es.flatten.length=mm;have he:(a==b)=false:=by simp;omega
 (repeat' first|intro hb hp|(refine LW.is ?_;first|refine ag U (yr U U U U C C C C) ?_|refine ag U (tG (off':=0) (n':=1) U U U C C C U C U) ?_|refine gf (j:=0) (er:= []) (mr:=(es.length*2+mm) - 0) U U ad C C C C U C ?_)|(refine DR.is ?_;first|refine bg U (cx (n':=es.length - (i+1)) U U C C U C U) ?_|refine bg U (fa (n':=i) U U C C C) ?_|refine rb (n:=i) (i':=i+1) (n':=es.length - (i+1)) (nr:=0) U U U U U (.inl T) hk hk C C C C C C (Kt hi) U C ?_)|refine am ?_|refine al ?_ ?_|fail)
 all_goals refine cT 1000 U (Go.Abs.row_ne (.inr C)) ?_
 all_goals exact L.ends U U (Sub.bsl0 _ _ _) wK
def aF{α:Type}(l:List α)(i:Nat)(a:α):List α:=l.take i++a::l.drop i
def gX{α:Type}{l:List α}{i:Nat}{a:α}(hi:i<=l.length):(aF l i a).length=l.length+1:=by simp[aF];omega
def xK{α β:Type}(f:α->β)(l:List α)(i:Nat)(a:α):(aF l i a).map f=(l.map f).take i++f a::(l.map f).drop i:=by simp[aF,List.map_take,List.map_drop]
def cU(ks:List Str): ∀e∈ks.map Str.c,e.length=1:=fun e he=>by
 obtain⟨s,_,rfl⟩:=mM he;rfl
def dp(ps:List Pg): ∀e∈ps.map Pg.c,e.length=2:=fun e he=>by
 obtain⟨s,_,rfl⟩:=mM he;rfl
def bG{α β:Type}{f:α->β}{l:List α}(h:l≠ []):l.map f≠ []:=by simpa using h
def fJ:maxLen=9223372036854775807:=rfl
def jh(ks:List Str)(T:ks≠ [])(hl:ks.length<=1000):
 CallA prog 51 [.iv (.sl (ks.map Str.c))] [] [(1000,⟨9,.r (ks.map Str.c).flatten 0⟩)] [] (.bsh 1000 0 ks.length 1):=by
 have:=Dp (ks.map Str.c) (cU ks) (bG T) (by rw[lM,fJ];omega) (by rw[lM];omega);rw[lM] at this;exact this
def jV(ps:List Pg)(T:ps≠ [])(hl:ps.length*48<=140737488355328):
 CallA prog 160 [.iv (.sl (ps.map Pg.c))] [] [(1000,⟨93,.r (ps.map Pg.c).flatten 0⟩)] [] (.bsh 1000 0 ps.length 2):=by
 have:=Ds (ps.map Pg.c) (dp ps) (bG T) (by rw[lM,fJ];omega) (by rw[lM];omega);rw[lM] at this;exact this
def lI(ks:List Str)(key:Str)(i:Nat)(a:Int)(ha:a=i)(T:ks≠ [])(hi:i<=ks.length)(hl:ks.length<=1000):
 CallA prog 192 [.bsh 1000 0 ks.length 1,aI a,.bsl 1001 0 1 1] [(1000,⟨9,.r (ks.map Str.c).flatten 0⟩),(1001,⟨9,.r [[S key]].flatten 0⟩)] [(1002,⟨9,.r ((aF ks i key).map Str.c).flatten 0⟩),(1000,⟨9,.l []⟩),(1001,⟨9,.l []⟩)] [] (.bsh 1002 0 (aF ks i key).length 1):=by
 have:=Ba (ks.map Str.c) [S key] i (cU ks) U (bG T) (by rw[lM];exact hi) (by rw[lM,fJ];omega) (by rw[lM];omega);rw[lM,<-gX hi (a:=key)] at this;rw[xK,ha];exact this
def CW(ps:List Pg)(y:Pg)(i:Nat)(a:Int)(ha:a=i)(T:ps≠ [])(hi:i<=ps.length)(hl:(ps.length+1)*48<=140737488355328):
 CallA prog 193 [.bsh 1000 0 ps.length 2,aI a,.bsl 1001 0 1 1] [(1000,⟨93,.r (ps.map Pg.c).flatten 0⟩),(1001,⟨93,.r [Pg.c y].flatten 0⟩)] [(1002,⟨93,.r ((aF ps i y).map Pg.c).flatten 0⟩),(1000,⟨93,.l []⟩),(1001,⟨93,.l []⟩)] [] (.bsh 1002 0 (aF ps i y).length 2):=by
 have:=Bb (ps.map Pg.c) (Pg.c y) i (dp ps) U (bG T) (by rw[lM];exact hi) (by rw[lM,fJ];omega) (by rw[lM];exact hl);rw[lM,<-gX hi (a:=y)] at this;rw[xK,ha];exact this
def mI(p:Pg)(hk:p.ks≠ [])(T:p.vs≠ [])(h1:p.ks.length<=1000)(h2:p.vs.length<=1000):
 CallA prog 161 [.agg [.iv (.sl (p.ks.map Str.c)),.iv (.sl (p.vs.map Str.c))]] [] [(1000,⟨9,.r (p.ks.map Str.c).flatten 0⟩),(1001,⟨9,.r (p.vs.map Str.c).flatten 0⟩)] [] (.agg [.bsh 1000 0 p.ks.length 1,.bsh 1001 0 p.vs.length 1]):=by
 have h:CallA prog 161 [.agg [.iv (.sl (p.ks.map Str.c)),.iv (.sl (p.vs.map Str.c))]] [] [(5,⟨9,.r (p.ks.map Str.c).flatten 0⟩),(8,⟨9,.r (p.vs.map Str.c).flatten 0⟩)] [] (.agg [.bsh 5 0 p.ks.length 1,.bsh 8 0 p.vs.length 1]):=by
  refine iA func161 ntmps161 (fun w0 E0=> ?_);(repeat' first|intro hb hp|(refine DR.is ?_;first|refine ld U (jh p.ks hk h1) U U U ?_|refine ld U (jh p.vs T h2) U U U ?_)|refine am ?_|refine al ?_ ?_|fail)
  all_goals exact L.ends U U fR (Wk.mk' (by intro id h;simp[keys] at h) .nil B2 .nil)
 exact h.sws [(5,1000),(8,1001)] U U U U U
def iO(ps:List Pg)(key val:Str):List Pg:=
 if aG ps then
  match ps[be ps key]? with
  |none=> [⟨[key],[val]⟩]
  |some x=>
   if bM x.ks key then ps.set (be ps key) ⟨x.ks,x.vs.set (aX x.ks key) val⟩
   else if 4<x.ks.length+1 then
    (aF ps (be ps key+1) ⟨(aF x.ks (aX x.ks key) key).drop ((x.ks.length+1) / 2),(aF x.vs (aX x.ks key) val).drop ((x.ks.length+1) / 2)⟩).set (be ps key)
      ⟨(aF x.ks (aX x.ks key) key).take ((x.ks.length+1) / 2),(aF x.vs (aX x.ks key) val).take ((x.ks.length+1) / 2)⟩
   else ps.set (be ps key) ⟨aF x.ks (aX x.ks key) key,aF x.vs (aX x.ks key) val⟩
 else ps
def yP{ps:List Pg}{key:Str}(h:ps≠ []):be ps key<ps.length:=by
 have:=jc (kW key) ps;have T:0<ps.length:=gU h;unfold be;omega
def El(ps:List Pg)(key val:Str)(hl:(ps.length+1)*48<=140737488355328):
 CallA prog 159 [.agg [.iv (.sl (ps.map Pg.c))],aS key,aS val] [] [] [] (.agg [.iv (.sl ((iO ps key val).map Pg.c))]):=by
 have kg:=iC ps C;refine iA func159 ntmps159 (fun w0 E0=> ?_);cases hg:aG ps with
 |false=>
  rw[hg] at kg;have e:iO ps key val=ps:=by simp[iO,hg]
  rw[e];refine wz ?_;all_goals refine aU ?_
  all_goals rfl
 |true=>
  rw[hg] at kg;have hs:=dE key hg;have kp:=pi ps key C hs;by_cases ad:ps= []
  · subst ad;have e:iO [] key val= [⟨[key],[val]⟩]:=by simp[iO,aG,pI]
    have em:dl [] key=(0,0,false):=rfl;rw[e];rw[em] at kp;dsimp only at kp;(repeat' first|intro hb hp|(refine LW.is ?_;first|apply gp;rfl;exact Dq;rfl;rfl)|refine am ?_|refine al ?_ ?_|fail)
    all_goals refine aU ?_
    all_goals rfl
  · have hp:=yP (key:=key) ad;obtain⟨x,hx⟩: ∃x,ps[be ps key]?=some x:=⟨_,gG hp⟩
    have em:dl ps key=(be ps key,aX x.ks key,bM x.ks key):=by rw[dl,hx]
    rw[em] at kp;dsimp only at kp;have a2:=gE hx;have ar:=hs.vs x a2;have bS:=hs.len x a2;have aR:=hs.ne x a2;have bW:0<x.ks.length:=gU aR;have a0:x.vs≠ []:=fun h=>by rw[h] at ar;simp at ar;omega
    have h1:x.ks.length<=1000:=C;have h2:x.vs.length<=1000:=C;have a4:ps.length*48<=140737488355328:=C;have hz:(((ps.length:Nat):Int)==0)=false:=by simp;omega
    have a9:aX x.ks key<=x.ks.length:=jc _ _;have a7:=ar;have gx:(ps.map Pg.c)[be ps key]?=some (Pg.c x):=by rw[gP,hx];rfl
    cases hf:bM x.ks key with
    |true=>
     rw[hf] at kp;have b1:aX x.ks key<x.vs.length:=by
      rw[ar];unfold bM at hf;have:x.ks[aX x.ks key]?=some key:=by simpa using hf
      exact(gS this).1
     have e:iO ps key val=ps.set (be ps key) ⟨x.ks,x.vs.set (aX x.ks key) val⟩:=by simp[iO,hg,hx,hf]
     rw[e];generalize aX x.ks key=k at*
     generalize be ps key=p at*
     have bP:x.vs.set k val≠ []:=fun h=>a0 (by simpa using h)
     have a5:ps.set p ⟨x.ks,x.vs.set k val⟩≠ []:=fun h=>ad (by simpa using h)
     (repeat' first|intro hb hp|apply L.pubB 45 10 (es:=x.ks.map Str.c);rfl;rfl;exact cU _;decide;exact bG (by assumption);exact lM _;rfl;exact cN _ _;rfl;exact .cons .here (.cons .same .nil)|apply L.pubB 2045 10 (es:=(x.vs.set k val).map Str.c) (n:=x.vs.length);rfl;rfl;exact cU _;decide;exact bG (by assumption);simp;rfl;exact cN _ _;rfl;exact .cons .same (.cons .here .nil)|apply L.pubB 26 3 (es:=(ps.set p ⟨x.ks,x.vs.set k val⟩).map Pg.c) (n:=ps.length);rfl;rfl;exact dp _;decide;exact bG (by assumption);simp;rfl;exact cN _ _;rfl;exact .cons .here .nil|(refine LW.is ?_;first|apply ju;rfl;exact jV ps ad a4;rfl;rfl;rfl|apply ag;rfl;apply js (i:=p) (e:=Pg.c x);rfl;rfl;exact dp ps;omega;exact gx;rfl|apply mv;rfl;exact mI x aR a0 h1 h2;rfl;rfl;rfl;rfl|apply ag;rfl;apply ay;rfl;rfl;omega;omega;rfl|apply dR (i:=k) (e:= [S val]) (er:=(x.vs.set k val).map Str.c);rfl;rfl;rfl;rfl;rfl;rfl;exact cU _;omega;(rw[lM];omega);exact(List.map_set ..).symm|apply dR (i:=p) (e:=Pg.c ⟨x.ks,x.vs.set k val⟩) (er:=(ps.set p ⟨x.ks,x.vs.set k val⟩).map Pg.c);rfl;rfl;rfl;rfl;rfl;rfl;exact dp _;omega;(rw[lM];omega);exact(List.map_set ..).symm)|refine am ?_|refine al ?_ ?_|fail)
     all_goals refine aU ?_
     all_goals rfl
    |false=>
     rw[hf] at kp;have a6:aX x.ks key<=x.ks.length:=a9;have ar:aX x.ks key<=x.vs.length:=C;have T:(aF x.ks (aX x.ks key) key).length=x.ks.length+1:=gX a6;have a1:(aF x.vs (aX x.ks key) val).length=x.ks.length+1:=by rw[gX ar,a7]
     by_cases a3:4<x.ks.length+1
     · have e:iO ps key val=(aF ps (be ps key+1) ⟨(aF x.ks (aX x.ks key) key).drop ((x.ks.length+1) / 2),(aF x.vs (aX x.ks key) val).drop ((x.ks.length+1) / 2)⟩).set (be ps key)
        ⟨(aF x.ks (aX x.ks key) key).take ((x.ks.length+1) / 2),(aF x.vs (aX x.ks key) val).take ((x.ks.length+1) / 2)⟩:=by simp[iO,hg,hx,hf,a3]
       rw[e];generalize hK:aF x.ks (aX x.ks key) key=K at T|-;generalize hV:aF x.vs (aX x.ks key) val=V at a1|-;have a8:decide ((4:Int)<(((K.map Str.c).length:Nat):Int))=true:=by rw[lM,T];simp;omega
       generalize hh:(x.ks.length+1) / 2=h;have hq:((((K.map Str.c).length:Nat):Int)).tdiv 2=(h:Int):=by rw[lM,T,Int.tdiv_eq_ediv_of_nonneg C];omega
       have b2:(K.map Str.c).length=x.ks.length+1:=by rw[lM,T]
       have q0:0<=((((K.map Str.c).length:Nat):Int)).tdiv 2:=by rw[hq];omega
       have q1:((((K.map Str.c).length:Nat):Int)).tdiv 2<=(((K.map Str.c).length:Nat):Int):=by rw[hq,lM,T];omega
       have q2:((((K.map Str.c).length:Nat):Int)).tdiv 2<=(((V.map Str.c).length:Nat):Int):=by rw[hq,lM,a1];omega
       have ba:(K.map Str.c).drop (((((K.map Str.c).length:Nat):Int)).tdiv 2).toNat=(K.drop h).map Str.c:=by rw[hq,iN,List.map_drop]
       have bh:(V.map Str.c).drop (((((K.map Str.c).length:Nat):Int)).tdiv 2).toNat=(V.drop h).map Str.c:=by rw[hq,iN,List.map_drop]
       have bi:(K.map Str.c).take (((((K.map Str.c).length:Nat):Int)).tdiv 2).toNat=(K.take h).map Str.c:=by rw[hq,iN,List.map_take]
       have bl:(V.map Str.c).take (((((K.map Str.c).length:Nat):Int)).tdiv 2).toNat=(V.take h).map Str.c:=by rw[hq,iN,List.map_take]
       have n0:K≠ []:=fun h=>by rw[h] at T;simp at T
       have bm:V≠ []:=fun h=>by rw[h] at a1;simp at a1
       have n1:K.drop h≠ []:=fun e=>by have:=congrArg List.length e;rw[lD] at this;simp only[List.length_nil] at this;omega
       have n2:V.drop h≠ []:=fun e=>by have:=congrArg List.length e;rw[lD] at this;simp only[List.length_nil] at this;omega
       have n3:K.take h≠ []:=fun e=>by have:=congrArg List.length e;rw[lT] at this;simp only[List.length_nil] at this;omega
       have n4:V.take h≠ []:=fun e=>by have:=congrArg List.length e;rw[lT] at this;simp only[List.length_nil] at this;omega
       generalize hY:(⟨K.drop h,V.drop h⟩:Pg)=Y;generalize hX:(⟨K.take h,V.take h⟩:Pg)=X;have bp:(aF ps (be ps key+1) Y).length=ps.length+1:=gX hp;have bR:(aF ps (be ps key+1) Y).set (be ps key) X≠ []:=fun h=>by have:=congrArg List.length h;simp[bp] at this
       subst hK;subst hV;generalize aX x.ks key=k at*
       generalize be ps key=p at*
       subst hY;subst hX
       (repeat' first|intro hb hp|apply L.pubB 82 12 (es:=((aF x.ks k key).drop h).map Str.c);rfl;rfl;exact cU _;decide;exact bG (by assumption);exact lM _;rfl;exact cN _ _;rfl;exact .cons .here (.cons .same .nil)|apply L.pubB 88 12 (es:=((aF x.vs k val).drop h).map Str.c);rfl;rfl;exact cU _;decide;exact bG (by assumption);exact lM _;rfl;exact cN _ _;rfl;exact .cons .same (.cons .here .nil)|apply L.pubB 95 10 (es:=((aF x.ks k key).take h).map Str.c);rfl;rfl;exact cU _;decide;exact bG (by assumption);exact lM _;rfl;exact cN _ _;rfl;exact .cons .here (.cons .same .nil)|apply L.pubB 101 10 (es:=((aF x.vs k val).take h).map Str.c);rfl;rfl;exact cU _;decide;exact bG (by assumption);exact lM _;rfl;exact cN _ _;rfl;exact .cons .same (.cons .here .nil)|apply L.pubB 110 3 (es:=((aF ps (p+1) ⟨(aF x.ks k key).drop h,(aF x.vs k val).drop h⟩).set p ⟨(aF x.ks k key).take h,(aF x.vs k val).take h⟩).map Pg.c) (n:=(aF ps (p+1) ⟨(aF x.ks k key).drop h,(aF x.vs k val).drop h⟩).length);rfl;rfl;exact dp _;decide;exact bG (by assumption);simp;rfl;exact cN _ _;rfl;exact .cons .here .nil|apply L.pubB 63 10 (es:=(aF x.ks k key).map Str.c);rfl;rfl;exact cU _;decide;exact bG (by assumption);exact lM _;rfl;exact cN _ _;rfl;exact .cons .here (.cons .same .nil)|apply L.pubB 69 10 (es:=(aF x.vs k val).map Str.c);rfl;rfl;exact cU _;decide;exact bG (by assumption);exact lM _;rfl;exact cN _ _;rfl;exact .cons .same (.cons .here .nil)|(refine LW.is ?_;first|apply ju;rfl;exact jV ps ad a4;rfl;rfl;rfl|apply ag;rfl;apply js (i:=p) (e:=Pg.c x);rfl;rfl;exact dp ps;omega;exact gx;rfl|apply mv;rfl;exact mI x aR a0 h1 h2;rfl;rfl;rfl;rfl|apply ag;rfl;apply ay;rfl;rfl;omega;omega;rfl|apply nW (es:= [Pg.c ⟨(aF x.ks k key).drop h,(aF x.vs k val).drop h⟩]);rfl;rfl;rfl;rfl;rfl;rfl;rfl;rfl;rfl|apply nV;rfl;exact CW ps ⟨(aF x.ks k key).drop h,(aF x.vs k val).drop h⟩ (p+1) ((p:Int)+1) C ad C hl;rfl;rfl;rfl;exact aD (dp _) dD (bG ad);exact cN _ _;rfl;rfl;rfl|apply dR (i:=p) (e:=Pg.c ⟨(aF x.ks k key).take h,(aF x.vs k val).take h⟩) (er:=((aF ps (p+1) ⟨(aF x.ks k key).drop h,(aF x.vs k val).drop h⟩).set p ⟨(aF x.ks k key).take h,(aF x.vs k val).take h⟩).map Pg.c);rfl;rfl;rfl;rfl;rfl;rfl;exact dp _;omega;(rw[lM];omega);exact(List.map_set ..).symm)|(refine DR.is ?_;first|apply rg (es:= [[S key]]);rfl;rfl;rfl;rfl;rfl;rfl;rfl;rfl;rfl|apply rg (es:= [[S val]]);rfl;rfl;rfl;rfl;rfl;rfl;rfl;rfl;rfl|apply rc;rfl;exact lI x.ks key k _ rfl aR a6 h1;rfl;rfl;rfl;exact aD (cU _) dD (bG aR);exact cN _ _;rfl;rfl;rfl|apply rc;rfl;exact lI x.vs val k _ rfl a0 ar h2;rfl;rfl;rfl;exact aD (cU _) dD (bG a0);exact cN _ _;rfl;rfl;rfl|apply bg;rfl;apply jR (es':=((aF x.ks k key).drop h).map Str.c);rfl;rfl;exact cU _;exact q0;exact q1;exact ba|apply bg;rfl;apply jR (es':=((aF x.vs k val).drop h).map Str.c);rfl;rfl;exact cU _;exact q0;exact q2;exact bh|apply bg;rfl;apply ez (es':=((aF x.ks k key).take h).map Str.c);rfl;rfl;exact cU _;exact q0;exact q1;exact bi|apply bg;rfl;apply ez (es':=((aF x.vs k val).take h).map Str.c);rfl;rfl;exact cU _;exact q0;exact q2;exact bl|apply ld;rfl;exact jh ((aF x.ks k key).drop h) n1 (by simp;omega);rfl;rfl;rfl|apply ld;rfl;exact jh ((aF x.vs k val).drop h) n2 (by simp;omega);rfl;rfl;rfl|apply ld;rfl;exact jh ((aF x.ks k key).take h) n3 (by simp;omega);rfl;rfl;rfl|apply ld;rfl;exact jh ((aF x.vs k val).take h) n4 (by simp;omega);rfl;rfl;rfl)|refine am ?_|refine al ?_ ?_|fail)
       all_goals refine aU ?_
       all_goals rfl
     · have e:iO ps key val=ps.set (be ps key) ⟨aF x.ks (aX x.ks key) key,aF x.vs (aX x.ks key) val⟩:=by simp[iO,hg,hx,hf,a3]
       rw[e];have a8:decide ((4:Int)<((((aF x.ks (aX x.ks key) key).map Str.c).length:Nat):Int))=false:=by rw[lM,T];simp;omega
       have n0:aF x.ks (aX x.ks key) key≠ []:=fun h=>by rw[h] at T;simp at T
       have bm:aF x.vs (aX x.ks key) val≠ []:=fun h=>by rw[h] at a1;simp at a1
       have a5:ps.set (be ps key) ⟨aF x.ks (aX x.ks key) key,aF x.vs (aX x.ks key) val⟩≠ []:=fun h=>ad (by simpa using h)
       generalize aX x.ks key=k at*
       generalize be ps key=p at*
       (repeat' first|intro hb hp|apply L.pubB 26 3 (es:=(ps.set p ⟨(aF x.ks k key),(aF x.vs k val)⟩).map Pg.c) (n:=ps.length);rfl;rfl;exact dp _;decide;exact bG (by assumption);simp;rfl;exact cN _ _;rfl;exact .cons .here .nil|apply L.pubB 63 10 (es:=(aF x.ks k key).map Str.c);rfl;rfl;exact cU _;decide;exact bG (by assumption);exact lM _;rfl;exact cN _ _;rfl;exact .cons .here (.cons .same .nil)|apply L.pubB 69 10 (es:=(aF x.vs k val).map Str.c);rfl;rfl;exact cU _;decide;exact bG (by assumption);exact lM _;rfl;exact cN _ _;rfl;exact .cons .same (.cons .here .nil)|(refine LW.is ?_;first|apply ju;rfl;exact jV ps ad a4;rfl;rfl;rfl|apply ag;rfl;apply js (i:=p) (e:=Pg.c x);rfl;rfl;exact dp ps;omega;exact gx;rfl|apply mv;rfl;exact mI x aR a0 h1 h2;rfl;rfl;rfl;rfl|apply ag;rfl;apply ay;rfl;rfl;omega;omega;rfl|apply dR (i:=p) (e:=Pg.c ⟨(aF x.ks k key),(aF x.vs k val)⟩) (er:=(ps.set p ⟨(aF x.ks k key),(aF x.vs k val)⟩).map Pg.c);rfl;rfl;rfl;rfl;rfl;rfl;exact dp _;omega;(rw[lM];omega);exact(List.map_set ..).symm)|(refine DR.is ?_;first|apply rg (es:= [[S key]]);rfl;rfl;rfl;rfl;rfl;rfl;rfl;rfl;rfl|apply rg (es:= [[S val]]);rfl;rfl;rfl;rfl;rfl;rfl;rfl;rfl;rfl|apply rc;rfl;exact lI x.ks key k _ rfl aR a6 h1;rfl;rfl;rfl;exact aD (cU _) dD (bG aR);exact cN _ _;rfl;rfl;rfl|apply rc;rfl;exact lI x.vs val k _ rfl a0 ar h2;rfl;rfl;rfl;exact aD (cU _) dD (bG a0);exact cN _ _;rfl;rfl;rfl)|refine am ?_|refine al ?_ ?_|fail)
       all_goals refine aU ?_
       all_goals rfl
end Go.Proofs.Y
namespace Go.Proofs.Y
open Go.Abs Go.Proofs.Tryz
attribute [local irreducible] L Code.wp bodyPost Exit.then Exit.inBlock Lj
def cw{α:Type}(l:List α)(i:Nat):List α:=l.take i++l.drop (i+1)
def eV{α:Type}{l:List α}{i:Nat}(hi:i<l.length):(cw l i).length=l.length - 1:=by simp[cw];omega
def yd{α β:Type}(f:α->β)(l:List α)(i:Nat):(cw l i).map f=(l.map f).take i++(l.map f).drop (i+1):=by simp[cw,List.map_take,List.map_drop]
def tc(ks:List Str)(n:Nat)(hn:ks.length=n)(i:Nat)(a b:Int)(ha:a=i)(T:b=i+1)(hi:i<ks.length)(h2:2<=ks.length):
 CallA prog 162 [.bsh 1000 0 n 1,aI a,aI b] [(1000,⟨9,.r (ks.map Str.c).flatten 0⟩)] [(1001,⟨9,.r ((cw ks i).map Str.c).flatten 0⟩),(1000,⟨9,.l []⟩)] [] (.bsh 1001 0 (n - 1) 1):=by
 have:=Bx (ks.map Str.c) i a b ha T (cU ks) (by rw[lM];exact hi) (by rw[lM];exact h2);rw[lM,hn] at this;rw[yd];exact this
def jP(ks:List Str)(n:Nat)(hn:ks.length=n)(i:Nat)(a b:Int)(ha:a=i)(T:b=i+1)(hi:i<ks.length)(h2:ks.length=1):
 CallA prog 162 [.bsh 1000 0 n 1,aI a,aI b] [(1000,⟨9,.r (ks.map Str.c).flatten 0⟩)] [(1000,⟨9,.l []⟩)] [] (.iv (.sl [])):=by
 have:=Bw (ks.map Str.c) i a b ha T (cU ks) (by rw[lM];exact hi) (by rw[lM];exact h2);rw[lM,hn] at this;exact this
def vM(ps:List Pg)(n:Nat)(hn:ps.length=n)(i:Nat)(a b:Int)(ha:a=i)(T:b=i+1)(hi:i<ps.length)(h2:2<=ps.length):
 CallA prog 163 [.bsh 1000 0 n 2,aI a,aI b] [(1000,⟨93,.r (ps.map Pg.c).flatten 0⟩)] [(1001,⟨93,.r ((cw ps i).map Pg.c).flatten 0⟩),(1000,⟨93,.l []⟩)] [] (.bsh 1001 0 (n - 1) 2):=by
 have:=BA (ps.map Pg.c) i a b ha T (dp ps) (by rw[lM];exact hi) (by rw[lM];exact h2);rw[lM,hn] at this;rw[yd];exact this
def By(ps:List Pg)(n:Nat)(hn:ps.length=n)(i:Nat)(a b:Int)(ha:a=i)(T:b=i+1)(hi:i<ps.length)(h2:ps.length=1):
 CallA prog 163 [.bsh 1000 0 n 2,aI a,aI b] [(1000,⟨93,.r (ps.map Pg.c).flatten 0⟩)] [(1000,⟨93,.l []⟩)] [] (.iv (.sl [])):=by
 have:=Bz (ps.map Pg.c) i a b ha T (dp ps) (by rw[lM];exact hi) (by rw[lM];exact h2);rw[lM,hn] at this;exact this
def FB(n:Nat)(a:Int)(ha:a=n)(hn:0<n)(hl:n<=1000):
 CallA prog 223 [.nils,aI a] [] [(1000,⟨9,.r [] (n*1)⟩)] [] (.bsh 1000 0 0 1):=by
 refine iA func223 ntmps223 (fun w0 E0=> ?_);have T:decide (a<0)=false:=by simp;omega
 have ad:decide ((0:Int)<a - ((0:Int) - ((([]:List (List IV)).length:Nat):Int)))=true:=by simp;omega
 have hz:((([]:List (List IV)).length:Nat):Int)=0:=rfl;(repeat' first|intro T hp|(refine LW.is ?_;first|apply ag;rfl;apply nN;rfl|apply ag;rfl;apply yq;rfl;rfl;rfl|apply uv 1000 (m:=n);rfl;rfl;rfl;omega;exact hn;(rw[fJ];omega);omega;rfl;rfl|apply ag;rfl;apply uc (n':=0);rfl;rfl;exact Int.le_refl _;omega;rfl|apply ag;rfl;apply pS;rfl;rfl;omega;omega)|refine am ?_|refine al ?_ ?_|fail)
 all_goals(apply L.ends;rfl;rfl;exact fR;exact Wk.mk' (by intro id h;simp[keys] at h) .nil B1 .nil)
def tg(A B:List Str)(T:A≠ [])(hB:B≠ [])(h1:A.length<=100)(h2:B.length<=100):
 CallA prog 194 [.iv (.sl [[.sl (A.map Str.c)],[.sl (B.map Str.c)]])] [] [] [] (.iv (.sl ((A++B).map Str.c))):=by
 have ar:0<A.length:=gU T;have ad:A++B≠ []:=fun h=>T (List.append_eq_nil_iff.1 h).1
 have lA:(A.map Str.c).length=A.length:=lM _;have lB:(B.map Str.c).length=B.length:=lM _;have aR:decide ((0:Int)+(((A.map Str.c).length:Nat):Int)<0)=false:=by(first|(simp;done)|(simp;omega))
 have a0:decide ((0:Int)+(((A.map Str.c).length:Nat):Int)+(((B.map Str.c).length:Nat):Int)<0)=false:=by(first|(simp;done)|(simp;omega))
 have kg:=FB (A.length+B.length) ((0:Int)+(((A.map Str.c).length:Nat):Int)+(((B.map Str.c).length:Nat):Int)) sP C C;refine iA func194 ntmps194 (fun w0 E0=> ?_);(repeat' first|intro hb hp|refine L.unroll 3 ?_|refine Mi ?_|(refine LW.is ?_;first|apply Fi;rfl;exact kg;rfl;rfl;rfl|apply ag;rfl;apply cd;rfl;rfl;decide;rfl;rfl|apply eU 3000 (es:= []) (n:=0) (news:=A.map Str.c) (er:=A.map Str.c) (nr:=A.length);rfl;rfl;rfl;rfl;exact .inr C;(intro e he;cases he);exact cU A;exact Nat.le_refl _;exact bG T;(rw[fJ];omega);omega;rfl;rfl;(rw[lM];omega)|apply eU 3001 (es:=A.map Str.c) (n:=A.length) (news:=B.map Str.c) (er:=(A++B).map Str.c) (nr:=(A++B).length);rfl;rfl;rfl;rfl;exact .inl (aD (cU A) dD (bG T));exact cU A;exact cU B;(rw[lM];exact Nat.le_refl _);exact bG hB;(rw[fJ];omega);omega;rfl;(rw[tL (by rw[lM];exact Nat.le_refl _),pA]);(rw[gV,lM]))|refine am ?_|refine al ?_ ?_|fail)
 all_goals(apply L.pubS 3001 2 (es:=(A++B).map Str.c);rfl;rfl;exact cU _;decide;exact bG ad;exact lM _;rfl;exact .here)
 all_goals refine aU ?_
 all_goals rfl
def mO(ps:List Pg)(p:Nat)(a b:Pg):List Pg:=cw (ps.set p ⟨a.ks++b.ks,a.vs++b.vs⟩) (p+1)
def xI{ps:List Pg}{p:Nat}{a b:Pg}(h:p+1<ps.length):(mO ps p a b).length=ps.length - 1:=by
 rw[mO,eV (by simpa using h)];simp
def AW(ps:List Pg)(n:Nat)(hn:ps.length=n)(p:Nat)(i:Int)(hi:i=p)(a b:Pg)(ha:ps[p]?=some a)(T:ps[p+1]?=some b)(ad:a.ks≠ [])(ar:b.ks≠ [])(aR:a.vs≠ [])(a0:b.vs≠ [])
 (h1:a.ks.length<=100) (h2:b.ks.length<=100) (h3:a.vs.length<=100) (h4:b.vs.length<=100) (hl:n<=4611686018427387904):
 CallA prog 164 [.ptr 1000 0,aI i] [(1000,⟨51,.l [.bsh 1001 0 n 2]⟩),(1001,⟨93,.r (ps.map Pg.c).flatten 0⟩)]
  [(1000,⟨51,.l [.bsh 1002 0 (n - 1) 2]⟩),(1002,⟨93,.r ((mO ps p a b).map Pg.c).flatten 0⟩),(1001,⟨93,.l []⟩)] [] (.tup []):=by
 have hp:p+1<ps.length:=(gS T).1;have ga:(ps.map Pg.c)[p]?=some (Pg.c a):=by rw[gP,ha];rfl
 have gb:(ps.map Pg.c)[p+1]?=some (Pg.c b):=by rw[gP,T];rfl
 have a1:ps≠ []:=fun h=>by rw[h] at hp;simp at hp
 have a2:(ps.set p ⟨a.ks++b.ks,a.vs++b.vs⟩).length=n:=by rw[List.length_set,hn]
 have h:CallA prog 164 [.ptr 1000 0,aI i] [(1000,⟨51,.l [.bsh 1001 0 n 2]⟩),(1001,⟨93,.r (ps.map Pg.c).flatten 0⟩)]
  [(1000,⟨51,.l [.bsh 49 0 (n - 1) 2]⟩),(49,⟨93,.r ((mO ps p a b).map Pg.c).flatten 0⟩),(1001,⟨93,.l []⟩)] [] (.tup []):=by
  refine iA func164 ntmps164 (fun w0 E0=> ?_);(repeat' first|intro T hp|(refine LW.is ?_;first|apply uz;rfl;exact vM (ps.set p ⟨a.ks++b.ks,a.vs++b.vs⟩) n a2 (p+1) (i+1) (i+2) C C C C;rfl;rfl;exact aD (dp _) dD (bG (by simpa using a1));rfl;rfl)|(refine DR.is ?_;first|apply bg;rfl;apply ay (off':=p*2);rfl;rfl;omega;omega;omega|apply bg;rfl;apply ay (off':=(p+1)*2);rfl;rfl;omega;omega;omega|apply bg;rfl;apply js (i:=p) (e:=Pg.c a);rfl;rfl;exact dp ps;omega;exact ga;rfl|apply bg;rfl;apply js (i:=p+1) (e:=Pg.c b);rfl;rfl;exact dp ps;omega;exact gb;rfl|apply rf;rfl;exact tg a.ks b.ks ad ar h1 h2;rfl;rfl|apply rf;rfl;exact tg a.vs b.vs aR a0 h3 h4;rfl;rfl|apply dU (i:=p) (e:=Pg.c ⟨a.ks++b.ks,a.vs++b.vs⟩) (er:=(ps.set p ⟨a.ks++b.ks,a.vs++b.vs⟩).map Pg.c);rfl;rfl;rfl;rfl;rfl;rfl;exact dp _;omega;(rw[lM];omega);exact(List.map_set ..).symm)|refine am ?_|refine al ?_ ?_|fail)
  all_goals(apply ES;rfl;rfl;exact fR;exact Wk.mk' kK .nil B3 .nil)
 exact h.sws [(49,1002)] rfl rfl rfl rfl rfl
def qp(ps:List Pg)(i:Nat):Pg:=ps.getD i ⟨[],[]⟩
def lh{ps:List Pg}{i:Nat}(h:i<ps.length):ps[i]?=some (qp ps i):=by
 rw[qp,List.getD_eq_getElem?_getD,gG h];rfl
def pz{ps:List Pg}{i:Nat}(h:i<ps.length):qp ps i∈ps:=gE (lh h)
def me(ps:List Pg)(p:Nat)(x:Pg):List Pg:=
 if x.ks.length=0 then cw (ps.set p x) p
 else if 0<p/\(qp ps (p - 1)).ks.length+x.ks.length<=4 then mO (ps.set p x) (p - 1) (qp ps (p - 1)) x
 else if p+1<ps.length/\(qp ps (p+1)).ks.length+x.ks.length<=4 then mO (ps.set p x) p x (qp ps (p+1))
 else ps.set p x
def fq(ps:List Pg)(key:Str):List Pg:=
 if aG ps then
  match ps[be ps key]? with
  |none=>ps
  |some x=>if bM x.ks key then me ps (be ps key) ⟨cw x.ks (aX x.ks key),cw x.vs (aX x.ks key)⟩ else ps
 else ps
def Br(ps:List Pg)(key:Str)(hl:ps.length*48<=140737488355328):
 CallA prog 118 [.agg [.iv (.sl (ps.map Pg.c))],aS key] [] [] [] (.agg [.iv (.sl ((fq ps key).map Pg.c))]):=by
 have kg:=iC ps C;cases hg:aG ps with
 |false=>
  refine iA func118 ntmps118 (fun w0 E0=> ?_);rw[hg] at kg;have e:fq ps key=ps:=by simp[fq,hg]
  rw[e];refine wz ?_;all_goals refine aU ?_
  all_goals rfl
 |true=>
  rw[hg] at kg;have hs:=dE key hg;have kp:=pi ps key C hs;by_cases T:(dl ps key).2.2=false
  · refine iA func118 ntmps118 (fun w0 E0=> ?_);have e:fq ps key=ps:=by
     rw[fq,if_pos hg];cases hx:ps[be ps key]? with
     |none=>rfl
     |some x=>rw[dl,hx] at T;simp only at T|-;rw[if_neg (by simp[T])]
    rw[e];rw[T] at kp;refine wz ?_;all_goals refine aU ?_
    all_goals rfl
  · have a3:ps≠ []:=fun h=>by subst h;exact T rfl
    have hp:=yP (key:=key) a3;obtain⟨x,hx⟩: ∃x,ps[be ps key]?=some x:=⟨_,gG hp⟩
    have em:dl ps key=(be ps key,aX x.ks key,bM x.ks key):=by rw[dl,hx]
    rw[em] at kp T;dsimp only at kp T;have hf:bM x.ks key=true:=by simpa using T
    have aR:=gE hx;have a8:=hs.vs x aR;have b2:=hs.len x aR;have ar:=hs.ne x aR;have b3:0<x.ks.length:=gU ar;have a2:x.vs≠ []:=fun h=>by rw[h] at a8;simp at a8;omega
    have h1:x.ks.length<=1000:=C;have h2:x.vs.length<=1000:=C;have a0:aX x.ks key<x.ks.length:=by
     have hf:=hf;unfold bM at hf;have:x.ks[aX x.ks key]?=some key:=by simpa using hf
     exact(gS this).1
    rw[hf] at kp;have gx:(ps.map Pg.c)[be ps key]?=some (Pg.c x):=by rw[gP,hx];rfl
    have e:fq ps key=me ps (be ps key) ⟨cw x.ks (aX x.ks key),cw x.vs (aX x.ks key)⟩:=by simp[fq,hg,hx,hf]
    rw[e];have a6: ∀i,i<ps.length->(qp ps i).ks≠ [] /\(qp ps i).ks.length<=4/\(qp ps i).vs.length=(qp ps i).ks.length:=fun i hi=>⟨hs.ne _ (pz hi),hs.len _ (pz hi),hs.vs _ (pz hi)⟩
    clear e em T hs aR hg;generalize aX x.ks key=k at*
    generalize be ps key=p at*
    have a1:k<x.vs.length:=C;have lk:=eV a0;have lv:=eV a1;generalize hX:(⟨cw x.ks k,cw x.vs k⟩:Pg)=X;have a4:(ps.set p X).length=ps.length:=List.length_set;have ad:ps.set p X≠ []:=by simpa using a3
    by_cases a7:x.ks.length=1
    · have bl:cw x.ks k= []:=List.length_eq_zero_iff.1 C;have bm:cw x.vs k= []:=List.length_eq_zero_iff.1 C;rw[bl,bm] at hX;subst hX;have e0:me ps p ⟨[],[]⟩=cw (ps.set p ⟨[],[]⟩) p:=if_pos rfl;rw[e0];by_cases b4:ps.length=1
      · have e:cw (ps.set p ⟨[],[]⟩) p= []:=List.length_eq_zero_iff.1 (by rw[eV C];omega);rw[e];refine iA func118 ntmps118 (fun w0 E0=> ?_);(repeat' first|intro hb hp|(refine LW.is ?_;first|apply ju;rfl;exact jV ps a3 hl;rfl;rfl;rfl|apply ag;rfl;apply ay (off':=p*2);rfl;rfl;omega;omega;omega|apply ag;rfl;apply js (i:=p) (e:=Pg.c x);rfl;rfl;exact dp ps;omega;exact gx;rfl|apply mv;rfl;exact mI x ar a2 h1 h2;rfl;rfl;rfl;rfl|apply dR (i:=p) (e:=Pg.c ⟨[],[]⟩) (er:=(ps.set p ⟨[],[]⟩).map Pg.c);rfl;rfl;rfl;rfl;rfl;rfl;exact dp _;omega;(rw[lM];omega);exact(List.map_set ..).symm|apply Ap;rfl;exact By (ps.set p ⟨[],[]⟩) ps.length a4 p _ _ rfl rfl C C;rfl;rfl;exact aD (dp _) dD (bG ad);rfl)|(refine DR.is ?_;first|apply re;rfl;exact jP x.ks _ rfl k _ _ rfl rfl a0 a7;rfl;rfl;exact aD (cU _) dD (bG ar);rfl|apply re;rfl;exact jP x.vs _ rfl k _ _ rfl rfl a1 C;rfl;rfl;exact aD (cU _) dD (bG a2);rfl)|refine am ?_|refine al ?_ ?_|fail)
        all_goals refine aU ?_
        all_goals rfl
      · refine iA func118 ntmps118 (fun w0 E0=> ?_);have bp:cw (ps.set p ⟨[],[]⟩) p≠ []:=fun h=>by have:=congrArg List.length h;rw[eV C] at this;simp at this;omega
        (repeat' first|intro hb hp|(refine LW.is ?_;first|apply ju;rfl;exact jV ps a3 hl;rfl;rfl;rfl|apply ag;rfl;apply ay (off':=p*2);rfl;rfl;omega;omega;omega|apply ag;rfl;apply js (i:=p) (e:=Pg.c x);rfl;rfl;exact dp ps;omega;exact gx;rfl|apply mv;rfl;exact mI x ar a2 h1 h2;rfl;rfl;rfl;rfl|apply dR (i:=p) (e:=Pg.c ⟨[],[]⟩) (er:=(ps.set p ⟨[],[]⟩).map Pg.c);rfl;rfl;rfl;rfl;rfl;rfl;exact dp _;omega;(rw[lM];omega);exact(List.map_set ..).symm|apply uz;rfl;exact vM (ps.set p ⟨[],[]⟩) ps.length a4 p _ _ rfl rfl C C;rfl;rfl;exact aD (dp _) dD (bG ad);rfl;rfl)|(refine DR.is ?_;first|apply re;rfl;exact jP x.ks _ rfl k _ _ rfl rfl a0 a7;rfl;rfl;exact aD (cU _) dD (bG ar);rfl|apply re;rfl;exact jP x.vs _ rfl k _ _ rfl rfl a1 C;rfl;rfl;exact aD (cU _) dD (bG a2);rfl)|refine am ?_|refine al ?_ ?_|fail)
        all_goals(apply L.pubB 62 4 (es:=(cw (ps.set p ⟨[],[]⟩) p).map Pg.c);rfl;rfl;exact dp _;decide;exact bG bp;(rw[lM,eV C,a4]);rfl;exact cN _ _;rfl;exact .cons .here .nil)
        all_goals refine aU ?_
        all_goals rfl
    · have bP:2<=x.ks.length:=C;have bR:2<=x.vs.length:=C;have n1:cw x.ks k≠ []:=fun h=>by rw[h] at lk;simp at lk;omega
      have n2:cw x.vs k≠ []:=fun h=>by rw[h] at lv;simp at lv;omega
      have bS:((cw x.ks k).map Str.c).length=x.ks.length - 1:=by rw[lM,lk]
      have bW:((cw x.vs k).map Str.c).length=x.vs.length - 1:=by rw[lM,lv]
      have hz:((((((cw x.ks k).map Str.c).length:Nat):Int))==0)=false:=by simp;omega
      have g1:0<p->((ps.set p X).map Pg.c)[p - 1]?=some (Pg.c (qp ps (p - 1))):=fun h=>by
       rw[gP,List.getElem?_set,if_neg C,lh C];rfl
      have g2:p+1<ps.length->((ps.set p X).map Pg.c)[p+1]?=some (Pg.c (qp ps (p+1))):=fun h=>by
       rw[gP,List.getElem?_set,if_neg C,lh C];rfl
      have q1:0<p->(ps.set p X)[p - 1]?=some (qp ps (p - 1)):=fun h=>by
       rw[List.getElem?_set,if_neg C,lh C]
      have q2:p+1<ps.length->(ps.set p X)[p+1]?=some (qp ps (p+1)):=fun h=>by
       rw[List.getElem?_set,if_neg C,lh C]
      have q0:(ps.set p X)[p]?=some X:=by rw[List.getElem?_set,if_pos rfl,if_pos hp]
      have b1:0<p->(ps.set p X)[p - 1+1]?=some X:=fun h=>by rw[show p - 1+1=p by omega];exact q0
      have ea:((qp ps (p - 1)).ks.map Str.c).length=(qp ps (p - 1)).ks.length:=lM _;have eb:((qp ps (p+1)).ks.map Str.c).length=(qp ps (p+1)).ks.length:=lM _;have wa:0<p->_:=fun h:0<p=>a6 (p - 1) C
      have wb:p+1<ps.length->_:=fun h:p+1<ps.length=>a6 (p+1) C
      have a9:0<p->(qp ps (p - 1)).ks.length<=4:=fun h=>(wa h).2.1
      have ba:p+1<ps.length->(qp ps (p+1)).ks.length<=4:=fun h=>(wb h).2.1
      have eX:X.ks.length=x.ks.length - 1:=by rw[<-hX];exact lk
      have b5:X.vs.length=x.ks.length - 1:=by rw[<-hX];show(cw x.vs k).length=_;omega
      have bh:X.ks≠ []:=by rw[<-hX];exact n1
      have bi:X.vs≠ []:=by rw[<-hX];exact n2
      have cX:Pg.c X= [.sl ((cw x.ks k).map Str.c),.sl ((cw x.vs k).map Str.c)]:=by rw[<-hX];rfl
      generalize hr:me ps p X=r;refine iA func118 ntmps118 (fun w0 E0=> ?_)
      (repeat' first|intro hb hp|apply L.pubB 38 8 (es:=(cw x.ks k).map Str.c);rfl;rfl;exact cU _;decide;exact bG n1;exact bS;rfl;exact cN _ _;rfl;exact .cons .here (.cons .same .nil)|apply L.pubB 44 8 (es:=(cw x.vs k).map Str.c);rfl;rfl;exact cU _;decide;exact bG n2;exact bW;rfl;exact cN _ _;rfl;exact .cons .same (.cons .here .nil)|(refine LW.is ?_;first|apply ju;rfl;exact jV ps a3 hl;rfl;rfl;rfl|apply ag;rfl;apply ay (off':=p*2);rfl;rfl;omega;omega;omega|apply ag;rfl;apply js (i:=p) (e:=Pg.c x);rfl;rfl;exact dp ps;omega;exact gx;rfl|apply mv;rfl;exact mI x ar a2 h1 h2;rfl;rfl;rfl;rfl|apply dR (i:=p) (e:=Pg.c X) (er:=(ps.set p X).map Pg.c);rfl;rfl;rfl;rfl;(rw[cX];rfl);rfl;exact dp _;omega;(rw[lM];omega);exact(List.map_set ..).symm|apply Ed 3000;rfl;exact AW (ps.set p X) ps.length a4 (p - 1) ((p:Int) - 1) C (qp ps (p - 1)) X (q1 C) (b1 C) (wa C).1 bh (fun h=>by have:=(wa C).2.2;rw[h] at this;exact(wa C).1 (List.length_eq_zero_iff.1 this.symm)) bi (by have:=a9 C;omega) C (by have:=a9 C;have:=(wa C).2.2;omega) C C;rfl;rfl;rfl;exact aD (dp _) dD (bG ad);rfl;rfl;rfl;rfl|apply Ed 3000;rfl;exact AW (ps.set p X) ps.length a4 p _ rfl X (qp ps (p+1)) q0 (q2 C) bh (wb C).1 bi (fun h=>by have:=(wb C).2.2;rw[h] at this;exact(wb C).1 (List.length_eq_zero_iff.1 this.symm)) C (by have:=ba C;omega) C (by have:=ba C;have:=(wb C).2.2;omega) C;rfl;rfl;rfl;exact aD (dp _) dD (bG ad);rfl;rfl;rfl;rfl)|(refine DR.is ?_;first|apply bg;rfl;apply ay (off':=(p - 1)*2);rfl;rfl;omega;omega;omega|apply bg;rfl;apply ay (off':=(p+1)*2);rfl;rfl;omega;omega;omega|apply bg;rfl;apply bc (i:=p - 1) (f:=0) (e:=Pg.c (qp ps (p - 1)));rfl;rfl;exact dp _;omega;exact g1 C;rfl|apply bg;rfl;apply bc (i:=p+1) (f:=0) (e:=Pg.c (qp ps (p+1)));rfl;rfl;exact dp _;omega;exact g2 C;rfl|apply BD;rfl;exact tc x.ks _ rfl k _ _ rfl rfl a0 bP;rfl;rfl;exact aD (cU _) dD (bG ar);rfl;rfl|apply BD;rfl;exact tc x.vs _ rfl k _ _ rfl rfl a1 bR;rfl;rfl;exact aD (cU _) dD (bG a2);rfl;rfl)|refine am ?_|refine al ?_ ?_|fail)
      all_goals first
       |(have e:r=mO (ps.set p X) (p - 1) (qp ps (p - 1)) X:=by
          rw[<-hr,me,if_neg C,if_pos ⟨by omega,by omega⟩]
         have a5:=xI (ps:=ps.set p X) (p:=p - 1) (a:=qp ps (p - 1)) (b:=X) C;subst e;apply L.pubB 3000 4 (es:=(mO (ps.set p X) (p - 1) (qp ps (p - 1)) X).map Pg.c) (n:=ps.length - 1);rfl;rfl;exact dp _;decide;exact bG (fun h=>by rw[h] at a5;simp at a5;omega);(rw[lM];omega);rfl;exact cN _ _;rfl;exact .cons .here .nil)
       |(have e:r=mO (ps.set p X) p X (qp ps (p+1)):=by
          rw[<-hr,me,if_neg C,if_neg C,if_pos ⟨by omega,by omega⟩]
         have a5:=xI (ps:=ps.set p X) (p:=p) (a:=X) (b:=qp ps (p+1)) C;subst e;apply L.pubB 3000 4 (es:=(mO (ps.set p X) p X (qp ps (p+1))).map Pg.c) (n:=ps.length - 1);rfl;rfl;exact dp _;decide;exact bG (fun h=>by rw[h] at a5;simp at a5;omega);(rw[lM];omega);rfl;exact cN _ _;rfl;exact .cons .here .nil)
       |(have e:r=ps.set p X:=by
          rw[<-hr,me,if_neg C,if_neg C,if_neg C]
         subst e;apply L.pubB 25 4 (es:=(ps.set p X).map Pg.c) (n:=ps.length);rfl;rfl;exact dp _;decide;exact bG ad;(rw[lM];omega);rfl;exact cN _ _;rfl;exact .cons .here .nil)
      all_goals refine aU ?_
      all_goals rfl
end Go.Proofs.Y
