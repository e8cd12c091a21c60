/- Several texts in one, each with its own sentence ahead of it. Conditions: each one says its own. -/
import Derived.Test.YthcjohcakdnmmaaGreatDoorRows
import Derived.Test.YthcjohcakdnmmaaGreatDoorZS14
set_option linter.all false
namespace Go.Proofs.YthcjohcakdnmmaaGreatDoor
open Go.Abs
set_option maxRecDepth 100000
attribute [local irreducible] L Code.wp bodyPost Exit.then Exit.inBlock
set_option linter.unusedVariables false
set_option linter.unusedSimpArgs false
abbrev Str:=List UInt8
def Str.c(s:Str):List IV:= [S s]
structure Pg where
 ks:List Str
 vs:List Str
theorem ltS{x y:Str}:Op.bytesLess x y=decide (x<y):=by
 induction x generalizing y with
 |nil=>cases y<;>simp[Op.bytesLess]
 |cons a x ih=>
  cases y with
  |nil=>simp[Op.bytesLess]
  |cons b y=>
   unfold Op.bytesLess
   rw[ih,Bool.eq_iff_iff]
   simp[List.cons_lt_cons_iff]
theorem leS{x y:Str}:(Op.bytesLess x y||x==y)=decide (x≤y):=by
 rw[ltS,Bool.eq_iff_iff]
 simp only[Bool.or_eq_true,decide_eq_true_eq,beq_iff_eq]
 constructor
 · rintro (h|rfl)
   · exact List.not_lt.1 (List.lt_asymm h)
   · exact List.not_lt.1 (List.lt_irrefl _)
 · intro h
   by_cases h1:x<y
   · exact .inl h1
   · exact .inr (List.le_antisymm h (List.not_lt.1 h1))
def risesM:Option Str→List Str→Bool
 |_,[] =>true
 |some a,s::l=>decide (a<s) && risesM (some s) l
 |none,s::l=>risesM (some s) l
def lastM:Option Str→List Str→Option Str
 |o,[] =>o
 |_,s::l=>lastM (some s) l
def goodT:Option Str→List Pg→Bool
 |_,[] =>true
 |o,p::ps=>decide (1≤p.ks.length) && (decide (p.ks.length≤4) && (decide (p.vs.length=p.ks.length) && (risesM o p.ks && goodT (lastM o p.ks) ps)))
def goodTree(ps:List Pg):Bool:=goodT none ps
end Go.Proofs.YthcjohcakdnmmaaGreatDoor
namespace Go.Proofs.YthcjohcakdnmmaaGreatDoor
open Go.Abs
set_option maxRecDepth 100000
attribute [local irreducible] L Code.wp bodyPost Exit.then Exit.inBlock
set_option linter.unusedVariables false
set_option linter.unusedSimpArgs false
end Go.Proofs.YthcjohcakdnmmaaGreatDoor
namespace Go.Proofs.YthcjohcakdnmmaaGreatDoor
open Go.Abs
set_option maxRecDepth 100000
attribute [local irreducible] L Code.wp bodyPost Exit.then Exit.inBlock
set_option linter.unusedVariables false
set_option linter.unusedSimpArgs false
def pre{α:Type}(p:α→Bool):List α→Nat
 | [] =>0
 |x::l=>if p x then pre p l+1 else 0
def Falls{α:Type}(p:α→Bool)(l:List α):Prop:= ∀(i j:Nat) (x y:α),i≤j→l[i]?=some x→l[j]?=some y→p y=true→p x=true
theorem pre_le{α:Type}(p:α→Bool): ∀l:List α,pre p l≤l.length
 | [] =>Nat.le_refl _
 |x::l=>by
  have:=pre_le p l
  simp only[pre,List.length_cons];split<;>omega
theorem pre_lt{α:Type}{p:α→Bool}: ∀{l:List α} {i:Nat} {x:α},l[i]?=some x→i<pre p l→p x=true
 | [],i,x,h,_=>by simp at h
 |y::l,0,x,h,hi=>by
  simp at h;subst h
  simp only[pre] at hi
  split at hi
  · assumption
  · omega
 |y::l,i+1,x,h,hi=>by
  simp only[pre] at hi
  split at hi
  · exact pre_lt (l:=l) (by simpa using h) (by omega)
  · omega
theorem pre_at{α:Type}{p:α→Bool}: ∀{l:List α} {x:α},l[pre p l]?=some x→p x=false
 | [],x,h=>by simp at h
 |y::l,x,h=>by
  simp only[pre] at h
  split at h
  · exact pre_at (l:=l) (by simpa using h)
  · rename_i hp;simp at h;subst h;simpa using hp
theorem Falls.le{α:Type}{p:α→Bool}{l:List α}(hf:Falls p l){i:Nat}{x:α}(h:l[i]?=some x)(hp:p x=true):i<pre p l:=by
 refine Nat.lt_of_not_le (fun hle=> ?_)
 have hlt:=(List.getElem?_eq_some_iff.1 h).1
 obtain⟨y,hy⟩: ∃y,l[pre p l]?=some y:=⟨_,List.getElem?_eq_getElem (by omega)⟩
 have:=hf _ _ y x hle hy h hp
 rw[pre_at hy] at this;cases this
theorem Falls.ge{α:Type}{p:α→Bool}{l:List α}{i:Nat}{x:α}(h:l[i]?=some x)(hp:p x=false):pre p l≤i:=by
 refine Nat.le_of_not_lt (fun hlt=> ?_)
 rw[pre_lt h hlt] at hp;cases hp
def lbM(ks:List Str)(key:Str):Nat:=pre (fun s=>decide (s<key)) ks
def foundM(ks:List Str)(key:Str):Bool:=ks[lbM ks key]?==some key
theorem half(i j:Nat)(h:i+j<4611686018427387904):IntKind.i64.wrap ((IntKind.u64.wrap ((i:Int)+(j:Int))).fdiv (2 ^ min (Int.toNat 1) IntKind.u64.bits))=(((i+j) / 2:Nat):Int):=by
 have h1:IntKind.u64.wrap ((i:Int)+(j:Int))=(i:Int)+j:=by rw[IntKind.wrap_u64];omega
 rw[h1]
 have h2:((i:Int)+(j:Int)).fdiv (2 ^ min (Int.toNat 1) IntKind.u64.bits)=((i:Int)+j) / 2:=Int.fdiv_eq_ediv_of_nonneg _ (by decide)
 rw[h2,IntKind.wrap_i64]
 omega
end Go.Proofs.YthcjohcakdnmmaaGreatDoor
namespace Go.Proofs.YthcjohcakdnmmaaGreatDoor
open Go.Abs
set_option maxRecDepth 100000
attribute [local irreducible] L Code.wp bodyPost Exit.then Exit.inBlock
set_option linter.unusedVariables false
set_option linter.unusedSimpArgs false
def fstLe(key:Str)(p:Pg):Bool:=decide (p.ks.headD [] ≤key)
def pgOf(ps:List Pg)(key:Str):Nat:=pre (fstLe key) ps - 1
end Go.Proofs.YthcjohcakdnmmaaGreatDoor
namespace Go.Proofs.YthcjohcakdnmmaaGreatDoor
open Go.Abs
set_option linter.unusedVariables false
set_option linter.unusedSimpArgs false
theorem lt_trans'{a b c:Str}(h:a<b)(k:b<c):a<c:=List.lt_trans h k
theorem falls_keys{ks:List Str}(key:Str)(h:ks.Pairwise (· < ·)):Falls (fun s=>decide (s<key)) ks:=by
 intro i j x y hij hx hy hp
 simp only[decide_eq_true_eq] at hp⊢
 rcases Nat.lt_or_eq_of_le hij with h1|rfl
 · obtain⟨hi',ex⟩:=List.getElem?_eq_some_iff.1 hx
   obtain⟨hj',ey⟩:=List.getElem?_eq_some_iff.1 hy
   have:=List.pairwise_iff_getElem.1 h i j hi' hj' h1
   rw[ex,ey] at this
   exact lt_trans' this hp
 · rw[hx] at hy;cases hy;exact hp
end Go.Proofs.YthcjohcakdnmmaaGreatDoor
namespace Go.Proofs.YthcjohcakdnmmaaGreatDoor
open Go.Abs
set_option maxRecDepth 100000
attribute [local irreducible] L Code.wp bodyPost Exit.then Exit.inBlock
set_option linter.unusedVariables false
set_option linter.unusedSimpArgs false
def getM(ps:List Pg)(key:Str):Str×Bool:=
 if goodTree ps then
  match ps[pgOf ps key]? with
  |some p=>if foundM p.ks key then((p.vs[lbM p.ks key]?).getD [],true) else([],false)
  |none=>([],false)
 else([],false)
abbrev Pr:=Str×Str
def Pg.prs(p:Pg):List Pr:=p.ks.zip p.vs
def flatP(ps:List Pg):List Pr:=ps.flatMap Pg.prs
end Go.Proofs.YthcjohcakdnmmaaGreatDoor
namespace Go.Proofs.YthcjohcakdnmmaaGreatDoor
open Go.Abs
set_option linter.unusedVariables false
set_option linter.unusedSimpArgs false
theorem flatP_append(a b:List Pg):flatP (a++b)=flatP a++flatP b:=by simp[flatP]
end Go.Proofs.YthcjohcakdnmmaaGreatDoor
namespace Go.Proofs.YthcjohcakdnmmaaGreatDoor
open Go.Abs
set_option maxRecDepth 100000
attribute [local irreducible] L Code.wp bodyPost Exit.then Exit.inBlock
set_option linter.unusedVariables false
set_option linter.unusedSimpArgs false
end Go.Proofs.YthcjohcakdnmmaaGreatDoor
namespace Go.Proofs.YthcjohcakdnmmaaGreatDoor
open Go.Abs
set_option maxRecDepth 100000
attribute [local irreducible] L Code.wp bodyPost Exit.then Exit.inBlock
set_option linter.unusedVariables false
set_option linter.unusedSimpArgs false
end Go.Proofs.YthcjohcakdnmmaaGreatDoor
namespace Go.Proofs.YthcjohcakdnmmaaGreatDoor
open Go.Abs
set_option maxRecDepth 100000
attribute [local irreducible] L Code.wp bodyPost Exit.then Exit.inBlock
set_option linter.unusedVariables false
set_option linter.unusedSimpArgs false
theorem flat_ne{k:Nat}{es:List (List IV)}(hk: ∀e∈es,e.length=k)(h0:0<k)(hne:es≠ []):es.flatten≠ []:=fun e=>by
 have:=flatten_len es hk
 rw[e] at this
 have hp:0<es.length:=List.length_pos_iff.2 hne
 have:0<es.length*k:=Nat.mul_pos hp h0
 simp at*;omega
theorem mem_ins{k i:Nat}{es:List (List IV)}{v:List IV}(hk: ∀e∈es,e.length=k)(hv:v.length=k): ∀e∈es.take i++v::es.drop i,e.length=k:=fun e he=>by
 rcases List.mem_append.1 he with h|h
 · exact hk e (List.mem_of_mem_take h)
 · rcases List.mem_cons.1 h with rfl|h
   · exact hv
   · exact hk e (List.mem_of_mem_drop h)
theorem len_ins{i:Nat}{es:List (List IV)}{v:List IV}(hi:i≤es.length):(es.take i++v::es.drop i).length=es.length+1:=by
 simp;omega
theorem take1(v:List IV):([v].drop 0).take 1= [v]:=rfl
theorem ins1{es:List (List IV)}{v:List IV}{i:Nat}(hi:i≤es.length):(es.take i).take i++(([v].drop 0).take 1++(es.take i).drop (i+1))=es.take i++ [v]:=by
 rw[take1,List.take_take,Nat.min_self,@List.drop_eq_nil_of_le _ (es.take i) _ (by simp;omega)];simp
theorem ins2{es:List (List IV)}{v:List IV}{i:Nat}(hi:i≤es.length):(es.take i++ [v]).take (i+1)++((es.drop i).take (es.length - i)++(es.take i++ [v]).drop (i+1+(es.length - i)))=es.take i++v::es.drop i:=by
 rw[List.take_of_length_le (l:=es.take i++ [v]) (by simp;omega),@List.drop_eq_nil_of_le _ (es.take i++ [v]) _ (by simp;omega),List.take_of_length_le (l:=es.drop i) (by simp)];simp
theorem ins3{es:List (List IV)}{i:Nat}(hi:i≤es.length):es.take (i+1)++((es.drop i).take (es.length - i)++es.drop (i+1+(es.length - i)))=es.take (i+1)++es.drop i:=by
 rw[@List.drop_eq_nil_of_le _ es (i+1+(es.length - i)) (by omega),List.take_of_length_le (l:=es.drop i) (by simp)];simp
theorem ins4{es:List (List IV)}{v:List IV}{i:Nat}(hi:i<es.length):(es.take (i+1)++es.drop i).take i++(([v].drop 0).take 1++(es.take (i+1)++es.drop i).drop (i+1))=es.take i++v::es.drop i:=by
 have hl:(es.take (i+1)).length=i+1:=by simp;omega
 rw[take1,List.take_append_of_le_length (by omega),List.take_take,Nat.min_eq_left (by omega),List.drop_append_of_le_length (by omega),@List.drop_eq_nil_of_le _ (es.take (i+1)) _ (by omega)]
 simp
theorem ins5{es:List (List IV)}{v:List IV}:es.take es.length++(([v].drop 0).take 1++es.drop (es.length+1))=es.take es.length++v::es.drop es.length:=by
 rw[take1,@List.drop_eq_nil_of_le _ es (es.length+1) (by omega)];simp
theorem ins6{es:List (List IV)}{v:List IV}:es.take es.length++([v].drop 0).take 1=es.take es.length++v::es.drop es.length:=by simp
end Go.Proofs.YthcjohcakdnmmaaGreatDoor
namespace Go.Proofs.YthcjohcakdnmmaaGreatDoor
open Go.Abs
set_option maxRecDepth 100000
attribute [local irreducible] L Code.wp bodyPost Exit.then Exit.inBlock
set_option linter.unusedVariables false
set_option linter.unusedSimpArgs false
end Go.Proofs.YthcjohcakdnmmaaGreatDoor
namespace Go.Proofs.YthcjohcakdnmmaaGreatDoor
open Go.Abs
set_option maxRecDepth 100000
attribute [local irreducible] L Code.wp bodyPost Exit.then Exit.inBlock
set_option linter.unusedVariables false
set_option linter.unusedSimpArgs false
theorem maxL:maxLen=9223372036854775807:=rfl
end Go.Proofs.YthcjohcakdnmmaaGreatDoor
namespace Go.Proofs.YthcjohcakdnmmaaGreatDoor
open Go.Abs
set_option maxRecDepth 100000
attribute [local irreducible] L Code.wp bodyPost Exit.then Exit.inBlock
set_option linter.unusedVariables false
set_option linter.unusedSimpArgs false
end Go.Proofs.YthcjohcakdnmmaaGreatDoor
namespace Go.Proofs.YthcjohcakdnmmaaGreatDoor
open Go.Abs
set_option maxRecDepth 100000
attribute [local irreducible] L Code.wp bodyPost Exit.then Exit.inBlock unr
set_option linter.unusedVariables false
set_option linter.unusedSimpArgs false
end Go.Proofs.YthcjohcakdnmmaaGreatDoor
namespace Go.Proofs.YthcjohcakdnmmaaGreatDoor
open Go.Abs
set_option maxRecDepth 100000
attribute [local irreducible] L Code.wp bodyPost Exit.then Exit.inBlock unr
set_option linter.unusedVariables false
set_option linter.unusedSimpArgs false
end Go.Proofs.YthcjohcakdnmmaaGreatDoor
namespace Go.Proofs.YthcjohcakdnmmaaGreatDoor
open Go.Abs
set_option linter.unusedVariables false
set_option linter.unusedSimpArgs false
section
variable {a b:List Pr}{k v w:Str}(ha: ∀x∈a,x.1<k)(hb: ∀x∈b,k<x.1)
include ha hb
end
theorem get_split{α:Type}{l:List α}{p:Nat}{x:α}(h:l[p]?=some x):l=l.take p++x::l.drop (p+1):=by
 conv=>lhs;rw[←List.take_append_drop p l,dropC h]
theorem flat_at{ps:List Pg}{p:Nat}{x:Pg}(h:ps[p]?=some x):flatP ps=flatP (ps.take p)++(x.prs++flatP (ps.drop (p+1))):=by
 conv=>lhs;rw[get_split h]
 rw[flatP_append];rfl
theorem take_all{α:Type}{l:List α}{i:Nat}(h:l[i]?=none):l.take i=l:=List.take_of_length_le (List.getElem?_eq_none_iff.1 h)
end Go.Proofs.YthcjohcakdnmmaaGreatDoor
