/- Several texts in one, each with its own sentence ahead of it. Conditions: each one says its own. -/
import Derived.Test.YtadjbegnlimepaaGreatDoorRows
import Derived.Test.YtadjbegnlimepaaGreatDoorZS17
set_option linter.all false
namespace Go.Proofs.YtadjbegnlimepaaGreatDoor
open Go.Abs
set_option maxRecDepth 100000
attribute [local irreducible] L Code.wp bodyPost Exit.then Exit.inBlock
set_option linter.unusedVariables false
set_option linter.unusedSimpArgs false
abbrev Str:=List UInt8
def Str.c(s:Str):List IV:= [S s]
structure Pg where
 ks:List Str
 vs:List Str
def risesM:Option Str→List Str→Bool
 |_,[] =>true
 |some a,s::l=>decide (a<s) && risesM (some s) l
 |none,s::l=>risesM (some s) l
def lastM:Option Str→List Str→Option Str
 |o,[] =>o
 |_,s::l=>lastM (some s) l
def goodT:Option Str→List Pg→Bool
 |_,[] =>true
 |o,p::ps=>decide (1≤p.ks.length) && (decide (p.ks.length≤4) && (decide (p.vs.length=p.ks.length) && (risesM o p.ks && goodT (lastM o p.ks) ps)))
def goodTree(ps:List Pg):Bool:=goodT none ps
end Go.Proofs.YtadjbegnlimepaaGreatDoor
namespace Go.Proofs.YtadjbegnlimepaaGreatDoor
open Go.Abs
set_option maxRecDepth 100000
attribute [local irreducible] L Code.wp bodyPost Exit.then Exit.inBlock
set_option linter.unusedVariables false
set_option linter.unusedSimpArgs false
end Go.Proofs.YtadjbegnlimepaaGreatDoor
namespace Go.Proofs.YtadjbegnlimepaaGreatDoor
open Go.Abs
set_option maxRecDepth 100000
attribute [local irreducible] L Code.wp bodyPost Exit.then Exit.inBlock
set_option linter.unusedVariables false
set_option linter.unusedSimpArgs false
def pre{α:Type}(p:α→Bool):List α→Nat
 | [] =>0
 |x::l=>if p x then pre p l+1 else 0
def lbM(ks:List Str)(key:Str):Nat:=pre (fun s=>decide (s<key)) ks
def foundM(ks:List Str)(key:Str):Bool:=ks[lbM ks key]?==some key
end Go.Proofs.YtadjbegnlimepaaGreatDoor
namespace Go.Proofs.YtadjbegnlimepaaGreatDoor
open Go.Abs
set_option maxRecDepth 100000
attribute [local irreducible] L Code.wp bodyPost Exit.then Exit.inBlock
set_option linter.unusedVariables false
set_option linter.unusedSimpArgs false
def fstLe(key:Str)(p:Pg):Bool:=decide (p.ks.headD [] ≤key)
def pgOf(ps:List Pg)(key:Str):Nat:=pre (fstLe key) ps - 1
end Go.Proofs.YtadjbegnlimepaaGreatDoor
namespace Go.Proofs.YtadjbegnlimepaaGreatDoor
open Go.Abs
set_option linter.unusedVariables false
set_option linter.unusedSimpArgs false
end Go.Proofs.YtadjbegnlimepaaGreatDoor
namespace Go.Proofs.YtadjbegnlimepaaGreatDoor
open Go.Abs
set_option maxRecDepth 100000
attribute [local irreducible] L Code.wp bodyPost Exit.then Exit.inBlock
set_option linter.unusedVariables false
set_option linter.unusedSimpArgs false
def getM(ps:List Pg)(key:Str):Str×Bool:=
 if goodTree ps then
  match ps[pgOf ps key]? with
  |some p=>if foundM p.ks key then((p.vs[lbM p.ks key]?).getD [],true) else([],false)
  |none=>([],false)
 else([],false)
abbrev Pr:=Str×Str
def Pg.prs(p:Pg):List Pr:=p.ks.zip p.vs
def flatP(ps:List Pg):List Pr:=ps.flatMap Pg.prs
end Go.Proofs.YtadjbegnlimepaaGreatDoor
namespace Go.Proofs.YtadjbegnlimepaaGreatDoor
open Go.Abs
set_option linter.unusedVariables false
set_option linter.unusedSimpArgs false
theorem flatP_append(a b:List Pg):flatP (a++b)=flatP a++flatP b:=by simp[flatP]
end Go.Proofs.YtadjbegnlimepaaGreatDoor
namespace Go.Proofs.YtadjbegnlimepaaGreatDoor
open Go.Abs
set_option maxRecDepth 100000
attribute [local irreducible] L Code.wp bodyPost Exit.then Exit.inBlock
set_option linter.unusedVariables false
set_option linter.unusedSimpArgs false
end Go.Proofs.YtadjbegnlimepaaGreatDoor
namespace Go.Proofs.YtadjbegnlimepaaGreatDoor
open Go.Abs
set_option maxRecDepth 100000
attribute [local irreducible] L Code.wp bodyPost Exit.then Exit.inBlock
set_option linter.unusedVariables false
set_option linter.unusedSimpArgs false
end Go.Proofs.YtadjbegnlimepaaGreatDoor
namespace Go.Proofs.YtadjbegnlimepaaGreatDoor
open Go.Abs
set_option maxRecDepth 100000
attribute [local irreducible] L Code.wp bodyPost Exit.then Exit.inBlock
set_option linter.unusedVariables false
set_option linter.unusedSimpArgs false
theorem flat_ne{k:Nat}{es:List (List IV)}(hk: ∀e∈es,e.length=k)(h0:0<k)(hne:es≠ []):es.flatten≠ []:=fun e=>by
 have:=flatten_len es hk
 rw[e] at this
 have hp:0<es.length:=List.length_pos_iff.2 hne
 have:0<es.length*k:=Nat.mul_pos hp h0
 simp at*;omega
end Go.Proofs.YtadjbegnlimepaaGreatDoor
namespace Go.Proofs.YtadjbegnlimepaaGreatDoor
open Go.Abs
set_option maxRecDepth 100000
attribute [local irreducible] L Code.wp bodyPost Exit.then Exit.inBlock
set_option linter.unusedVariables false
set_option linter.unusedSimpArgs false
end Go.Proofs.YtadjbegnlimepaaGreatDoor
namespace Go.Proofs.YtadjbegnlimepaaGreatDoor
open Go.Abs
set_option maxRecDepth 100000
attribute [local irreducible] L Code.wp bodyPost Exit.then Exit.inBlock
set_option linter.unusedVariables false
set_option linter.unusedSimpArgs false
theorem lenS1(ks:List Str): ∀e∈ks.map Str.c,e.length=1:=fun e he=>by
 obtain⟨s,_,rfl⟩:=List.mem_map.1 he;rfl
theorem maxL:maxLen=9223372036854775807:=rfl
end Go.Proofs.YtadjbegnlimepaaGreatDoor
namespace Go.Proofs.YtadjbegnlimepaaGreatDoor
open Go.Abs
set_option maxRecDepth 100000
attribute [local irreducible] L Code.wp bodyPost Exit.then Exit.inBlock
set_option linter.unusedVariables false
set_option linter.unusedSimpArgs false
end Go.Proofs.YtadjbegnlimepaaGreatDoor
namespace Go.Proofs.YtadjbegnlimepaaGreatDoor
open Go.Abs
set_option maxRecDepth 100000
attribute [local irreducible] L Code.wp bodyPost Exit.then Exit.inBlock unr
set_option linter.unusedVariables false
set_option linter.unusedSimpArgs false
end Go.Proofs.YtadjbegnlimepaaGreatDoor
namespace Go.Proofs.YtadjbegnlimepaaGreatDoor
open Go.Abs
set_option maxRecDepth 100000
attribute [local irreducible] L Code.wp bodyPost Exit.then Exit.inBlock unr
set_option linter.unusedVariables false
set_option linter.unusedSimpArgs false
end Go.Proofs.YtadjbegnlimepaaGreatDoor
namespace Go.Proofs.YtadjbegnlimepaaGreatDoor
open Go.Abs
set_option linter.unusedVariables false
set_option linter.unusedSimpArgs false
section
variable {a b:List Pr}{k v w:Str}(ha: ∀x∈a,x.1<k)(hb: ∀x∈b,k<x.1)
include ha hb
end
theorem get_split{α:Type}{l:List α}{p:Nat}{x:α}(h:l[p]?=some x):l=l.take p++x::l.drop (p+1):=by
 conv=>lhs;rw[←List.take_append_drop p l,dropC h]
theorem flat_at{ps:List Pg}{p:Nat}{x:Pg}(h:ps[p]?=some x):flatP ps=flatP (ps.take p)++(x.prs++flatP (ps.drop (p+1))):=by
 conv=>lhs;rw[get_split h]
 rw[flatP_append];rfl
end Go.Proofs.YtadjbegnlimepaaGreatDoor
