/- Several texts in one, each with its own sentence ahead of it. Conditions: each one says its own. -/
import Derived.Test.YthkobnpogigkiaaDoorZSchemaTypes3
import Derived.Test.YthkobnpogigkiaaDoorChecked
import Derived.KernelRfl
import Derived.Test.YthkobnpogigkiaaDoorRows
/- Closed facts on the types and functions of this seat, by program off the translation. Conditions: none. -/
namespace Go.Proofs.YthkobnpogigkiaaDoor
open Go Go.Abs
set_option maxRecDepth 100000
instance : VarTy Tryd.prog 3 false 1 := ⟨by kernel_rfl⟩
instance : ZeroTy Tryd.prog 3 [.int .i64 0] := ⟨by kernel_rfl⟩
instance : IntTy Tryd.prog 3 .i64 := ⟨by kernel_rfl⟩
instance : VarTy Tryd.prog 4 false 1 := ⟨by kernel_rfl⟩
instance : VarTy Tryd.prog 9 false 1 := ⟨by kernel_rfl⟩
instance : ZeroTy Tryd.prog 9 [.string ⟨#[]⟩] := ⟨by kernel_rfl⟩
instance : StrTy Tryd.prog 9 := ⟨by kernel_rfl⟩
instance : VarTy Tryd.prog 22 false 1 := ⟨by kernel_rfl⟩
instance : SliceTy Tryd.prog 22 43 2 := ⟨by kernel_rfl⟩
instance : VarTy Tryd.prog 23 false 1 := ⟨by kernel_rfl⟩
instance : SliceTy Tryd.prog 23 81 3 := ⟨by kernel_rfl⟩
instance : VarTy Tryd.prog 25 true 2 := ⟨by kernel_rfl⟩
instance : ZeroTy Tryd.prog 25 [.slice none 0 0, .slice none 0 0] := ⟨by kernel_rfl⟩
instance : FieldTy Tryd.prog 25 0 0 := ⟨by kernel_rfl⟩
instance : FieldTy Tryd.prog 25 1 1 := ⟨by kernel_rfl⟩
instance : PlacesTy Tryd.prog 25 [(0, 1), (1, 1)] := ⟨by kernel_rfl⟩
instance : VarTy Tryd.prog 26 false 1 := ⟨by kernel_rfl⟩
instance : SliceTy Tryd.prog 26 53 3 := ⟨by kernel_rfl⟩
instance : VarTy Tryd.prog 27 false 1 := ⟨by kernel_rfl⟩
instance : SliceTy Tryd.prog 27 30 1 := ⟨by kernel_rfl⟩
instance : AppTy Tryd.prog 27 30 1 24 := ⟨by kernel_rfl⟩
instance : VarTy Tryd.prog 28 false 1 := ⟨by kernel_rfl⟩
instance : SliceTy Tryd.prog 28 48 9 := ⟨by kernel_rfl⟩
instance : AppTy Tryd.prog 28 48 9 120 := ⟨by kernel_rfl⟩
instance : VarTy Tryd.prog 29 false 1 := ⟨by kernel_rfl⟩
instance : SliceTy Tryd.prog 29 9 1 := ⟨by kernel_rfl⟩
instance : VarTy Tryd.prog 30 false 1 := ⟨by kernel_rfl⟩
instance : ZeroTy Tryd.prog 30 [.slice none 0 0] := ⟨by kernel_rfl⟩
instance : SliceTy Tryd.prog 30 34 8 := ⟨by kernel_rfl⟩
instance : AppTy Tryd.prog 30 34 8 104 := ⟨by kernel_rfl⟩
instance : RowTy Tryd.prog 30 34 8 104 := ⟨by kernel_rfl⟩
instance : VarTy Tryd.prog 32 true 3 := ⟨by kernel_rfl⟩
instance : ZeroTy Tryd.prog 32 [.int .i64 0, .int .i64 0, .string ⟨#[]⟩] := ⟨by kernel_rfl⟩
instance : FieldTy Tryd.prog 32 0 0 := ⟨by kernel_rfl⟩
instance : FieldTy Tryd.prog 32 1 1 := ⟨by kernel_rfl⟩
instance : FieldTy Tryd.prog 32 2 2 := ⟨by kernel_rfl⟩
instance : PlacesTy Tryd.prog 32 [(0, 1), (1, 1), (2, 1)] := ⟨by kernel_rfl⟩
instance : EqTy Tryd.prog 32 [1, 1, 3] := ⟨by kernel_rfl⟩
instance : VarTy Tryd.prog 34 true 8 := ⟨by kernel_rfl⟩
instance : ZeroTy Tryd.prog 34 [.int .i64 0, .int .i64 0, .int .i64 0, .string ⟨#[]⟩, .string ⟨#[]⟩, .string ⟨#[]⟩, .int .i64 0, .slice none 0 0] := ⟨by kernel_rfl⟩
instance : FieldTy Tryd.prog 34 0 0 := ⟨by kernel_rfl⟩
instance : FieldTy Tryd.prog 34 1 1 := ⟨by kernel_rfl⟩
instance : FieldTy Tryd.prog 34 2 4 := ⟨by kernel_rfl⟩
instance : FieldTy Tryd.prog 34 3 5 := ⟨by kernel_rfl⟩
instance : FieldTy Tryd.prog 34 4 6 := ⟨by kernel_rfl⟩
instance : FieldTy Tryd.prog 34 5 7 := ⟨by kernel_rfl⟩
instance : PlacesTy Tryd.prog 34 [(0, 1), (1, 3), (4, 1), (5, 1), (6, 1), (7, 1)] := ⟨by kernel_rfl⟩
instance : VarTy Tryd.prog 36 true 20 := ⟨by kernel_rfl⟩
instance : ZeroTy Tryd.prog 36 [.int .i64 0, .string ⟨#[]⟩, .string ⟨#[]⟩, .string ⟨#[]⟩, .slice none 0 0, .slice none 0 0, .slice none 0 0, .slice none 0 0, .slice none 0 0, .int .i64 0, .int .i64 0, .int .i64 0, .string ⟨#[]⟩, .string ⟨#[]⟩, .string ⟨#[]⟩, .int .i64 0, .slice none 0 0, .slice none 0 0, .bool false, .int .i64 0] := ⟨by kernel_rfl⟩
instance : FieldTy Tryd.prog 36 0 0 := ⟨by kernel_rfl⟩
instance : FieldTy Tryd.prog 36 1 1 := ⟨by kernel_rfl⟩
instance : FieldTy Tryd.prog 36 2 2 := ⟨by kernel_rfl⟩
instance : FieldTy Tryd.prog 36 3 3 := ⟨by kernel_rfl⟩
instance : FieldTy Tryd.prog 36 4 4 := ⟨by kernel_rfl⟩
instance : FieldTy Tryd.prog 36 5 5 := ⟨by kernel_rfl⟩
instance : FieldTy Tryd.prog 36 6 6 := ⟨by kernel_rfl⟩
instance : FieldTy Tryd.prog 36 7 7 := ⟨by kernel_rfl⟩
instance : FieldTy Tryd.prog 36 8 8 := ⟨by kernel_rfl⟩
instance : FieldTy Tryd.prog 36 9 9 := ⟨by kernel_rfl⟩
instance : FieldTy Tryd.prog 36 10 17 := ⟨by kernel_rfl⟩
instance : PlacesTy Tryd.prog 36 [(0, 1), (1, 1), (2, 1), (3, 1), (4, 1), (5, 1), (6, 1), (7, 1), (8, 1), (9, 8), (17, 1), (18, 1), (19, 1)] := ⟨by kernel_rfl⟩
instance : SliceTy Tryd.prog 37 32 3 := ⟨by kernel_rfl⟩
instance : AppTy Tryd.prog 37 32 3 32 := ⟨by kernel_rfl⟩
instance : VarTy Tryd.prog 43 true 2 := ⟨by kernel_rfl⟩
instance : ZeroTy Tryd.prog 43 [.string ⟨#[]⟩, .slice none 0 0] := ⟨by kernel_rfl⟩
instance : FieldTy Tryd.prog 43 0 0 := ⟨by kernel_rfl⟩
instance : FieldTy Tryd.prog 43 1 1 := ⟨by kernel_rfl⟩
instance : PlacesTy Tryd.prog 43 [(0, 1), (1, 1)] := ⟨by kernel_rfl⟩
instance : VarTy Tryd.prog 48 true 9 := ⟨by kernel_rfl⟩
instance : ZeroTy Tryd.prog 48 [.string ⟨#[]⟩, .int .i64 0, .int .i64 0, .int .i64 0, .string ⟨#[]⟩, .string ⟨#[]⟩, .string ⟨#[]⟩, .int .i64 0, .slice none 0 0] := ⟨by kernel_rfl⟩
instance : FieldTy Tryd.prog 48 0 0 := ⟨by kernel_rfl⟩
instance : FieldTy Tryd.prog 48 1 1 := ⟨by kernel_rfl⟩
instance : PlacesTy Tryd.prog 48 [(0, 1), (1, 8)] := ⟨by kernel_rfl⟩
instance : VarTy Tryd.prog 53 true 3 := ⟨by kernel_rfl⟩
instance : ZeroTy Tryd.prog 53 [.string ⟨#[]⟩, .int .i64 0, .bool false] := ⟨by kernel_rfl⟩
instance : FieldTy Tryd.prog 53 0 0 := ⟨by kernel_rfl⟩
instance : FieldTy Tryd.prog 53 1 1 := ⟨by kernel_rfl⟩
instance : FieldTy Tryd.prog 53 2 2 := ⟨by kernel_rfl⟩
instance : PlacesTy Tryd.prog 53 [(0, 1), (1, 1), (2, 1)] := ⟨by kernel_rfl⟩
instance : VarTy Tryd.prog 81 true 3 := ⟨by kernel_rfl⟩
instance : ZeroTy Tryd.prog 81 [.string ⟨#[]⟩, .string ⟨#[]⟩, .string ⟨#[]⟩] := ⟨by kernel_rfl⟩
instance : FieldTy Tryd.prog 81 0 0 := ⟨by kernel_rfl⟩
instance : FieldTy Tryd.prog 81 1 1 := ⟨by kernel_rfl⟩
instance : FieldTy Tryd.prog 81 2 2 := ⟨by kernel_rfl⟩
instance : SliceTy Tryd.prog 143 43 2 := ⟨by kernel_rfl⟩
instance : AppTy Tryd.prog 143 43 2 40 := ⟨by kernel_rfl⟩
instance : VarTy Tryd.prog 158 false 1 := ⟨by kernel_rfl⟩
instance : ZeroTy Tryd.prog 158 [.slice none 0 0] := ⟨by kernel_rfl⟩
instance : SliceTy Tryd.prog 158 3 1 := ⟨by kernel_rfl⟩
instance : AppTy Tryd.prog 158 3 1 8 := ⟨by kernel_rfl⟩
instance : MixTy Tryd.prog := ⟨by kernel_rfl⟩
instance : CallTy Tryd.prog 8 := ⟨by kernel_rfl⟩ -- askance/schema.Bind
instance : CallTy Tryd.prog 9 := ⟨by kernel_rfl⟩ -- askance/askancekeep.schemas
instance : CallTy Tryd.prog 10 := ⟨by kernel_rfl⟩ -- askance/schema.FindTable
instance : CallTy Tryd.prog 11 := ⟨by kernel_rfl⟩ -- askance/askancekeep.fits
instance : CallTy Tryd.prog 12 := ⟨by kernel_rfl⟩ -- askance/schema.FindCol
instance : CallTy Tryd.prog 13 := ⟨by kernel_rfl⟩ -- askance/eval.Eval
instance : CallTy Tryd.prog 14 := ⟨by kernel_rfl⟩ -- askance/value.Good
instance : CallTy Tryd.prog 16 := ⟨by kernel_rfl⟩ -- askance/schema.Good
instance : CallTy Tryd.prog 22 := ⟨by kernel_rfl⟩ -- askance/value.Compare
instance : CallTy Tryd.prog 40 := ⟨by kernel_rfl⟩ -- askance/eval.Of
instance : CallTy Tryd.prog 41 := ⟨by kernel_rfl⟩ -- slices.ContainsFunc[[]askance/api.Expr,askance/api.Expr]
instance : CallTy Tryd.prog 42 := ⟨by kernel_rfl⟩ -- askance/schema.exprs
instance : CallTy Tryd.prog 43 := ⟨by kernel_rfl⟩ -- askance/schema.Bind$1
instance : CallTy Tryd.prog 44 := ⟨by kernel_rfl⟩ -- askance/schema.GoodExpr
instance : CallTy Tryd.prog 45 := ⟨by kernel_rfl⟩ -- askance/schema.GoodTable
instance : CallTy Tryd.prog 46 := ⟨by kernel_rfl⟩ -- askance/syntax.Named
instance : CallTy Tryd.prog 47 := ⟨by kernel_rfl⟩ -- slices.ContainsFunc[[]askance/api.Index,askance/api.Index]
instance : CallTy Tryd.prog 48 := ⟨by kernel_rfl⟩ -- askance/schema.Bind$2
instance : CallTy Tryd.prog 49 := ⟨by kernel_rfl⟩ -- askance/schema.change
instance : CallTy Tryd.prog 50 := ⟨by kernel_rfl⟩ -- askance/schema.choose
instance : CallTy Tryd.prog 51 := ⟨by kernel_rfl⟩ -- slices.IndexFunc[[]askance/api.Col,askance/api.Col]
instance : CallTy Tryd.prog 52 := ⟨by kernel_rfl⟩ -- askance/schema.FindCol$1
instance : CallTy Tryd.prog 53 := ⟨by kernel_rfl⟩ -- askance/eval.Truth
instance : CallTy Tryd.prog 54 := ⟨by kernel_rfl⟩ -- askance/value.Not
instance : CallTy Tryd.prog 55 := ⟨by kernel_rfl⟩ -- askance/eval.num
instance : CallTy Tryd.prog 56 := ⟨by kernel_rfl⟩ -- askance/eval.two
instance : CallTy Tryd.prog 76 := ⟨by kernel_rfl⟩ -- cmp.Or[int]
instance : CallTy Tryd.prog 77 := ⟨by kernel_rfl⟩ -- cmp.Compare[int]
instance : CallTy Tryd.prog 78 := ⟨by kernel_rfl⟩ -- cmp.Compare[string]
instance : CallTy Tryd.prog 86 := ⟨by kernel_rfl⟩ -- slices.IndexFunc[[]askance/api.Expr,askance/api.Expr]
instance : CallTy Tryd.prog 87 := ⟨by kernel_rfl⟩ -- slices.Concat[[]askance/api.Expr,askance/api.Expr]
instance : CallTy Tryd.prog 88 := ⟨by kernel_rfl⟩ -- askance/schema.GoodExpr$1
instance : CallTy Tryd.prog 89 := ⟨by kernel_rfl⟩ -- slices.Contains[[]string,string]
instance : CallTy Tryd.prog 90 := ⟨by kernel_rfl⟩ -- slices.IndexFunc[[]askance/api.Index,askance/api.Index]
instance : CallTy Tryd.prog 91 := ⟨by kernel_rfl⟩ -- (askance/schema.scope).must
instance : CallTy Tryd.prog 92 := ⟨by kernel_rfl⟩ -- slices.ContainsFunc[[]askance/api.Set,askance/api.Set]
instance : CallTy Tryd.prog 93 := ⟨by kernel_rfl⟩ -- askance/schema.change$1
instance : CallTy Tryd.prog 94 := ⟨by kernel_rfl⟩ -- (askance/schema.scope).where
instance : CallTy Tryd.prog 95 := ⟨by kernel_rfl⟩ -- (askance/schema.scope).bind
instance : CallTy Tryd.prog 96 := ⟨by kernel_rfl⟩ -- askance/value.And
instance : CallTy Tryd.prog 97 := ⟨by kernel_rfl⟩ -- askance/value.Or
instance : CallTy Tryd.prog 105 := ⟨by kernel_rfl⟩ -- cmp.isNaN[int]
instance : CallTy Tryd.prog 106 := ⟨by kernel_rfl⟩ -- cmp.isNaN[string]
instance : CallTy Tryd.prog 118 := ⟨by kernel_rfl⟩ -- slices.Grow[[]askance/api.Expr,askance/api.Expr]
instance : CallTy Tryd.prog 119 := ⟨by kernel_rfl⟩ -- slices.Index[[]string,string]
instance : CallTy Tryd.prog 120 := ⟨by kernel_rfl⟩ -- slices.IndexFunc[[]askance/api.Set,askance/api.Set]
instance : CallTy Tryd.prog 121 := ⟨by kernel_rfl⟩ -- (askance/schema.scope).bind$1
instance : CallTy Tryd.prog 122 := ⟨by kernel_rfl⟩ -- slices.ContainsFunc[[]int,int]
instance : CallTy Tryd.prog 123 := ⟨by kernel_rfl⟩ -- (askance/schema.scope).bind$1$1
instance : CallTy Tryd.prog 124 := ⟨by kernel_rfl⟩ -- (askance/schema.scope).find
instance : CallTy Tryd.prog 142 := ⟨by kernel_rfl⟩ -- slices.IndexFunc[[]int,int]
end Go.Proofs.YthkobnpogigkiaaDoor
/- What comes in, as the model's values: the book of the seat's types, and sizes. Conditions: none. -/
namespace Go.Proofs.YthkobnpogigkiaaDoor
open Go.Abs
set_option linter.unusedVariables false
set_option maxRecDepth 100000
theorem bulk_all {H : Type} : ∀ (ds : List (DataW H)), bulkAll Rows.uptoBulk ds = Rows.uptoBulkAll ds
  | [] => rfl
  | d :: ds => by
    have := bulk_all ds
    simp only [bulkAll, List.map_cons, List.foldr_cons, Rows.uptoBulkAll] at this ⊢
    omega
theorem bulk {H : Type} : Bulk (H := H) Rows.uptoBulk where
  str s := by simp [Rows.uptoBulk]
  lit l := by cases l <;> simp [Rows.uptoBulk]
  nil := by simp [Rows.uptoBulk]
  slice es sp := by rw [bulk_all]; simp only [Rows.uptoBulk]; omega
  agg es := by rw [bulk_all]; simp only [Rows.uptoBulk]; omega
def book : Book := [(3, 8, [.int .i64]), (5, 1, [.int .u8]), (9, 16, [.str]), (29, 24, [.sl 9]), (30, 24, [.sl 34]), (32, 32, [.int .i64, .int .i64, .str]), (34, 104, [.int .i64, .int .i64, .int .i64, .str, .str, .str, .int .i64, .sl 34]), (37, 24, [.sl 32]), (43, 40, [.str, .sl 53]), (48, 120, [.str, .int .i64, .int .i64, .int .i64, .str, .str, .str, .int .i64, .sl 34]), (53, 32, [.str, .int .i64, .bool]), (77, 32, [.str, .str]), (81, 48, [.str, .str, .str]), (127, 48, [.sl 9, .sl 9])]
theorem book_ok : book.ok Tryd.prog = true := by kernel_rfl
theorem sz_pos (x : IV) : 1 ≤ x.sz := by
  cases x with
  | im v => cases v <;> simp [IV.sz]
  | sl es => simp [IV.sz]
theorem szs_pos {e : List IV} (h : 0 < e.length) : 1 ≤ szs e := by
  cases e with
  | nil => simp at h
  | cons x e => have := sz_pos x; simp only [szs]; omega
theorem szss_len : ∀ {es : List (List IV)}, (∀ e ∈ es, 0 < e.length) → es.length ≤ szss es
  | [], _ => by simp [szss]
  | e :: es, h => by
    have := szs_pos (h e (by simp))
    have := szss_len (es := es) (fun e he => h e (by simp [he]))
    simp only [szss, List.length_cons]; omega
end Go.Proofs.YthkobnpogigkiaaDoor
/- Values: what the small functions of package value compute. Conditions: none. -/
namespace Go.Proofs.YthkobnpogigkiaaDoor
open Go.Abs
set_option maxRecDepth 100000
attribute [local irreducible] L Code.wp bodyPost Exit.then Exit.inBlock
set_option linter.unusedVariables false
set_option linter.unusedSimpArgs false
def andM (a b : Int) : Int := if a = 0 ∨ b = 0 then 0 else if a = 1 ∧ b = 1 then 1 else 2
def notM (a : Int) : Int := if a = 0 ∨ a = 1 then 1 - a else 2
def orM (a b : Int) : Int := notM (andM (notM a) (notM b))
theorem and_any (a b : Int) : CallA Tryd.prog 96 [aI a, aI b] [] [] [] (aI (andM a b)) := by
  refine CallA.intro 19 Tryd.func96 rfl rfl rfl (fun w0 E0 => ?_)
  (repeat' (first | (refine LW.is ?_; first | refine s_v ?_ | refine s_m ?_ | refine s_nil ?_ | refine s_gd ?_ | (refine s_gsplit rfl rfl rfl (fun hb => ?_) (fun hb => ?_) <;> refine fct hb (fun hp => ?_))) | (refine DR.is ?_; first | refine d_v ?_ | refine d_m ?_ | (apply d_nil; kernel_rfl) | refine d_gd ?_ | (refine d_gsplit rfl rfl rfl (fun hb => ?_) (fun hb => ?_) <;> refine fct hb (fun hp => ?_))) | refine c_go ?_ | refine s_region ?_ | refine d_region ?_ | (refine L.cond rfl (fun hb => ?_) (fun hb => ?_) <;> refine fct hb (fun hp => ?_))))
  all_goals (first | (apply L.ends1; exact rfl; exact rfl; exact rfl) | (apply L.ends2; exact rfl; exact rfl; exact rfl) | (apply L.ends3; exact rfl; exact rfl; exact rfl) | (apply L.ends1A; exact rfl; exact rfl; exact rfl) | (apply L.ends2A; exact rfl; exact rfl; exact rfl))
  all_goals simp [resOf, andM, *]
theorem not_any (a : Int) : CallA Tryd.prog 54 [aI a] [] [] [] (aI (notM a)) := by
  refine CallA.intro 11 Tryd.func54 rfl rfl rfl (fun w0 E0 => ?_)
  (repeat' (first | (refine LW.is ?_; first | refine s_v ?_ | refine s_m ?_ | refine s_nil ?_ | refine s_gd ?_ | (refine s_gsplit rfl rfl rfl (fun hb => ?_) (fun hb => ?_) <;> refine fct hb (fun hp => ?_))) | (refine DR.is ?_; first | refine d_v ?_ | refine d_m ?_ | (apply d_nil; kernel_rfl) | refine d_gd ?_ | (refine d_gsplit rfl rfl rfl (fun hb => ?_) (fun hb => ?_) <;> refine fct hb (fun hp => ?_))) | refine c_go ?_ | refine s_region ?_ | refine d_region ?_ | (refine L.cond rfl (fun hb => ?_) (fun hb => ?_) <;> refine fct hb (fun hp => ?_))))
  all_goals (first | (apply L.ends1; exact rfl; exact rfl; exact rfl) | (apply L.ends2; exact rfl; exact rfl; exact rfl) | (apply L.ends3; exact rfl; exact rfl; exact rfl) | (apply L.ends1A; exact rfl; exact rfl; exact rfl) | (apply L.ends2A; exact rfl; exact rfl; exact rfl))
  all_goals simp [resOf, notM, *]
end Go.Proofs.YthkobnpogigkiaaDoor
/- Values: what Good computes. Conditions: none. -/
namespace Go.Proofs.YthkobnpogigkiaaDoor
open Go.Abs
set_option maxRecDepth 100000
attribute [local irreducible] L Code.wp bodyPost Exit.then Exit.inBlock
set_option linter.unusedVariables false
set_option linter.unusedSimpArgs false
structure Val where
  k : Int
  n : Int
  s : List UInt8
def Val.c (v : Val) : List IV := [I v.k, I v.n, S v.s]
def charOk (b : UInt8) : Bool := 32 ≤ b.toNat && b.toNat ≤ 126 && b.toNat != 39
def goodM (v : Val) : Bool :=
  if v.k = 0 then v.n == 0 && v.s == []
  else if v.k = 1 then v.s == [] && (-1000000 ≤ v.n && v.n ≤ 1000000)
  else if v.k = 2 then v.n == 0 && (v.s.length ≤ 8 && v.s.all charOk)
  else false
theorem good_any (v : Val) : CallA Tryd.prog 14 [.agg (v.c.map .iv)] [] [] [] (aB (goodM v)) := by
  obtain ⟨k, n, s⟩ := v
  refine CallA.intro 63 Tryd.func14 rfl rfl rfl (fun w0 E0 => ?_)
  (repeat' (first | (refine LW.is ?_; first | refine s_v ?_ | refine s_m ?_ | refine s_nil ?_ | refine s_gd ?_ | (refine s_gsplit rfl rfl rfl (fun hb => ?_) (fun hb => ?_) <;> refine fct hb (fun hp => ?_))) | (refine DR.is ?_; first | refine d_v ?_ | refine d_m ?_ | (apply d_nil; kernel_rfl) | refine d_gd ?_ | (refine d_gsplit rfl rfl rfl (fun hb => ?_) (fun hb => ?_) <;> refine fct hb (fun hp => ?_))) | refine c_go ?_ | refine s_region ?_ | refine d_region ?_ | (refine L.cond rfl (fun hb => ?_) (fun hb => ?_) <;> refine fct hb (fun hp => ?_))))
  all_goals try (first | (apply L.ends1; exact rfl; exact rfl; exact rfl) | (apply L.ends2; exact rfl; exact rfl; exact rfl) | (apply L.ends3; exact rfl; exact rfl; exact rfl) | (apply L.ends1A; exact rfl; exact rfl; exact rfl) | (apply L.ends2A; exact rfl; exact rfl; exact rfl))
  all_goals try (simp [goodM, *]; done)
  all_goals try (simp [goodM, *]; intros; omega)
  rename_i hk0 hk0' hk1 hk1' hk2 hk2' hn hn'
  subst hk2'; subst hn'
  have hg : goodM ⟨2, 0, s⟩ = s.all charOk := by simp [goodM]; omega
  rw [hg]
  refine L.loopP (ι := Nat) (fun i => ⟨[(40, aI (i : Int)), (39, aI (s.length : Int)), (1, .ptr 1 0)], [(1, ⟨32, .l [.iv (I 2), .iv (I 0), .iv (S s)]⟩)], []⟩) (fun i => s.length - i) (fun i => s.all charOk = (s.drop i).all charOk) (i0 := 0) ?_ rfl ?_
  · (refine Wk.mk' (by intro id h; cases h) ?_ ?_ ?_ <;> repeat' (first | exact WkF.nil | exact WkB.nil | exact WkT.nil | (refine WkF.cons rfl (Sub.refl _) ?_) | (refine WkB.cons rfl rfl (Subs.refl _) ?_) | (refine WkT.cons rfl ?_)))
  intro i hi K hK
  cases hv : s[i]? with
  | none =>
    have hlt := ltF hv
    (repeat' (first | (refine LW.is ?_; first | refine s_v ?_ | refine s_m ?_ | refine s_nil ?_ | refine s_gd ?_ | (refine s_gsplit rfl rfl rfl (fun hb => ?_) (fun hb => ?_) <;> refine fct hb (fun hp => ?_))) | (refine DR.is ?_; first | refine d_v ?_ | refine d_m ?_ | (apply d_nil; kernel_rfl) | refine d_gd ?_ | (refine d_gsplit rfl rfl rfl (fun hb => ?_) (fun hb => ?_) <;> refine fct hb (fun hp => ?_))) | refine c_go ?_ | refine s_region ?_ | refine d_region ?_ | (refine L.cond rfl (fun hb => ?_) (fun hb => ?_) <;> refine fct hb (fun hp => ?_))))
    all_goals (first | (apply L.ends1; exact rfl; exact rfl; exact rfl) | (apply L.ends2; exact rfl; exact rfl; exact rfl) | (apply L.ends3; exact rfl; exact rfl; exact rfl) | (apply L.ends1A; exact rfl; exact rfl; exact rfl) | (apply L.ends2A; exact rfl; exact rfl; exact rfl))
    rw [hi, dropN hv]; rfl
  | some b =>
    have hlt := ltT hv
    have hlt' := ltN hv
    rw [dropC hv, List.all_cons] at hi
    (repeat' (first | (refine LW.is ?_; first | refine s_v ?_ | refine s_m ?_ | refine s_nil ?_ | refine s_gd ?_ | (refine s_gsplit rfl rfl rfl (fun hb => ?_) (fun hb => ?_) <;> refine fct hb (fun hp => ?_))) | (refine DR.is ?_; first | refine d_v ?_ | refine d_m ?_ | (apply d_nil; kernel_rfl) | refine d_gd ?_ | (refine d_gsplit rfl rfl rfl (fun hb => ?_) (fun hb => ?_) <;> refine fct hb (fun hp => ?_))) | refine c_go ?_ | refine s_region ?_ | refine d_region ?_ | (refine L.cond rfl (fun hb => ?_) (fun hb => ?_) <;> refine fct hb (fun hp => ?_))))
    all_goals try (first | (apply L.ends1; exact rfl; exact rfl; exact rfl) | (apply L.ends2; exact rfl; exact rfl; exact rfl) | (apply L.ends3; exact rfl; exact rfl; exact rfl) | (apply L.ends1A; exact rfl; exact rfl; exact rfl) | (apply L.ends2A; exact rfl; exact rfl; exact rfl))
    all_goals try (rw [hi]; simp [charOk, *]; done)
    all_goals try (rw [hi]; simp [charOk, *]; intros; omega)
    refine hK _ (i + 1) ?_ (by omega) ?_
    · have h1 : charOk b = true := by
        simp [charOk]; omega
      rw [hi, h1]; rfl
    · (refine Wk.mk' (by intro id h; cases h) ?_ ?_ ?_ <;> repeat' (first | exact WkF.nil | exact WkB.nil | exact WkT.nil | (refine WkF.cons rfl (Sub.refl _) ?_) | (refine WkB.cons rfl rfl (Subs.refl _) ?_) | (refine WkT.cons rfl ?_)))
end Go.Proofs.YthkobnpogigkiaaDoor
/- Values: what Key computes. Conditions: the values are not more than a slice may have. -/
namespace Go.Proofs.YthkobnpogigkiaaDoor
open Go.Abs
set_option maxRecDepth 100000
attribute [local irreducible] L Code.wp bodyPost Exit.then Exit.inBlock
set_option linter.unusedVariables false
set_option linter.unusedSimpArgs false
theorem goodM_bounds {v : Val} (h : goodM v = true) : 0 ≤ v.k ∧ v.k ≤ 2 ∧ -1000000 ≤ v.n ∧ v.n ≤ 1000000 ∧ v.s.length ≤ 8 := by
  unfold goodM at h
  split at h
  · simp at h; simp [h]; omega
  · split at h
    · simp at h; simp [h]; omega
    · split at h
      · simp at h; simp [h]; omega
      · cases h
end Go.Proofs.YthkobnpogigkiaaDoor
/- Values: what Values computes, of texts that are not longer than a slice may be. Conditions: that bound. -/
namespace Go.Proofs.YthkobnpogigkiaaDoor
open Go.Abs
set_option maxRecDepth 100000
attribute [local irreducible] L Code.wp bodyPost Exit.then Exit.inBlock
set_option linter.unusedVariables false
set_option linter.unusedSimpArgs false
section
variable {s : List UInt8} {acc : List Val} {b : UInt8} {r r' : List UInt8} {v : Val}
end
end Go.Proofs.YthkobnpogigkiaaDoor
/- Values: 'values' answers true; the law ValueTruths answers true. Conditions: none. -/
namespace Go.Proofs.YthkobnpogigkiaaDoor
open Go.Abs
set_option maxRecDepth 100000
attribute [local irreducible] L Code.wp bodyPost Exit.then Exit.inBlock
set_option linter.unusedVariables false
set_option linter.unusedSimpArgs false
theorem or_any (a b : Int) : CallA Tryd.prog 97 [aI a, aI b] [] [] [] (aI (orM a b)) := by
  refine CallA.intro _ Tryd.func97 rfl Tryd.ntmps97 rfl (fun w0 E0 => ?_)
  (repeat' (first | (refine LW.is ?_; first | (apply s_call0; exact rfl; exact not_any a; exact rfl; exact rfl) | (apply s_call0; exact rfl; exact not_any b; exact rfl; exact rfl) | (apply s_call0; exact rfl; exact and_any (notM a) (notM b); exact rfl; exact rfl) | (apply s_call0; exact rfl; exact not_any (andM (notM a) (notM b)); exact rfl; exact rfl) | refine s_v ?_ | refine s_m ?_ | refine s_nil ?_ | refine s_gd ?_ | (refine s_gsplit rfl rfl rfl (fun hb => ?_) (fun hb => ?_) <;> refine fct hb (fun hp => ?_))) | (refine DR.is ?_; first | (apply d_call0; exact rfl; exact not_any a; exact rfl; exact rfl) | (apply d_call0; exact rfl; exact not_any b; exact rfl; exact rfl) | (apply d_call0; exact rfl; exact and_any (notM a) (notM b); exact rfl; exact rfl) | (apply d_call0; exact rfl; exact not_any (andM (notM a) (notM b)); exact rfl; exact rfl) | refine d_v ?_ | refine d_m ?_ | (apply d_nil; kernel_rfl) | refine d_gd ?_ | (refine d_gsplit rfl rfl rfl (fun hb => ?_) (fun hb => ?_) <;> refine fct hb (fun hp => ?_))) | refine c_go ?_ | refine s_region ?_ | refine d_region ?_ | (refine L.cond rfl (fun hb => ?_) (fun hb => ?_) <;> refine fct hb (fun hp => ?_))))
  all_goals (first | (apply L.ends1; exact rfl; exact rfl; exact rfl) | (apply L.ends2; exact rfl; exact rfl; exact rfl) | (apply L.ends3; exact rfl; exact rfl; exact rfl) | (apply L.ends1A; exact rfl; exact rfl; exact rfl) | (apply L.ends2A; exact rfl; exact rfl; exact rfl))
  rfl
end Go.Proofs.YthkobnpogigkiaaDoor
/- Values, plain laws: a key leads back to its values, and values to their key. Conditions: none. -/
namespace Go.Proofs.YthkobnpogigkiaaDoor
open Go.Abs
set_option linter.unusedVariables false
set_option linter.unusedSimpArgs false
end Go.Proofs.YthkobnpogigkiaaDoor
/- Values: what 'same' computes; the law ValueBack answers true. Conditions: how much there is of what comes in. -/
namespace Go.Proofs.YthkobnpogigkiaaDoor
open Go.Abs
set_option maxRecDepth 100000
attribute [local irreducible] L Code.wp bodyPost Exit.then Exit.inBlock
set_option linter.unusedVariables false
set_option linter.unusedSimpArgs false
end Go.Proofs.YthkobnpogigkiaaDoor
/- Values: what Compare computes. Conditions: none. -/
namespace Go.Proofs.YthkobnpogigkiaaDoor
open Go.Abs
set_option maxRecDepth 100000
attribute [local irreducible] L Code.wp bodyPost Exit.then Exit.inBlock
set_option linter.unusedVariables false
set_option linter.unusedSimpArgs false
def cmpI (a b : Int) : Int := if a < b then -1 else if b < a then 1 else 0
def cmpS (a b : List UInt8) : Int := if Op.bytesLess a b then -1 else if Op.bytesLess b a then 1 else 0
def orL : List Int → Int
  | [] => 0
  | x :: l => if x = 0 then orL l else x
def cmpM (v w : Val) : Int := orL [cmpI v.k w.k, cmpI v.n w.n, cmpS v.s w.s]
def cI (n : Int) : List IV := [I n]
theorem nanI_any (a : Int) : CallA Tryd.prog 105 [aI a] [] [] [] (aB false) := by
  refine CallA.intro _ Tryd.func105 rfl Tryd.ntmps105 rfl (fun w0 E0 => ?_)
  (repeat' (first | (refine LW.is ?_; first | refine s_v ?_ | refine s_m ?_ | refine s_nil ?_ | refine s_gd ?_ | (refine s_gsplit rfl rfl rfl (fun hb => ?_) (fun hb => ?_) <;> refine fct hb (fun hp => ?_))) | (refine DR.is ?_; first | refine d_v ?_ | refine d_m ?_ | (apply d_nil; kernel_rfl) | refine d_gd ?_ | (refine d_gsplit rfl rfl rfl (fun hb => ?_) (fun hb => ?_) <;> refine fct hb (fun hp => ?_))) | refine c_go ?_ | refine s_region ?_ | refine d_region ?_ | (refine L.cond rfl (fun hb => ?_) (fun hb => ?_) <;> refine fct hb (fun hp => ?_))))
  all_goals (first | (apply L.ends1; exact rfl; exact rfl; exact rfl) | (apply L.ends2; exact rfl; exact rfl; exact rfl) | (apply L.ends3; exact rfl; exact rfl; exact rfl) | (apply L.ends1A; exact rfl; exact rfl; exact rfl) | (apply L.ends2A; exact rfl; exact rfl; exact rfl))
  all_goals simp [resOf]
theorem nanS_any (a : List UInt8) : CallA Tryd.prog 106 [aS a] [] [] [] (aB false) := by
  refine CallA.intro _ Tryd.func106 rfl Tryd.ntmps106 rfl (fun w0 E0 => ?_)
  (repeat' (first | (refine LW.is ?_; first | refine s_v ?_ | refine s_m ?_ | refine s_nil ?_ | refine s_gd ?_ | (refine s_gsplit rfl rfl rfl (fun hb => ?_) (fun hb => ?_) <;> refine fct hb (fun hp => ?_))) | (refine DR.is ?_; first | refine d_v ?_ | refine d_m ?_ | (apply d_nil; kernel_rfl) | refine d_gd ?_ | (refine d_gsplit rfl rfl rfl (fun hb => ?_) (fun hb => ?_) <;> refine fct hb (fun hp => ?_))) | refine c_go ?_ | refine s_region ?_ | refine d_region ?_ | (refine L.cond rfl (fun hb => ?_) (fun hb => ?_) <;> refine fct hb (fun hp => ?_))))
  all_goals (first | (apply L.ends1; exact rfl; exact rfl; exact rfl) | (apply L.ends2; exact rfl; exact rfl; exact rfl) | (apply L.ends3; exact rfl; exact rfl; exact rfl) | (apply L.ends1A; exact rfl; exact rfl; exact rfl) | (apply L.ends2A; exact rfl; exact rfl; exact rfl))
  all_goals simp [resOf]
theorem cmpI_any (a b : Int) : CallA Tryd.prog 77 [aI a, aI b] [] [] [] (aI (cmpI a b)) := by
  refine CallA.intro _ Tryd.func77 rfl Tryd.ntmps77 rfl (fun w0 E0 => ?_)
  (repeat' (first | (refine LW.is ?_; first | (apply s_call0; exact rfl; rotate_left; exact rfl; rotate_left 3; exact nanI_any _; exact rfl) | refine s_v ?_ | refine s_m ?_ | refine s_nil ?_ | refine s_gd ?_ | (refine s_gsplit rfl rfl rfl (fun hb => ?_) (fun hb => ?_) <;> refine fct hb (fun hp => ?_))) | (refine DR.is ?_; first | (apply d_call0; exact rfl; rotate_left; exact rfl; rotate_left 3; exact nanI_any _; exact rfl) | refine d_v ?_ | refine d_m ?_ | (apply d_nil; kernel_rfl) | refine d_gd ?_ | (refine d_gsplit rfl rfl rfl (fun hb => ?_) (fun hb => ?_) <;> refine fct hb (fun hp => ?_))) | refine c_go ?_ | refine s_region ?_ | refine d_region ?_ | (refine L.cond rfl (fun hb => ?_) (fun hb => ?_) <;> refine fct hb (fun hp => ?_))))
  all_goals (first | (apply L.ends1; exact rfl; exact rfl; exact rfl) | (apply L.ends2; exact rfl; exact rfl; exact rfl) | (apply L.ends3; exact rfl; exact rfl; exact rfl) | (apply L.ends1A; exact rfl; exact rfl; exact rfl) | (apply L.ends2A; exact rfl; exact rfl; exact rfl))
  all_goals simp only [decide_eq_true_eq, decide_eq_false_iff_not] at *
  all_goals simp [resOf, cmpI, *]
theorem less_lt : ∀ (x y : List UInt8), Op.bytesLess x y = decide (x < y) := by
  intro x
  induction x with
  | nil => intro y; cases y <;> simp [Op.bytesLess]
  | cons a x ih =>
    intro y
    cases y with
    | nil => simp [Op.bytesLess]
    | cons b y =>
      unfold Op.bytesLess
      rw [ih y, Bool.eq_iff_iff]
      simp [List.cons_lt_cons_iff]
theorem bytes_gt {a b : List UInt8} : (!(Op.bytesLess a b || a == b)) = Op.bytesLess b a := by
  rw [less_lt, less_lt]
  by_cases h : b < a
  · have h1 : ¬ a < b := List.lt_asymm h
    have h2 : a ≠ b := fun e => by subst e; exact List.lt_irrefl _ h
    simp [h, h1, h2]
  · by_cases h1 : a < b
    · simp [h, h1]
    · have : a = b := List.le_antisymm (List.not_lt.1 h) (List.not_lt.1 h1)
      simp [h, this]
theorem cmpS_any (a b : List UInt8) : CallA Tryd.prog 78 [aS a, aS b] [] [] [] (aI (cmpS a b)) := by
  refine CallA.intro _ Tryd.func78 rfl Tryd.ntmps78 rfl (fun w0 E0 => ?_)
  cases h1 : Op.bytesLess a b with
  | true =>
    (repeat' (first | (refine LW.is ?_; first | (apply s_call0; exact rfl; rotate_left; exact rfl; rotate_left 3; exact nanS_any _; exact rfl) | refine s_v ?_ | refine s_m ?_ | refine s_nil ?_ | refine s_gd ?_ | (refine s_gsplit rfl rfl rfl (fun hb => ?_) (fun hb => ?_) <;> refine fct hb (fun hp => ?_))) | (refine DR.is ?_; first | (apply d_call0; exact rfl; rotate_left; exact rfl; rotate_left 3; exact nanS_any _; exact rfl) | refine d_v ?_ | refine d_m ?_ | (apply d_nil; kernel_rfl) | refine d_gd ?_ | (refine d_gsplit rfl rfl rfl (fun hb => ?_) (fun hb => ?_) <;> refine fct hb (fun hp => ?_))) | refine c_go ?_ | refine s_region ?_ | refine d_region ?_ | (refine L.cond rfl (fun hb => ?_) (fun hb => ?_) <;> refine fct hb (fun hp => ?_))))
    all_goals (first | (apply L.ends1; exact rfl; exact rfl; exact rfl) | (apply L.ends2; exact rfl; exact rfl; exact rfl) | (apply L.ends3; exact rfl; exact rfl; exact rfl) | (apply L.ends1A; exact rfl; exact rfl; exact rfl) | (apply L.ends2A; exact rfl; exact rfl; exact rfl))
    all_goals simp [resOf, cmpS, *]
  | false =>
    have h2 : (!(Op.bytesLess a b || a == b)) = Op.bytesLess b a := bytes_gt
    cases h3 : Op.bytesLess b a with
    | true =>
      rw [h3] at h2
      (repeat' (first | (refine LW.is ?_; first | (apply s_call0; exact rfl; rotate_left; exact rfl; rotate_left 3; exact nanS_any _; exact rfl) | refine s_v ?_ | refine s_m ?_ | refine s_nil ?_ | refine s_gd ?_ | (refine s_gsplit rfl rfl rfl (fun hb => ?_) (fun hb => ?_) <;> refine fct hb (fun hp => ?_))) | (refine DR.is ?_; first | (apply d_call0; exact rfl; rotate_left; exact rfl; rotate_left 3; exact nanS_any _; exact rfl) | refine d_v ?_ | refine d_m ?_ | (apply d_nil; kernel_rfl) | refine d_gd ?_ | (refine d_gsplit rfl rfl rfl (fun hb => ?_) (fun hb => ?_) <;> refine fct hb (fun hp => ?_))) | refine c_go ?_ | refine s_region ?_ | refine d_region ?_ | (refine L.cond rfl (fun hb => ?_) (fun hb => ?_) <;> refine fct hb (fun hp => ?_))))
      all_goals (first | (apply L.ends1; exact rfl; exact rfl; exact rfl) | (apply L.ends2; exact rfl; exact rfl; exact rfl) | (apply L.ends3; exact rfl; exact rfl; exact rfl) | (apply L.ends1A; exact rfl; exact rfl; exact rfl) | (apply L.ends2A; exact rfl; exact rfl; exact rfl))
      all_goals simp [resOf, cmpS, *]
    | false =>
      rw [h3] at h2
      (repeat' (first | (refine LW.is ?_; first | (apply s_call0; exact rfl; rotate_left; exact rfl; rotate_left 3; exact nanS_any _; exact rfl) | refine s_v ?_ | refine s_m ?_ | refine s_nil ?_ | refine s_gd ?_ | (refine s_gsplit rfl rfl rfl (fun hb => ?_) (fun hb => ?_) <;> refine fct hb (fun hp => ?_))) | (refine DR.is ?_; first | (apply d_call0; exact rfl; rotate_left; exact rfl; rotate_left 3; exact nanS_any _; exact rfl) | refine d_v ?_ | refine d_m ?_ | (apply d_nil; kernel_rfl) | refine d_gd ?_ | (refine d_gsplit rfl rfl rfl (fun hb => ?_) (fun hb => ?_) <;> refine fct hb (fun hp => ?_))) | refine c_go ?_ | refine s_region ?_ | refine d_region ?_ | (refine L.cond rfl (fun hb => ?_) (fun hb => ?_) <;> refine fct hb (fun hp => ?_))))
      all_goals (first | (apply L.ends1; exact rfl; exact rfl; exact rfl) | (apply L.ends2; exact rfl; exact rfl; exact rfl) | (apply L.ends3; exact rfl; exact rfl; exact rfl) | (apply L.ends1A; exact rfl; exact rfl; exact rfl) | (apply L.ends2A; exact rfl; exact rfl; exact rfl))
      all_goals simp [resOf, cmpS, *]
theorem or3_any (vs : List Int) (hl : vs.length ≤ 1000) : CallA Tryd.prog 76 [.iv (.sl (vs.map cI))] [] [] [] (aI (orL vs)) := by
  refine CallA.intro _ Tryd.func76 rfl Tryd.ntmps76 rfl (fun w0 E0 => ?_)
  (repeat' (first | (refine LW.is ?_; first | refine s_v ?_ | refine s_m ?_ | refine s_nil ?_ | refine s_gd ?_ | (refine s_gsplit rfl rfl rfl (fun hb => ?_) (fun hb => ?_) <;> refine fct hb (fun hp => ?_))) | (refine DR.is ?_; first | refine d_v ?_ | refine d_m ?_ | (apply d_nil; kernel_rfl) | refine d_gd ?_ | (refine d_gsplit rfl rfl rfl (fun hb => ?_) (fun hb => ?_) <;> refine fct hb (fun hp => ?_))) | refine c_go ?_ | refine s_region ?_ | refine d_region ?_ | (refine L.cond rfl (fun hb => ?_) (fun hb => ?_) <;> refine fct hb (fun hp => ?_))))
  refine L.loopP (ι := Nat) (fun i => ⟨[(8, aI (i : Int)), (7, aI ((vs.map cI).length : Int)), (6, .iv (.sl (vs.map cI))), (3, aI 0)], [], []⟩) (fun i => vs.length - i) (fun i => orL vs = orL (vs.drop i)) (i0 := 0) ?_ rfl ?_
  · (refine Wk.mk' (by intro id h; cases h) ?_ ?_ ?_ <;> repeat' (first | exact WkF.nil | exact WkB.nil | exact WkT.nil | (refine WkF.cons rfl (Sub.refl _) ?_) | (refine WkB.cons rfl rfl (Subs.refl _) ?_) | (refine WkT.cons rfl ?_)))
  intro i hi K hK
  cases hv : vs[i]? with
  | none =>
    have hlt := ltF (l := vs.map cI) (getFN hv)
    (repeat' (first | (refine LW.is ?_; first | refine s_v ?_ | refine s_m ?_ | refine s_nil ?_ | refine s_gd ?_ | (refine s_gsplit rfl rfl rfl (fun hb => ?_) (fun hb => ?_) <;> refine fct hb (fun hp => ?_))) | (refine DR.is ?_; first | refine d_v ?_ | refine d_m ?_ | (apply d_nil; kernel_rfl) | refine d_gd ?_ | (refine d_gsplit rfl rfl rfl (fun hb => ?_) (fun hb => ?_) <;> refine fct hb (fun hp => ?_))) | refine c_go ?_ | refine s_region ?_ | refine d_region ?_ | (refine L.cond rfl (fun hb => ?_) (fun hb => ?_) <;> refine fct hb (fun hp => ?_))))
    all_goals (first | (apply L.ends1; exact rfl; exact rfl; exact rfl) | (apply L.ends2; exact rfl; exact rfl; exact rfl) | (apply L.ends3; exact rfl; exact rfl; exact rfl) | (apply L.ends1A; exact rfl; exact rfl; exact rfl) | (apply L.ends2A; exact rfl; exact rfl; exact rfl))
    rw [hi, dropN hv]; rfl
  | some v =>
    have hlt := ltT (l := vs.map cI) (getF hv)
    have hlt' := ltN hv
    rw [dropC hv] at hi
    cases hq : v != 0 with
    | true =>
      (repeat' (first | (refine LW.is ?_; first | refine s_v ?_ | refine s_m ?_ | refine s_nil ?_ | refine s_gd ?_ | (refine s_gsplit rfl rfl rfl (fun hb => ?_) (fun hb => ?_) <;> refine fct hb (fun hp => ?_))) | (refine DR.is ?_; first | refine d_v ?_ | refine d_m ?_ | (apply d_nil; kernel_rfl) | refine d_gd ?_ | (refine d_gsplit rfl rfl rfl (fun hb => ?_) (fun hb => ?_) <;> refine fct hb (fun hp => ?_))) | refine c_go ?_ | refine s_region ?_ | refine d_region ?_ | (refine L.cond rfl (fun hb => ?_) (fun hb => ?_) <;> refine fct hb (fun hp => ?_))))
      all_goals (first | (apply L.ends1; exact rfl; exact rfl; exact rfl) | (apply L.ends2; exact rfl; exact rfl; exact rfl) | (apply L.ends3; exact rfl; exact rfl; exact rfl) | (apply L.ends1A; exact rfl; exact rfl; exact rfl) | (apply L.ends2A; exact rfl; exact rfl; exact rfl))
      simp at hq
      simp [hi, orL, hq]
    | false =>
      (repeat' (first | (refine LW.is ?_; first | refine s_v ?_ | refine s_m ?_ | refine s_nil ?_ | refine s_gd ?_ | (refine s_gsplit rfl rfl rfl (fun hb => ?_) (fun hb => ?_) <;> refine fct hb (fun hp => ?_))) | (refine DR.is ?_; first | refine d_v ?_ | refine d_m ?_ | (apply d_nil; kernel_rfl) | refine d_gd ?_ | (refine d_gsplit rfl rfl rfl (fun hb => ?_) (fun hb => ?_) <;> refine fct hb (fun hp => ?_))) | refine c_go ?_ | refine s_region ?_ | refine d_region ?_ | (refine L.cond rfl (fun hb => ?_) (fun hb => ?_) <;> refine fct hb (fun hp => ?_))))
      refine hK _ (i + 1) ?_ (by omega) ?_
      · simp at hq
        simp [hi, orL, hq]
      · (refine Wk.mk' (by intro id h; cases h) ?_ ?_ ?_ <;> repeat' (first | exact WkF.nil | exact WkB.nil | exact WkT.nil | (refine WkF.cons rfl (Sub.refl _) ?_) | (refine WkB.cons rfl rfl (Subs.refl _) ?_) | (refine WkT.cons rfl ?_)))
theorem cmp_any (v w : Val) : CallA Tryd.prog 22 [.agg (v.c.map .iv), .agg (w.c.map .iv)] [] [] [] (aI (cmpM v w)) := by
  refine CallA.intro _ Tryd.func22 rfl Tryd.ntmps22 rfl (fun w0 E0 => ?_)
  (repeat' (first | (refine LW.is ?_; first | (apply s_call0; exact rfl; rotate_left; exact rfl; rotate_left 3; exact cmpI_any _ _; exact rfl) | (apply s_call0; exact rfl; rotate_left; exact rfl; rotate_left 3; exact cmpS_any _ _; exact rfl) | (apply s_call0; exact rfl; exact or3_any [cmpI v.k w.k, cmpI v.n w.n, cmpS v.s w.s] (by simp); exact rfl; exact rfl) | refine s_v ?_ | refine s_m ?_ | refine s_nil ?_ | refine s_gd ?_ | (refine s_gsplit rfl rfl rfl (fun hb => ?_) (fun hb => ?_) <;> refine fct hb (fun hp => ?_))) | (refine DR.is ?_; first | (apply d_call0; exact rfl; rotate_left; exact rfl; rotate_left 3; exact cmpI_any _ _; exact rfl) | (apply d_call0; exact rfl; rotate_left; exact rfl; rotate_left 3; exact cmpS_any _ _; exact rfl) | (apply d_call0; exact rfl; exact or3_any [cmpI v.k w.k, cmpI v.n w.n, cmpS v.s w.s] (by simp); exact rfl; exact rfl) | refine d_v ?_ | refine d_m ?_ | (apply d_nil; kernel_rfl) | refine d_gd ?_ | (refine d_gsplit rfl rfl rfl (fun hb => ?_) (fun hb => ?_) <;> refine fct hb (fun hp => ?_))) | refine c_go ?_ | refine s_region ?_ | refine d_region ?_ | (refine L.cond rfl (fun hb => ?_) (fun hb => ?_) <;> refine fct hb (fun hp => ?_))))
  all_goals (first | (apply L.ends1; exact rfl; exact rfl; exact rfl) | (apply L.ends2; exact rfl; exact rfl; exact rfl) | (apply L.ends3; exact rfl; exact rfl; exact rfl) | (apply L.ends1A; exact rfl; exact rfl; exact rfl) | (apply L.ends2A; exact rfl; exact rfl; exact rfl))
  all_goals rfl
end Go.Proofs.YthkobnpogigkiaaDoor
/- Expressions: what Of, Truth, num and two compute. Conditions: none. -/
namespace Go.Proofs.YthkobnpogigkiaaDoor
open Go.Abs
set_option maxRecDepth 100000
attribute [local irreducible] L Code.wp bodyPost Exit.then Exit.inBlock
set_option linter.unusedVariables false
set_option linter.unusedSimpArgs false
def nilV : Val := ⟨0, 0, []⟩
def ofM (v : Val) : Int := if v.k = 3 then v.n % 2 else 2
def truthM (n : Int) : Val := if n = 0 ∨ n = 1 then ⟨3, n, []⟩ else nilV
def numM (b : Bool) : Int := if b then 1 else 0
def sumM (op : Int) (a b : Val) : Val := let n := if op = 4 then a.n - b.n else a.n + b.n; if goodM ⟨1, n, []⟩ then ⟨1, n, []⟩ else nilV
def twoM (op : Int) (a b : Val) : Val :=
  if op = 7 then truthM (andM (ofM a) (ofM b))
  else if op = 8 then truthM (orM (ofM a) (ofM b))
  else if a.k ≠ b.k ∨ goodM a = false ∨ goodM b = false ∨ a.k = 0 then nilV
  else if op = 5 then truthM (numM (cmpM a b == 0))
  else if op = 6 then truthM (numM (decide (cmpM a b < 0)))
  else if a.k ≠ 1 ∨ (op ≠ 3 ∧ op ≠ 4) then nilV
  else sumM op a b
theorem of_any (v : Val) : CallA Tryd.prog 40 [.agg (v.c.map .iv)] [] [] [] (aI (ofM v)) := by
  refine CallA.intro _ Tryd.func40 rfl Tryd.ntmps40 rfl (fun w0 E0 => ?_)
  (repeat' (first | (refine LW.is ?_; first | refine s_v ?_ | refine s_m ?_ | refine s_nil ?_ | refine s_gd ?_ | (refine s_gsplit rfl rfl rfl (fun hb => ?_) (fun hb => ?_) <;> refine fct hb (fun hp => ?_))) | (refine DR.is ?_; first | refine d_v ?_ | refine d_m ?_ | (apply d_nil; kernel_rfl) | refine d_gd ?_ | (refine d_gsplit rfl rfl rfl (fun hb => ?_) (fun hb => ?_) <;> refine fct hb (fun hp => ?_))) | refine c_go ?_ | refine s_region ?_ | refine d_region ?_ | (refine L.cond rfl (fun hb => ?_) (fun hb => ?_) <;> refine fct hb (fun hp => ?_))))
  all_goals (first | (apply L.ends1; exact rfl; exact rfl; exact rfl) | (apply L.ends2; exact rfl; exact rfl; exact rfl) | (apply L.ends3; exact rfl; exact rfl; exact rfl) | (apply L.ends1A; exact rfl; exact rfl; exact rfl) | (apply L.ends2A; exact rfl; exact rfl; exact rfl))
  all_goals simp [ofM, resOf, *]
  have := Int.emod_nonneg v.n (b := 2) (by decide)
  have := Int.emod_lt_of_pos v.n (b := 2) (by decide)
  omega
set_option maxRecDepth 100000 in
theorem truth_any (n : Int) : CallA Tryd.prog 53 [aI n] [] [] [] (.agg ((truthM n).c.map .iv)) := by
  refine CallA.intro _ Tryd.func53 rfl Tryd.ntmps53 rfl (fun w0 E0 => ?_)
  by_cases h : n = 0 ∨ n = 1
  · have e : truthM n = ⟨3, n, []⟩ := by rw [truthM, if_pos h]
    rw [e]
    rcases h with rfl | rfl
    · (repeat' (first | (refine LW.is ?_; first | refine s_v ?_ | refine s_m ?_ | refine s_nil ?_ | refine s_gd ?_ | (refine s_gsplit rfl rfl rfl (fun hb => ?_) (fun hb => ?_) <;> refine fct hb (fun hp => ?_))) | (refine DR.is ?_; first | refine d_v ?_ | refine d_m ?_ | (apply d_nil; kernel_rfl) | refine d_gd ?_ | (refine d_gsplit rfl rfl rfl (fun hb => ?_) (fun hb => ?_) <;> refine fct hb (fun hp => ?_))) | refine c_go ?_ | refine s_region ?_ | refine d_region ?_ | (refine L.cond rfl (fun hb => ?_) (fun hb => ?_) <;> refine fct hb (fun hp => ?_))))
      all_goals (first | (apply L.ends1; exact rfl; exact rfl; exact rfl) | (apply L.ends2; exact rfl; exact rfl; exact rfl) | (apply L.ends3; exact rfl; exact rfl; exact rfl) | (apply L.ends1A; exact rfl; exact rfl; exact rfl) | (apply L.ends2A; exact rfl; exact rfl; exact rfl))
      all_goals kernel_rfl
    · (repeat' (first | (refine LW.is ?_; first | refine s_v ?_ | refine s_m ?_ | refine s_nil ?_ | refine s_gd ?_ | (refine s_gsplit rfl rfl rfl (fun hb => ?_) (fun hb => ?_) <;> refine fct hb (fun hp => ?_))) | (refine DR.is ?_; first | refine d_v ?_ | refine d_m ?_ | (apply d_nil; kernel_rfl) | refine d_gd ?_ | (refine d_gsplit rfl rfl rfl (fun hb => ?_) (fun hb => ?_) <;> refine fct hb (fun hp => ?_))) | refine c_go ?_ | refine s_region ?_ | refine d_region ?_ | (refine L.cond rfl (fun hb => ?_) (fun hb => ?_) <;> refine fct hb (fun hp => ?_))))
      all_goals (first | (apply L.ends1; exact rfl; exact rfl; exact rfl) | (apply L.ends2; exact rfl; exact rfl; exact rfl) | (apply L.ends3; exact rfl; exact rfl; exact rfl) | (apply L.ends1A; exact rfl; exact rfl; exact rfl) | (apply L.ends2A; exact rfl; exact rfl; exact rfl))
      all_goals kernel_rfl
  · have e : truthM n = nilV := by rw [truthM, if_neg h]
    rw [e]
    have h0 : (n != 0) = true := by simp; omega
    have h1 : (n != 1) = true := by simp; omega
    (repeat' (first | (refine LW.is ?_; first | refine s_v ?_ | refine s_m ?_ | refine s_nil ?_ | refine s_gd ?_ | (refine s_gsplit rfl rfl rfl (fun hb => ?_) (fun hb => ?_) <;> refine fct hb (fun hp => ?_))) | (refine DR.is ?_; first | refine d_v ?_ | refine d_m ?_ | (apply d_nil; kernel_rfl) | refine d_gd ?_ | (refine d_gsplit rfl rfl rfl (fun hb => ?_) (fun hb => ?_) <;> refine fct hb (fun hp => ?_))) | refine c_go ?_ | refine s_region ?_ | refine d_region ?_ | (refine L.cond rfl (fun hb => ?_) (fun hb => ?_) <;> refine fct hb (fun hp => ?_))))
    all_goals (first | (apply L.ends1; exact rfl; exact rfl; exact rfl) | (apply L.ends2; exact rfl; exact rfl; exact rfl) | (apply L.ends3; exact rfl; exact rfl; exact rfl) | (apply L.ends1A; exact rfl; exact rfl; exact rfl) | (apply L.ends2A; exact rfl; exact rfl; exact rfl))
    all_goals kernel_rfl
theorem num_any (b : Bool) : CallA Tryd.prog 55 [aB b] [] [] [] (aI (numM b)) := by
  refine CallA.intro _ Tryd.func55 rfl Tryd.ntmps55 rfl (fun w0 E0 => ?_)
  cases b
  · (repeat' (first | (refine LW.is ?_; first | refine s_v ?_ | refine s_m ?_ | refine s_nil ?_ | refine s_gd ?_ | (refine s_gsplit rfl rfl rfl (fun hb => ?_) (fun hb => ?_) <;> refine fct hb (fun hp => ?_))) | (refine DR.is ?_; first | refine d_v ?_ | refine d_m ?_ | (apply d_nil; kernel_rfl) | refine d_gd ?_ | (refine d_gsplit rfl rfl rfl (fun hb => ?_) (fun hb => ?_) <;> refine fct hb (fun hp => ?_))) | refine c_go ?_ | refine s_region ?_ | refine d_region ?_ | (refine L.cond rfl (fun hb => ?_) (fun hb => ?_) <;> refine fct hb (fun hp => ?_))))
    all_goals (first | (apply L.ends1; exact rfl; exact rfl; exact rfl) | (apply L.ends2; exact rfl; exact rfl; exact rfl) | (apply L.ends3; exact rfl; exact rfl; exact rfl) | (apply L.ends1A; exact rfl; exact rfl; exact rfl) | (apply L.ends2A; exact rfl; exact rfl; exact rfl))
    all_goals rfl
  · (repeat' (first | (refine LW.is ?_; first | refine s_v ?_ | refine s_m ?_ | refine s_nil ?_ | refine s_gd ?_ | (refine s_gsplit rfl rfl rfl (fun hb => ?_) (fun hb => ?_) <;> refine fct hb (fun hp => ?_))) | (refine DR.is ?_; first | refine d_v ?_ | refine d_m ?_ | (apply d_nil; kernel_rfl) | refine d_gd ?_ | (refine d_gsplit rfl rfl rfl (fun hb => ?_) (fun hb => ?_) <;> refine fct hb (fun hp => ?_))) | refine c_go ?_ | refine s_region ?_ | refine d_region ?_ | (refine L.cond rfl (fun hb => ?_) (fun hb => ?_) <;> refine fct hb (fun hp => ?_))))
    all_goals (first | (apply L.ends1; exact rfl; exact rfl; exact rfl) | (apply L.ends2; exact rfl; exact rfl; exact rfl) | (apply L.ends3; exact rfl; exact rfl; exact rfl) | (apply L.ends1A; exact rfl; exact rfl; exact rfl) | (apply L.ends2A; exact rfl; exact rfl; exact rfl))
    all_goals rfl
end Go.Proofs.YthkobnpogigkiaaDoor
/- Expressions: what two computes. Conditions: none. -/
namespace Go.Proofs.YthkobnpogigkiaaDoor
open Go.Abs
set_option maxRecDepth 100000
attribute [local irreducible] L Code.wp bodyPost Exit.then Exit.inBlock
set_option linter.unusedVariables false
set_option linter.unusedSimpArgs false
set_option maxRecDepth 100000 in
set_option maxHeartbeats 4000000 in
theorem two_any (op : Int) (a b : Val) : CallA Tryd.prog 56 [aI op, .agg (a.c.map .iv), .agg (b.c.map .iv)] [] [] [] (.agg ((twoM op a b).c.map .iv)) := by
  refine CallA.intro _ Tryd.func56 rfl Tryd.ntmps56 rfl (fun w0 E0 => ?_)
  by_cases h7 : op = 7
  · subst h7
    have e : twoM 7 a b = truthM (andM (ofM a) (ofM b)) := by simp [twoM]
    rw [e]
    (repeat' (first | (refine LW.is ?_; first | (apply s_call0; exact rfl; rotate_left; exact rfl; rotate_left 3; exact of_any a; exact rfl) | (apply s_call0; exact rfl; rotate_left; exact rfl; rotate_left 3; exact of_any b; exact rfl) | (apply s_call0; exact rfl; rotate_left; exact rfl; rotate_left 3; exact and_any _ _; exact rfl) | (apply s_call0; exact rfl; rotate_left; exact rfl; rotate_left 3; exact truth_any _; exact rfl) | refine s_v ?_ | refine s_m ?_ | refine s_nil ?_ | refine s_gd ?_ | (refine s_gsplit rfl rfl rfl (fun hb => ?_) (fun hb => ?_) <;> refine fct hb (fun hp => ?_))) | (refine DR.is ?_; first | (apply d_call0; exact rfl; rotate_left; exact rfl; rotate_left 3; exact of_any a; exact rfl) | (apply d_call0; exact rfl; rotate_left; exact rfl; rotate_left 3; exact of_any b; exact rfl) | (apply d_call0; exact rfl; rotate_left; exact rfl; rotate_left 3; exact and_any _ _; exact rfl) | (apply d_call0; exact rfl; rotate_left; exact rfl; rotate_left 3; exact truth_any _; exact rfl) | refine d_v ?_ | refine d_m ?_ | (apply d_nil; kernel_rfl) | refine d_gd ?_ | (refine d_gsplit rfl rfl rfl (fun hb => ?_) (fun hb => ?_) <;> refine fct hb (fun hp => ?_))) | refine c_go ?_ | refine s_region ?_ | refine d_region ?_ | (refine L.cond rfl (fun hb => ?_) (fun hb => ?_) <;> refine fct hb (fun hp => ?_))))
    all_goals (first | (apply L.ends1; exact rfl; exact rfl; exact rfl) | (apply L.ends2; exact rfl; exact rfl; exact rfl) | (apply L.ends3; exact rfl; exact rfl; exact rfl) | (apply L.ends1A; exact rfl; exact rfl; exact rfl) | (apply L.ends2A; exact rfl; exact rfl; exact rfl))
    all_goals kernel_rfl
  have q7 : (op == 7) = false := by simp [h7]
  by_cases h8 : op = 8
  · subst h8
    have e : twoM 8 a b = truthM (orM (ofM a) (ofM b)) := by simp [twoM]
    rw [e]
    (repeat' (first | (refine LW.is ?_; first | (apply s_call0; exact rfl; rotate_left; exact rfl; rotate_left 3; exact of_any a; exact rfl) | (apply s_call0; exact rfl; rotate_left; exact rfl; rotate_left 3; exact of_any b; exact rfl) | (apply s_call0; exact rfl; rotate_left; exact rfl; rotate_left 3; exact or_any _ _; exact rfl) | (apply s_call0; exact rfl; rotate_left; exact rfl; rotate_left 3; exact truth_any _; exact rfl) | refine s_v ?_ | refine s_m ?_ | refine s_nil ?_ | refine s_gd ?_ | (refine s_gsplit rfl rfl rfl (fun hb => ?_) (fun hb => ?_) <;> refine fct hb (fun hp => ?_))) | (refine DR.is ?_; first | (apply d_call0; exact rfl; rotate_left; exact rfl; rotate_left 3; exact of_any a; exact rfl) | (apply d_call0; exact rfl; rotate_left; exact rfl; rotate_left 3; exact of_any b; exact rfl) | (apply d_call0; exact rfl; rotate_left; exact rfl; rotate_left 3; exact or_any _ _; exact rfl) | (apply d_call0; exact rfl; rotate_left; exact rfl; rotate_left 3; exact truth_any _; exact rfl) | refine d_v ?_ | refine d_m ?_ | (apply d_nil; kernel_rfl) | refine d_gd ?_ | (refine d_gsplit rfl rfl rfl (fun hb => ?_) (fun hb => ?_) <;> refine fct hb (fun hp => ?_))) | refine c_go ?_ | refine s_region ?_ | refine d_region ?_ | (refine L.cond rfl (fun hb => ?_) (fun hb => ?_) <;> refine fct hb (fun hp => ?_))))
    all_goals (first | (apply L.ends1; exact rfl; exact rfl; exact rfl) | (apply L.ends2; exact rfl; exact rfl; exact rfl) | (apply L.ends3; exact rfl; exact rfl; exact rfl) | (apply L.ends1A; exact rfl; exact rfl; exact rfl) | (apply L.ends2A; exact rfl; exact rfl; exact rfl))
    all_goals kernel_rfl
  have q8 : (op == 8) = false := by simp [h8]
  have e1 : twoM op a b = if a.k ≠ b.k ∨ goodM a = false ∨ goodM b = false ∨ a.k = 0 then nilV else if op = 5 then truthM (numM (cmpM a b == 0)) else if op = 6 then truthM (numM (decide (cmpM a b < 0))) else if a.k ≠ 1 ∨ (op ≠ 3 ∧ op ≠ 4) then nilV else sumM op a b := by
    rw [twoM, if_neg h7, if_neg h8]
  rw [e1]
  clear e1
  by_cases hk : a.k = b.k
  case neg =>
    rw [if_pos (.inl hk)]
    have qk : (a.k != b.k) = true := by simp [hk]
    (repeat' (first | (refine LW.is ?_; first | refine s_v ?_ | refine s_m ?_ | refine s_nil ?_ | refine s_gd ?_ | (refine s_gsplit rfl rfl rfl (fun hb => ?_) (fun hb => ?_) <;> refine fct hb (fun hp => ?_))) | (refine DR.is ?_; first | refine d_v ?_ | refine d_m ?_ | (apply d_nil; kernel_rfl) | refine d_gd ?_ | (refine d_gsplit rfl rfl rfl (fun hb => ?_) (fun hb => ?_) <;> refine fct hb (fun hp => ?_))) | refine c_go ?_ | refine s_region ?_ | refine d_region ?_ | (refine L.cond rfl (fun hb => ?_) (fun hb => ?_) <;> refine fct hb (fun hp => ?_))))
    all_goals (first | (apply L.ends1; exact rfl; exact rfl; exact rfl) | (apply L.ends2; exact rfl; exact rfl; exact rfl) | (apply L.ends3; exact rfl; exact rfl; exact rfl) | (apply L.ends1A; exact rfl; exact rfl; exact rfl) | (apply L.ends2A; exact rfl; exact rfl; exact rfl))
    all_goals kernel_rfl
  have qk : (a.k != b.k) = false := by simp [hk]
  cases ga : goodM a with
  | false =>
    rw [if_pos (.inr (.inl rfl))]
    have qa : (!goodM a) = true := by rw [ga]; rfl
    (repeat' (first | (refine LW.is ?_; first | (apply s_call0; exact rfl; rotate_left; exact rfl; rotate_left 3; exact good_any a; exact rfl) | refine s_v ?_ | refine s_m ?_ | refine s_nil ?_ | refine s_gd ?_ | (refine s_gsplit rfl rfl rfl (fun hb => ?_) (fun hb => ?_) <;> refine fct hb (fun hp => ?_))) | (refine DR.is ?_; first | (apply d_call0; exact rfl; rotate_left; exact rfl; rotate_left 3; exact good_any a; exact rfl) | refine d_v ?_ | refine d_m ?_ | (apply d_nil; kernel_rfl) | refine d_gd ?_ | (refine d_gsplit rfl rfl rfl (fun hb => ?_) (fun hb => ?_) <;> refine fct hb (fun hp => ?_))) | refine c_go ?_ | refine s_region ?_ | refine d_region ?_ | (refine L.cond rfl (fun hb => ?_) (fun hb => ?_) <;> refine fct hb (fun hp => ?_))))
    all_goals (first | (apply L.ends1; exact rfl; exact rfl; exact rfl) | (apply L.ends2; exact rfl; exact rfl; exact rfl) | (apply L.ends3; exact rfl; exact rfl; exact rfl) | (apply L.ends1A; exact rfl; exact rfl; exact rfl) | (apply L.ends2A; exact rfl; exact rfl; exact rfl))
    all_goals kernel_rfl
  | true =>
  have qa : (!goodM a) = false := by rw [ga]; rfl
  cases gb : goodM b with
  | false =>
    rw [if_pos (.inr (.inr (.inl rfl)))]
    have qb : (!goodM b) = true := by rw [gb]; rfl
    (repeat' (first | (refine LW.is ?_; first | (apply s_call0; exact rfl; rotate_left; exact rfl; rotate_left 3; exact good_any a; exact rfl) | (apply s_call0; exact rfl; rotate_left; exact rfl; rotate_left 3; exact good_any b; exact rfl) | refine s_v ?_ | refine s_m ?_ | refine s_nil ?_ | refine s_gd ?_ | (refine s_gsplit rfl rfl rfl (fun hb => ?_) (fun hb => ?_) <;> refine fct hb (fun hp => ?_))) | (refine DR.is ?_; first | (apply d_call0; exact rfl; rotate_left; exact rfl; rotate_left 3; exact good_any a; exact rfl) | (apply d_call0; exact rfl; rotate_left; exact rfl; rotate_left 3; exact good_any b; exact rfl) | refine d_v ?_ | refine d_m ?_ | (apply d_nil; kernel_rfl) | refine d_gd ?_ | (refine d_gsplit rfl rfl rfl (fun hb => ?_) (fun hb => ?_) <;> refine fct hb (fun hp => ?_))) | refine c_go ?_ | refine s_region ?_ | refine d_region ?_ | (refine L.cond rfl (fun hb => ?_) (fun hb => ?_) <;> refine fct hb (fun hp => ?_))))
    all_goals (first | (apply L.ends1; exact rfl; exact rfl; exact rfl) | (apply L.ends2; exact rfl; exact rfl; exact rfl) | (apply L.ends3; exact rfl; exact rfl; exact rfl) | (apply L.ends1A; exact rfl; exact rfl; exact rfl) | (apply L.ends2A; exact rfl; exact rfl; exact rfl))
    all_goals kernel_rfl
  | true =>
  have qb : (!goodM b) = false := by rw [gb]; rfl
  by_cases h0 : a.k = 0
  · rw [if_pos (.inr (.inr (.inr h0)))]
    have q0 : (a.k == 0) = true := by simp [h0]
    (repeat' (first | (refine LW.is ?_; first | (apply s_call0; exact rfl; rotate_left; exact rfl; rotate_left 3; exact good_any a; exact rfl) | (apply s_call0; exact rfl; rotate_left; exact rfl; rotate_left 3; exact good_any b; exact rfl) | refine s_v ?_ | refine s_m ?_ | refine s_nil ?_ | refine s_gd ?_ | (refine s_gsplit rfl rfl rfl (fun hb => ?_) (fun hb => ?_) <;> refine fct hb (fun hp => ?_))) | (refine DR.is ?_; first | (apply d_call0; exact rfl; rotate_left; exact rfl; rotate_left 3; exact good_any a; exact rfl) | (apply d_call0; exact rfl; rotate_left; exact rfl; rotate_left 3; exact good_any b; exact rfl) | refine d_v ?_ | refine d_m ?_ | (apply d_nil; kernel_rfl) | refine d_gd ?_ | (refine d_gsplit rfl rfl rfl (fun hb => ?_) (fun hb => ?_) <;> refine fct hb (fun hp => ?_))) | refine c_go ?_ | refine s_region ?_ | refine d_region ?_ | (refine L.cond rfl (fun hb => ?_) (fun hb => ?_) <;> refine fct hb (fun hp => ?_))))
    all_goals (first | (apply L.ends1; exact rfl; exact rfl; exact rfl) | (apply L.ends2; exact rfl; exact rfl; exact rfl) | (apply L.ends3; exact rfl; exact rfl; exact rfl) | (apply L.ends1A; exact rfl; exact rfl; exact rfl) | (apply L.ends2A; exact rfl; exact rfl; exact rfl))
    all_goals kernel_rfl
  have q0 : (a.k == 0) = false := by simp [h0]
  rw [if_neg (by
    rintro (h | h | h | h)
    · exact h hk
    · cases h
    · cases h
    · exact h0 h)]
  by_cases h5 : op = 5
  · subst h5
    rw [if_pos rfl]
    (repeat' (first | (refine LW.is ?_; first | (apply s_call0; exact rfl; rotate_left; exact rfl; rotate_left 3; exact good_any a; exact rfl) | (apply s_call0; exact rfl; rotate_left; exact rfl; rotate_left 3; exact good_any b; exact rfl) | (apply s_call0; exact rfl; rotate_left; exact rfl; rotate_left 3; exact cmp_any a b; exact rfl) | (apply s_call0; exact rfl; rotate_left; exact rfl; rotate_left 3; exact num_any _; exact rfl) | (apply s_call0; exact rfl; rotate_left; exact rfl; rotate_left 3; exact truth_any _; exact rfl) | refine s_v ?_ | refine s_m ?_ | refine s_nil ?_ | refine s_gd ?_ | (refine s_gsplit rfl rfl rfl (fun hb => ?_) (fun hb => ?_) <;> refine fct hb (fun hp => ?_))) | (refine DR.is ?_; first | (apply d_call0; exact rfl; rotate_left; exact rfl; rotate_left 3; exact good_any a; exact rfl) | (apply d_call0; exact rfl; rotate_left; exact rfl; rotate_left 3; exact good_any b; exact rfl) | (apply d_call0; exact rfl; rotate_left; exact rfl; rotate_left 3; exact cmp_any a b; exact rfl) | (apply d_call0; exact rfl; rotate_left; exact rfl; rotate_left 3; exact num_any _; exact rfl) | (apply d_call0; exact rfl; rotate_left; exact rfl; rotate_left 3; exact truth_any _; exact rfl) | refine d_v ?_ | refine d_m ?_ | (apply d_nil; kernel_rfl) | refine d_gd ?_ | (refine d_gsplit rfl rfl rfl (fun hb => ?_) (fun hb => ?_) <;> refine fct hb (fun hp => ?_))) | refine c_go ?_ | refine s_region ?_ | refine d_region ?_ | (refine L.cond rfl (fun hb => ?_) (fun hb => ?_) <;> refine fct hb (fun hp => ?_))))
    all_goals (first | (apply L.ends1; exact rfl; exact rfl; exact rfl) | (apply L.ends2; exact rfl; exact rfl; exact rfl) | (apply L.ends3; exact rfl; exact rfl; exact rfl) | (apply L.ends1A; exact rfl; exact rfl; exact rfl) | (apply L.ends2A; exact rfl; exact rfl; exact rfl))
    all_goals kernel_rfl
  rw [if_neg h5]
  have q5 : (op == 5) = false := by simp [h5]
  by_cases h6 : op = 6
  · subst h6
    rw [if_pos rfl]
    (repeat' (first | (refine LW.is ?_; first | (apply s_call0; exact rfl; rotate_left; exact rfl; rotate_left 3; exact good_any a; exact rfl) | (apply s_call0; exact rfl; rotate_left; exact rfl; rotate_left 3; exact good_any b; exact rfl) | (apply s_call0; exact rfl; rotate_left; exact rfl; rotate_left 3; exact cmp_any a b; exact rfl) | (apply s_call0; exact rfl; rotate_left; exact rfl; rotate_left 3; exact num_any _; exact rfl) | (apply s_call0; exact rfl; rotate_left; exact rfl; rotate_left 3; exact truth_any _; exact rfl) | refine s_v ?_ | refine s_m ?_ | refine s_nil ?_ | refine s_gd ?_ | (refine s_gsplit rfl rfl rfl (fun hb => ?_) (fun hb => ?_) <;> refine fct hb (fun hp => ?_))) | (refine DR.is ?_; first | (apply d_call0; exact rfl; rotate_left; exact rfl; rotate_left 3; exact good_any a; exact rfl) | (apply d_call0; exact rfl; rotate_left; exact rfl; rotate_left 3; exact good_any b; exact rfl) | (apply d_call0; exact rfl; rotate_left; exact rfl; rotate_left 3; exact cmp_any a b; exact rfl) | (apply d_call0; exact rfl; rotate_left; exact rfl; rotate_left 3; exact num_any _; exact rfl) | (apply d_call0; exact rfl; rotate_left; exact rfl; rotate_left 3; exact truth_any _; exact rfl) | refine d_v ?_ | refine d_m ?_ | (apply d_nil; kernel_rfl) | refine d_gd ?_ | (refine d_gsplit rfl rfl rfl (fun hb => ?_) (fun hb => ?_) <;> refine fct hb (fun hp => ?_))) | refine c_go ?_ | refine s_region ?_ | refine d_region ?_ | (refine L.cond rfl (fun hb => ?_) (fun hb => ?_) <;> refine fct hb (fun hp => ?_))))
    all_goals (first | (apply L.ends1; exact rfl; exact rfl; exact rfl) | (apply L.ends2; exact rfl; exact rfl; exact rfl) | (apply L.ends3; exact rfl; exact rfl; exact rfl) | (apply L.ends1A; exact rfl; exact rfl; exact rfl) | (apply L.ends2A; exact rfl; exact rfl; exact rfl))
    all_goals kernel_rfl
  rw [if_neg h6]
  have q6 : (op == 6) = false := by simp [h6]
  by_cases h1 : a.k = 1
  case neg =>
    rw [if_pos (.inl h1)]
    have q1 : (a.k != 1) = true := by simp [h1]
    (repeat' (first | (refine LW.is ?_; first | (apply s_call0; exact rfl; rotate_left; exact rfl; rotate_left 3; exact good_any a; exact rfl) | (apply s_call0; exact rfl; rotate_left; exact rfl; rotate_left 3; exact good_any b; exact rfl) | refine s_v ?_ | refine s_m ?_ | refine s_nil ?_ | refine s_gd ?_ | (refine s_gsplit rfl rfl rfl (fun hb => ?_) (fun hb => ?_) <;> refine fct hb (fun hp => ?_))) | (refine DR.is ?_; first | (apply d_call0; exact rfl; rotate_left; exact rfl; rotate_left 3; exact good_any a; exact rfl) | (apply d_call0; exact rfl; rotate_left; exact rfl; rotate_left 3; exact good_any b; exact rfl) | refine d_v ?_ | refine d_m ?_ | (apply d_nil; kernel_rfl) | refine d_gd ?_ | (refine d_gsplit rfl rfl rfl (fun hb => ?_) (fun hb => ?_) <;> refine fct hb (fun hp => ?_))) | refine c_go ?_ | refine s_region ?_ | refine d_region ?_ | (refine L.cond rfl (fun hb => ?_) (fun hb => ?_) <;> refine fct hb (fun hp => ?_))))
    all_goals (first | (apply L.ends1; exact rfl; exact rfl; exact rfl) | (apply L.ends2; exact rfl; exact rfl; exact rfl) | (apply L.ends3; exact rfl; exact rfl; exact rfl) | (apply L.ends1A; exact rfl; exact rfl; exact rfl) | (apply L.ends2A; exact rfl; exact rfl; exact rfl))
    all_goals kernel_rfl
  have q1 : (a.k != 1) = false := by simp [h1]
  obtain ⟨_, _, ha0, ha1, _⟩ := goodM_bounds ga
  obtain ⟨_, _, hb0, hb1, _⟩ := goodM_bounds gb
  by_cases h4 : op = 4
  · subst h4
    rw [if_neg (by simp [h1])]
    cases gn : goodM ⟨1, a.n - b.n, []⟩ with
    | false =>
      have e : sumM 4 a b = nilV := by simp [sumM, gn]
      rw [e]
      (repeat' (first | (refine LW.is ?_; first | (apply s_call0; exact rfl; rotate_left; exact rfl; rotate_left 3; exact good_any a; exact rfl) | (apply s_call0; exact rfl; rotate_left; exact rfl; rotate_left 3; exact good_any b; exact rfl) | (apply s_call0; exact rfl; rotate_left; exact rfl; rotate_left 3; exact good_any ⟨1, a.n - b.n, []⟩; exact rfl) | refine s_v ?_ | refine s_m ?_ | refine s_nil ?_ | refine s_gd ?_ | (refine s_gsplit rfl rfl rfl (fun hb => ?_) (fun hb => ?_) <;> refine fct hb (fun hp => ?_))) | (refine DR.is ?_; first | (apply d_call0; exact rfl; rotate_left; exact rfl; rotate_left 3; exact good_any a; exact rfl) | (apply d_call0; exact rfl; rotate_left; exact rfl; rotate_left 3; exact good_any b; exact rfl) | (apply d_call0; exact rfl; rotate_left; exact rfl; rotate_left 3; exact good_any ⟨1, a.n - b.n, []⟩; exact rfl) | refine d_v ?_ | refine d_m ?_ | (apply d_nil; kernel_rfl) | refine d_gd ?_ | (refine d_gsplit rfl rfl rfl (fun hb => ?_) (fun hb => ?_) <;> refine fct hb (fun hp => ?_))) | refine c_go ?_ | refine s_region ?_ | refine d_region ?_ | (refine L.cond rfl (fun hb => ?_) (fun hb => ?_) <;> refine fct hb (fun hp => ?_))))
      all_goals (first | (apply L.ends1; exact rfl; exact rfl; exact rfl) | (apply L.ends2; exact rfl; exact rfl; exact rfl) | (apply L.ends3; exact rfl; exact rfl; exact rfl) | (apply L.ends1A; exact rfl; exact rfl; exact rfl) | (apply L.ends2A; exact rfl; exact rfl; exact rfl))
      all_goals kernel_rfl
    | true =>
      have e : sumM 4 a b = ⟨1, a.n - b.n, []⟩ := by simp [sumM, gn]
      rw [e]
      (repeat' (first | (refine LW.is ?_; first | (apply s_call0; exact rfl; rotate_left; exact rfl; rotate_left 3; exact good_any a; exact rfl) | (apply s_call0; exact rfl; rotate_left; exact rfl; rotate_left 3; exact good_any b; exact rfl) | (apply s_call0; exact rfl; rotate_left; exact rfl; rotate_left 3; exact good_any ⟨1, a.n - b.n, []⟩; exact rfl) | refine s_v ?_ | refine s_m ?_ | refine s_nil ?_ | refine s_gd ?_ | (refine s_gsplit rfl rfl rfl (fun hb => ?_) (fun hb => ?_) <;> refine fct hb (fun hp => ?_))) | (refine DR.is ?_; first | (apply d_call0; exact rfl; rotate_left; exact rfl; rotate_left 3; exact good_any a; exact rfl) | (apply d_call0; exact rfl; rotate_left; exact rfl; rotate_left 3; exact good_any b; exact rfl) | (apply d_call0; exact rfl; rotate_left; exact rfl; rotate_left 3; exact good_any ⟨1, a.n - b.n, []⟩; exact rfl) | refine d_v ?_ | refine d_m ?_ | (apply d_nil; kernel_rfl) | refine d_gd ?_ | (refine d_gsplit rfl rfl rfl (fun hb => ?_) (fun hb => ?_) <;> refine fct hb (fun hp => ?_))) | refine c_go ?_ | refine s_region ?_ | refine d_region ?_ | (refine L.cond rfl (fun hb => ?_) (fun hb => ?_) <;> refine fct hb (fun hp => ?_))))
      all_goals (first | (apply L.ends1; exact rfl; exact rfl; exact rfl) | (apply L.ends2; exact rfl; exact rfl; exact rfl) | (apply L.ends3; exact rfl; exact rfl; exact rfl) | (apply L.ends1A; exact rfl; exact rfl; exact rfl) | (apply L.ends2A; exact rfl; exact rfl; exact rfl))
      all_goals kernel_rfl
  have q4 : (op == 4) = false := by simp [h4]
  have q4' : (op != 4) = true := by simp [h4]
  by_cases h3 : op = 3
  · subst h3
    rw [if_neg (by simp [h1])]
    cases gn : goodM ⟨1, a.n + b.n, []⟩ with
    | false =>
      have e : sumM 3 a b = nilV := by simp [sumM, gn]
      rw [e]
      (repeat' (first | (refine LW.is ?_; first | (apply s_call0; exact rfl; rotate_left; exact rfl; rotate_left 3; exact good_any a; exact rfl) | (apply s_call0; exact rfl; rotate_left; exact rfl; rotate_left 3; exact good_any b; exact rfl) | (apply s_call0; exact rfl; rotate_left; exact rfl; rotate_left 3; exact good_any ⟨1, a.n + b.n, []⟩; exact rfl) | refine s_v ?_ | refine s_m ?_ | refine s_nil ?_ | refine s_gd ?_ | (refine s_gsplit rfl rfl rfl (fun hb => ?_) (fun hb => ?_) <;> refine fct hb (fun hp => ?_))) | (refine DR.is ?_; first | (apply d_call0; exact rfl; rotate_left; exact rfl; rotate_left 3; exact good_any a; exact rfl) | (apply d_call0; exact rfl; rotate_left; exact rfl; rotate_left 3; exact good_any b; exact rfl) | (apply d_call0; exact rfl; rotate_left; exact rfl; rotate_left 3; exact good_any ⟨1, a.n + b.n, []⟩; exact rfl) | refine d_v ?_ | refine d_m ?_ | (apply d_nil; kernel_rfl) | refine d_gd ?_ | (refine d_gsplit rfl rfl rfl (fun hb => ?_) (fun hb => ?_) <;> refine fct hb (fun hp => ?_))) | refine c_go ?_ | refine s_region ?_ | refine d_region ?_ | (refine L.cond rfl (fun hb => ?_) (fun hb => ?_) <;> refine fct hb (fun hp => ?_))))
      all_goals (first | (apply L.ends1; exact rfl; exact rfl; exact rfl) | (apply L.ends2; exact rfl; exact rfl; exact rfl) | (apply L.ends3; exact rfl; exact rfl; exact rfl) | (apply L.ends1A; exact rfl; exact rfl; exact rfl) | (apply L.ends2A; exact rfl; exact rfl; exact rfl))
      all_goals kernel_rfl
    | true =>
      have e : sumM 3 a b = ⟨1, a.n + b.n, []⟩ := by simp [sumM, gn]
      rw [e]
      (repeat' (first | (refine LW.is ?_; first | (apply s_call0; exact rfl; rotate_left; exact rfl; rotate_left 3; exact good_any a; exact rfl) | (apply s_call0; exact rfl; rotate_left; exact rfl; rotate_left 3; exact good_any b; exact rfl) | (apply s_call0; exact rfl; rotate_left; exact rfl; rotate_left 3; exact good_any ⟨1, a.n + b.n, []⟩; exact rfl) | refine s_v ?_ | refine s_m ?_ | refine s_nil ?_ | refine s_gd ?_ | (refine s_gsplit rfl rfl rfl (fun hb => ?_) (fun hb => ?_) <;> refine fct hb (fun hp => ?_))) | (refine DR.is ?_; first | (apply d_call0; exact rfl; rotate_left; exact rfl; rotate_left 3; exact good_any a; exact rfl) | (apply d_call0; exact rfl; rotate_left; exact rfl; rotate_left 3; exact good_any b; exact rfl) | (apply d_call0; exact rfl; rotate_left; exact rfl; rotate_left 3; exact good_any ⟨1, a.n + b.n, []⟩; exact rfl) | refine d_v ?_ | refine d_m ?_ | (apply d_nil; kernel_rfl) | refine d_gd ?_ | (refine d_gsplit rfl rfl rfl (fun hb => ?_) (fun hb => ?_) <;> refine fct hb (fun hp => ?_))) | refine c_go ?_ | refine s_region ?_ | refine d_region ?_ | (refine L.cond rfl (fun hb => ?_) (fun hb => ?_) <;> refine fct hb (fun hp => ?_))))
      all_goals (first | (apply L.ends1; exact rfl; exact rfl; exact rfl) | (apply L.ends2; exact rfl; exact rfl; exact rfl) | (apply L.ends3; exact rfl; exact rfl; exact rfl) | (apply L.ends1A; exact rfl; exact rfl; exact rfl) | (apply L.ends2A; exact rfl; exact rfl; exact rfl))
      all_goals kernel_rfl
  · rw [if_pos (.inr ⟨h3, h4⟩)]
    have q3 : (op != 3) = true := by simp [h3]
    (repeat' (first | (refine LW.is ?_; first | (apply s_call0; exact rfl; rotate_left; exact rfl; rotate_left 3; exact good_any a; exact rfl) | (apply s_call0; exact rfl; rotate_left; exact rfl; rotate_left 3; exact good_any b; exact rfl) | refine s_v ?_ | refine s_m ?_ | refine s_nil ?_ | refine s_gd ?_ | (refine s_gsplit rfl rfl rfl (fun hb => ?_) (fun hb => ?_) <;> refine fct hb (fun hp => ?_))) | (refine DR.is ?_; first | (apply d_call0; exact rfl; rotate_left; exact rfl; rotate_left 3; exact good_any a; exact rfl) | (apply d_call0; exact rfl; rotate_left; exact rfl; rotate_left 3; exact good_any b; exact rfl) | refine d_v ?_ | refine d_m ?_ | (apply d_nil; kernel_rfl) | refine d_gd ?_ | (refine d_gsplit rfl rfl rfl (fun hb => ?_) (fun hb => ?_) <;> refine fct hb (fun hp => ?_))) | refine c_go ?_ | refine s_region ?_ | refine d_region ?_ | (refine L.cond rfl (fun hb => ?_) (fun hb => ?_) <;> refine fct hb (fun hp => ?_))))
    all_goals (first | (apply L.ends1; exact rfl; exact rfl; exact rfl) | (apply L.ends2; exact rfl; exact rfl; exact rfl) | (apply L.ends3; exact rfl; exact rfl; exact rfl) | (apply L.ends1A; exact rfl; exact rfl; exact rfl) | (apply L.ends2A; exact rfl; exact rfl; exact rfl))
    all_goals kernel_rfl
end Go.Proofs.YthkobnpogigkiaaDoor
/- Expressions: what Eval computes. Conditions: how much there is of what comes in. -/
namespace Go.Proofs.YthkobnpogigkiaaDoor
open Go.Abs
set_option maxRecDepth 100000
attribute [local irreducible] L Code.wp bodyPost Exit.then Exit.inBlock
set_option linter.unusedVariables false
set_option linter.unusedSimpArgs false
inductive Ex where
  | mk (op : Int) (v : Val) (s name : List UInt8) (n : Int) (l : List Ex)
def Ex.op : Ex → Int | .mk op _ _ _ _ _ => op
def Ex.v : Ex → Val | .mk _ v _ _ _ _ => v
def Ex.s : Ex → List UInt8 | .mk _ _ s _ _ _ => s
def Ex.name : Ex → List UInt8 | .mk _ _ _ s _ _ => s
def Ex.n : Ex → Int | .mk _ _ _ _ n _ => n
def Ex.l : Ex → List Ex | .mk _ _ _ _ _ l => l
def Ex.c : Ex → List IV
  | .mk op v s name n l => [I op, I v.k, I v.n, S v.s, S s, S name, I n, .sl (l.attach.map fun x => x.1.c)]
 decreasing_by
  have := List.sizeOf_lt_of_mem x.2
  simp; omega
theorem Ex.c_eq (op : Int) (v : Val) (s name : List UInt8) (n : Int) (l : List Ex) : Ex.c (.mk op v s name n l) = [I op, I v.k, I v.n, S v.s, S s, S name, I n, .sl (l.map Ex.c)] := by
  rw [Ex.c]; simp [List.attach_map_val]
def restM (op : Int) : List Val → Val
  | [a] => if op = 9 then truthM (notM (ofM a)) else if op = 10 then truthM (numM (a.k == 0)) else nilV
  | [a, b] => twoM op a b
  | _ => nilV
def refM (n : Int) (row : List Val) : Val := if 0 ≤ n then (row[n.toNat]?).getD nilV else nilV
def evalOne (op : Int) (v : Val) (n : Int) (vs row : List Val) : Val :=
  if op = 1 then v else if op = 2 then refM n row else restM op vs
def evalM (row : List Val) : Ex → Val
  | .mk op v s name n l => evalOne op v n (l.attach.map fun x => evalM row x.1) row
 decreasing_by
  have := List.sizeOf_lt_of_mem x.2
  simp; omega
theorem evalM_eq (row : List Val) (op : Int) (v : Val) (s name : List UInt8) (n : Int) (l : List Ex) : evalM row (.mk op v s name n l) = evalOne op v n (l.map (evalM row)) row := by
  rw [evalM]; simp
inductive Ex.Ok : Ex → Prop
  | mk {op : Int} {v : Val} {s name : List UInt8} {n : Int} {l : List Ex} (hl : l.length * 104 ≤ 140737488355328) (h : ∀ x ∈ l, x.Ok) : Ex.Ok (.mk op v s name n l)
theorem evalOne_ref (v : Val) (n : Int) (vs row : List Val) : evalOne 2 v n vs row = refM n row := by simp [evalOne]
theorem evalOne_rest {op : Int} (v : Val) (n : Int) (vs row : List Val) (h1 : op ≠ 1) (h2 : op ≠ 2) : evalOne op v n vs row = restM op vs := by rw [evalOne, if_neg h1, if_neg h2]
set_option maxRecDepth 100000 in
set_option maxHeartbeats 4000000 in
theorem eval_any (row : List Val) : ∀ (e : Ex) (hok : e.Ok), CallA Tryd.prog 13 [.agg (e.c.map .iv), .iv (.sl (row.map Val.c))] [] [] [] (.agg ((evalM row e).c.map .iv))
  | .mk op v s name n l, hok => by
    have ih : ∀ x ∈ l, CallA Tryd.prog 13 [.agg (x.c.map .iv), .iv (.sl (row.map Val.c))] [] [] [] (.agg ((evalM row x).c.map .iv)) := fun x hx => eval_any row x (by cases hok with | mk _ h => exact h x hx)
    have hl : l.length * 104 ≤ 140737488355328 := by cases hok with | mk hl _ => exact hl
    rw [Ex.c_eq, evalM_eq]
    refine CallA.intro _ Tryd.func13 rfl Tryd.ntmps13 rfl (fun w0 E0 => ?_)
    (repeat' (first | (refine LW.is ?_; first | refine s_v ?_ | refine s_m ?_ | refine s_nil ?_ | refine s_gd ?_ | (refine s_gsplit rfl rfl rfl (fun hb => ?_) (fun hb => ?_) <;> refine fct hb (fun hp => ?_))) | (refine DR.is ?_; first | refine d_v ?_ | refine d_m ?_ | (apply d_nil; kernel_rfl) | refine d_gd ?_ | (refine d_gsplit rfl rfl rfl (fun hb => ?_) (fun hb => ?_) <;> refine fct hb (fun hp => ?_))) | refine c_go ?_ | refine s_region ?_ | refine d_region ?_ | (refine L.cond rfl (fun hb => ?_) (fun hb => ?_) <;> refine fct hb (fun hp => ?_))))
    refine L.adopt 5 (s := 5) (t := 32) (k := 3) rfl rfl rfl ?_
    refine L.loopP (ι := Nat) (fun i => ⟨[(11, aI (i : Int)), (10, aI ((l.map Ex.c).length : Int)), (9, .iv (.sl (l.map Ex.c))), (5, .row 5 (((l.take i).map (evalM row)).map Val.c)), (1, .iv (.sl (row.map Val.c))), (2, .ptr 2 0), (4, .ptr 4 0)],
      [(2, ⟨34, .l [.iv (I op), .iv (I v.k), .iv (I v.n), .iv (S v.s), .iv (S s), .iv (S name), .iv (I n), .iv (.sl (l.map Ex.c))]⟩), (4, ⟨32, .l [.iv (I 0), .iv (I 0), .iv (S [])]⟩)], [(5, ⟨32, 3⟩)]⟩) (fun i => l.length - i) (fun i => True) (i0 := 0) ?_ trivial ?_
    · (refine Wk.mk' (by intro id h; cases h) ?_ ?_ ?_ <;> repeat' (first | exact WkF.nil | exact WkB.nil | exact WkT.nil | (refine WkF.cons rfl (Sub.refl _) ?_) | (refine WkB.cons rfl rfl (Subs.refl _) ?_) | (refine WkT.cons rfl ?_)))
    intro i _ K hK
    cases hv : l[i]? with
    | some x =>
      have hlt := ltT (l := l.map Ex.c) (getF hv)
      have hlt' := ltN hv
      have ihx := ih x (List.mem_of_getElem? hv)
      have hnext : ((l.take (i + 1)).map (evalM row)).map Val.c = ((l.take i).map (evalM row)).map Val.c ++ [(evalM row x).c] := by rw [takeC hv]; simp
      generalize evalM row x = r at ihx hnext
      obtain ⟨op', v', s', name', n', l'⟩ := x
      rw [Ex.c_eq] at ihx
      have he : (l.map Ex.c)[((i : Nat) : Int).toNat]? = some [I op', I v'.k, I v'.n, S v'.s, S s', S name', I n', .sl (l'.map Ex.c)] := by
        rw [← Ex.c_eq]; simp [hv]
      clear hv ih hok
      (repeat' (first | (refine LW.is ?_; first | (apply s_vr; exact rfl; apply v_indexA; exact rfl; exact rfl; omega; exact he; exact rfl) | (apply s_call0; exact rfl; exact ihx; exact rfl; exact rfl) | refine s_v ?_ | refine s_m ?_ | refine s_nil ?_ | refine s_gd ?_ | (refine s_gsplit rfl rfl rfl (fun hb => ?_) (fun hb => ?_) <;> refine fct hb (fun hp => ?_))) | (refine DR.is ?_; first | (apply d_vr; exact rfl; apply v_indexA; exact rfl; exact rfl; omega; exact he; exact rfl) | (apply d_call0; exact rfl; exact ihx; exact rfl; exact rfl) | refine d_v ?_ | refine d_m ?_ | (apply d_nil; kernel_rfl) | refine d_gd ?_ | (refine d_gsplit rfl rfl rfl (fun hb => ?_) (fun hb => ?_) <;> refine fct hb (fun hp => ?_))) | refine c_go ?_ | refine s_region ?_ | refine d_region ?_ | (refine L.cond rfl (fun hb => ?_) (fun hb => ?_) <;> refine fct hb (fun hp => ?_))))
      refine L.only [11, 10, 9, 5, 1, 2, 4] ?_
      refine L.retok 5 20 5 rfl rfl rfl rfl ?_
      refine hK _ (i + 1) trivial (by omega) (Wk.mk' (by intro id h; cases h) (.cons rfl (Sub.refl _) (.cons rfl (Sub.refl _) (.cons rfl (Sub.refl _) (.cons rfl (Sub.of_eq (congrArg (AV.row 5) ?_)) (.cons rfl (Sub.refl _) (.cons rfl (Sub.refl _) (.cons rfl (Sub.refl _) .nil))))))) (.cons rfl rfl (Subs.refl _) (.cons rfl rfl (Subs.refl _) .nil)) (.cons rfl .nil))
      rw [hnext]; rfl
    | none =>
      have hlt := ltF (l := l.map Ex.c) (getFN hv)
      rw [takeN hv]
      generalize hvs : l.map (evalM row) = vs
      clear hK ih hok hvs
      by_cases h1 : op = 1
      · subst h1
        have e : evalOne 1 v n vs row = v := by simp [evalOne]
        rw [e]
        (repeat' (first | (refine LW.is ?_; first | refine s_v ?_ | refine s_m ?_ | refine s_nil ?_ | refine s_gd ?_ | (refine s_gsplit rfl rfl rfl (fun hb => ?_) (fun hb => ?_) <;> refine fct hb (fun hp => ?_))) | (refine DR.is ?_; first | refine d_v ?_ | refine d_m ?_ | (apply d_nil; kernel_rfl) | refine d_gd ?_ | (refine d_gsplit rfl rfl rfl (fun hb => ?_) (fun hb => ?_) <;> refine fct hb (fun hp => ?_))) | refine c_go ?_ | refine s_region ?_ | refine d_region ?_ | (refine L.cond rfl (fun hb => ?_) (fun hb => ?_) <;> refine fct hb (fun hp => ?_))))
        all_goals (first | (apply L.ends1; exact rfl; exact rfl; exact rfl) | (apply L.ends2; exact rfl; exact rfl; exact rfl) | (apply L.ends3; exact rfl; exact rfl; exact rfl) | (apply L.ends1A; exact rfl; exact rfl; exact rfl) | (apply L.ends2A; exact rfl; exact rfl; exact rfl))
        all_goals kernel_rfl
      have q1 : (op == 1) = false := by simp [h1]
      by_cases h2 : op = 2
      · subst h2
        rw [evalOne_ref]
        cases hn0 : decide ((0 : Int) ≤ n) with
        | false =>
          have e : refM n row = nilV := by simp at hn0; rw [refM, if_neg (by omega)]
          rw [e]
          (repeat' (first | (refine LW.is ?_; first | refine s_v ?_ | refine s_m ?_ | refine s_nil ?_ | refine s_gd ?_ | (refine s_gsplit rfl rfl rfl (fun hb => ?_) (fun hb => ?_) <;> refine fct hb (fun hp => ?_))) | (refine DR.is ?_; first | refine d_v ?_ | refine d_m ?_ | (apply d_nil; kernel_rfl) | refine d_gd ?_ | (refine d_gsplit rfl rfl rfl (fun hb => ?_) (fun hb => ?_) <;> refine fct hb (fun hp => ?_))) | refine c_go ?_ | refine s_region ?_ | refine d_region ?_ | (refine L.cond rfl (fun hb => ?_) (fun hb => ?_) <;> refine fct hb (fun hp => ?_))))
          all_goals (first | (apply L.ends1; exact rfl; exact rfl; exact rfl) | (apply L.ends2; exact rfl; exact rfl; exact rfl) | (apply L.ends3; exact rfl; exact rfl; exact rfl) | (apply L.ends1A; exact rfl; exact rfl; exact rfl) | (apply L.ends2A; exact rfl; exact rfl; exact rfl))
          all_goals kernel_rfl
        | true =>
          have hn0' : 0 ≤ n := by simpa using hn0
          cases hr : row[n.toNat]? with
          | none =>
            have e : refM n row = nilV := by rw [refM, if_pos hn0', hr]; rfl
            have hlt2 : decide (n < ((row.map Val.c).length : Int)) = false := by
              have := List.getElem?_eq_none_iff.1 hr
              simp; omega
            rw [e]
            (repeat' (first | (refine LW.is ?_; first | refine s_v ?_ | refine s_m ?_ | refine s_nil ?_ | refine s_gd ?_ | (refine s_gsplit rfl rfl rfl (fun hb => ?_) (fun hb => ?_) <;> refine fct hb (fun hp => ?_))) | (refine DR.is ?_; first | refine d_v ?_ | refine d_m ?_ | (apply d_nil; kernel_rfl) | refine d_gd ?_ | (refine d_gsplit rfl rfl rfl (fun hb => ?_) (fun hb => ?_) <;> refine fct hb (fun hp => ?_))) | refine c_go ?_ | refine s_region ?_ | refine d_region ?_ | (refine L.cond rfl (fun hb => ?_) (fun hb => ?_) <;> refine fct hb (fun hp => ?_))))
            all_goals (first | (apply L.ends1; exact rfl; exact rfl; exact rfl) | (apply L.ends2; exact rfl; exact rfl; exact rfl) | (apply L.ends3; exact rfl; exact rfl; exact rfl) | (apply L.ends1A; exact rfl; exact rfl; exact rfl) | (apply L.ends2A; exact rfl; exact rfl; exact rfl))
            all_goals kernel_rfl
          | some r =>
            have e : refM n row = r := by rw [refM, if_pos hn0', hr]; rfl
            have hlt2 : decide (n < ((row.map Val.c).length : Int)) = true := by
              have := (List.getElem?_eq_some_iff.1 hr).1
              simp; omega
            have hrow : (row.map Val.c)[n.toNat]? = some r.c := by simp [hr]
            rw [e]
            (repeat' (first | (refine LW.is ?_; first | (apply s_vr; exact rfl; apply v_indexA; exact rfl; exact rfl; omega; exact hrow; exact rfl) | refine s_v ?_ | refine s_m ?_ | refine s_nil ?_ | refine s_gd ?_ | (refine s_gsplit rfl rfl rfl (fun hb => ?_) (fun hb => ?_) <;> refine fct hb (fun hp => ?_))) | (refine DR.is ?_; first | (apply d_vr; exact rfl; apply v_indexA; exact rfl; exact rfl; omega; exact hrow; exact rfl) | refine d_v ?_ | refine d_m ?_ | (apply d_nil; kernel_rfl) | refine d_gd ?_ | (refine d_gsplit rfl rfl rfl (fun hb => ?_) (fun hb => ?_) <;> refine fct hb (fun hp => ?_))) | refine c_go ?_ | refine s_region ?_ | refine d_region ?_ | (refine L.cond rfl (fun hb => ?_) (fun hb => ?_) <;> refine fct hb (fun hp => ?_))))
            all_goals (first | (apply L.ends1; exact rfl; exact rfl; exact rfl) | (apply L.ends2; exact rfl; exact rfl; exact rfl) | (apply L.ends3; exact rfl; exact rfl; exact rfl) | (apply L.ends1A; exact rfl; exact rfl; exact rfl) | (apply L.ends2A; exact rfl; exact rfl; exact rfl))
            all_goals kernel_rfl
      have q2 : (op == 2) = false := by simp [h2]
      rw [evalOne_rest _ _ _ _ h1 h2]
      by_cases h9 : op = 9
      · subst h9
        match vs with
        | [] =>
          (repeat' (first | (refine LW.is ?_; first | refine s_v ?_ | refine s_m ?_ | refine s_nil ?_ | refine s_gd ?_ | (refine s_gsplit rfl rfl rfl (fun hb => ?_) (fun hb => ?_) <;> refine fct hb (fun hp => ?_))) | (refine DR.is ?_; first | refine d_v ?_ | refine d_m ?_ | (apply d_nil; kernel_rfl) | refine d_gd ?_ | (refine d_gsplit rfl rfl rfl (fun hb => ?_) (fun hb => ?_) <;> refine fct hb (fun hp => ?_))) | refine c_go ?_ | refine s_region ?_ | refine d_region ?_ | (refine L.cond rfl (fun hb => ?_) (fun hb => ?_) <;> refine fct hb (fun hp => ?_))))
          all_goals (first | (apply L.ends1; exact rfl; exact rfl; exact rfl) | (apply L.ends2; exact rfl; exact rfl; exact rfl) | (apply L.ends3; exact rfl; exact rfl; exact rfl) | (apply L.ends1A; exact rfl; exact rfl; exact rfl) | (apply L.ends2A; exact rfl; exact rfl; exact rfl))
          all_goals kernel_rfl
        | [a] =>
          have e : restM 9 [a] = truthM (notM (ofM a)) := by simp [restM]
          rw [e]
          (repeat' (first | (refine LW.is ?_; first | (apply s_vr; exact rfl; apply v_indexA; exact rfl; exact rfl; decide; exact rfl; exact rfl) | (apply s_call0; exact rfl; rotate_left; exact rfl; rotate_left 3; exact of_any a; exact rfl) | (apply s_call0; exact rfl; rotate_left; exact rfl; rotate_left 3; exact not_any _; exact rfl) | (apply s_call0; exact rfl; rotate_left; exact rfl; rotate_left 3; exact truth_any _; exact rfl) | refine s_v ?_ | refine s_m ?_ | refine s_nil ?_ | refine s_gd ?_ | (refine s_gsplit rfl rfl rfl (fun hb => ?_) (fun hb => ?_) <;> refine fct hb (fun hp => ?_))) | (refine DR.is ?_; first | (apply d_vr; exact rfl; apply v_indexA; exact rfl; exact rfl; decide; exact rfl; exact rfl) | (apply d_call0; exact rfl; rotate_left; exact rfl; rotate_left 3; exact of_any a; exact rfl) | (apply d_call0; exact rfl; rotate_left; exact rfl; rotate_left 3; exact not_any _; exact rfl) | (apply d_call0; exact rfl; rotate_left; exact rfl; rotate_left 3; exact truth_any _; exact rfl) | refine d_v ?_ | refine d_m ?_ | (apply d_nil; kernel_rfl) | refine d_gd ?_ | (refine d_gsplit rfl rfl rfl (fun hb => ?_) (fun hb => ?_) <;> refine fct hb (fun hp => ?_))) | refine c_go ?_ | refine s_region ?_ | refine d_region ?_ | (refine L.cond rfl (fun hb => ?_) (fun hb => ?_) <;> refine fct hb (fun hp => ?_))))
          all_goals (first | (apply L.ends1; exact rfl; exact rfl; exact rfl) | (apply L.ends2; exact rfl; exact rfl; exact rfl) | (apply L.ends3; exact rfl; exact rfl; exact rfl) | (apply L.ends1A; exact rfl; exact rfl; exact rfl) | (apply L.ends2A; exact rfl; exact rfl; exact rfl))
          all_goals kernel_rfl
        | [a, b] =>
          (repeat' (first | (refine LW.is ?_; first | (apply s_vr; exact rfl; apply v_indexA; exact rfl; exact rfl; decide; exact rfl; exact rfl) | (apply s_call0; exact rfl; rotate_left; exact rfl; rotate_left 3; exact two_any 9 a b; exact rfl) | refine s_v ?_ | refine s_m ?_ | refine s_nil ?_ | refine s_gd ?_ | (refine s_gsplit rfl rfl rfl (fun hb => ?_) (fun hb => ?_) <;> refine fct hb (fun hp => ?_))) | (refine DR.is ?_; first | (apply d_vr; exact rfl; apply v_indexA; exact rfl; exact rfl; decide; exact rfl; exact rfl) | (apply d_call0; exact rfl; rotate_left; exact rfl; rotate_left 3; exact two_any 9 a b; exact rfl) | refine d_v ?_ | refine d_m ?_ | (apply d_nil; kernel_rfl) | refine d_gd ?_ | (refine d_gsplit rfl rfl rfl (fun hb => ?_) (fun hb => ?_) <;> refine fct hb (fun hp => ?_))) | refine c_go ?_ | refine s_region ?_ | refine d_region ?_ | (refine L.cond rfl (fun hb => ?_) (fun hb => ?_) <;> refine fct hb (fun hp => ?_))))
          all_goals (first | (apply L.ends1; exact rfl; exact rfl; exact rfl) | (apply L.ends2; exact rfl; exact rfl; exact rfl) | (apply L.ends3; exact rfl; exact rfl; exact rfl) | (apply L.ends1A; exact rfl; exact rfl; exact rfl) | (apply L.ends2A; exact rfl; exact rfl; exact rfl))
          all_goals kernel_rfl
        | a :: b :: c :: t =>
          have hn1 : ((((a :: b :: c :: t).map Val.c).length : Int) == 1) = false := by simp; omega
          have hn2 : ((((a :: b :: c :: t).map Val.c).length : Int) == 2) = false := by simp; omega
          (repeat' (first | (refine LW.is ?_; first | refine s_v ?_ | refine s_m ?_ | refine s_nil ?_ | refine s_gd ?_ | (refine s_gsplit rfl rfl rfl (fun hb => ?_) (fun hb => ?_) <;> refine fct hb (fun hp => ?_))) | (refine DR.is ?_; first | refine d_v ?_ | refine d_m ?_ | (apply d_nil; kernel_rfl) | refine d_gd ?_ | (refine d_gsplit rfl rfl rfl (fun hb => ?_) (fun hb => ?_) <;> refine fct hb (fun hp => ?_))) | refine c_go ?_ | refine s_region ?_ | refine d_region ?_ | (refine L.cond rfl (fun hb => ?_) (fun hb => ?_) <;> refine fct hb (fun hp => ?_))))
          all_goals (first | (apply L.ends1; exact rfl; exact rfl; exact rfl) | (apply L.ends2; exact rfl; exact rfl; exact rfl) | (apply L.ends3; exact rfl; exact rfl; exact rfl) | (apply L.ends1A; exact rfl; exact rfl; exact rfl) | (apply L.ends2A; exact rfl; exact rfl; exact rfl))
          all_goals kernel_rfl
      have q9 : (op == 9) = false := by simp [h9]
      by_cases h10 : op = 10
      · subst h10
        match vs with
        | [] =>
          (repeat' (first | (refine LW.is ?_; first | refine s_v ?_ | refine s_m ?_ | refine s_nil ?_ | refine s_gd ?_ | (refine s_gsplit rfl rfl rfl (fun hb => ?_) (fun hb => ?_) <;> refine fct hb (fun hp => ?_))) | (refine DR.is ?_; first | refine d_v ?_ | refine d_m ?_ | (apply d_nil; kernel_rfl) | refine d_gd ?_ | (refine d_gsplit rfl rfl rfl (fun hb => ?_) (fun hb => ?_) <;> refine fct hb (fun hp => ?_))) | refine c_go ?_ | refine s_region ?_ | refine d_region ?_ | (refine L.cond rfl (fun hb => ?_) (fun hb => ?_) <;> refine fct hb (fun hp => ?_))))
          all_goals (first | (apply L.ends1; exact rfl; exact rfl; exact rfl) | (apply L.ends2; exact rfl; exact rfl; exact rfl) | (apply L.ends3; exact rfl; exact rfl; exact rfl) | (apply L.ends1A; exact rfl; exact rfl; exact rfl) | (apply L.ends2A; exact rfl; exact rfl; exact rfl))
          all_goals kernel_rfl
        | [a] =>
          have e : restM 10 [a] = truthM (numM (a.k == 0)) := by simp [restM]
          rw [e]
          (repeat' (first | (refine LW.is ?_; first | (apply s_vr; exact rfl; apply v_indexA; exact rfl; exact rfl; decide; exact rfl; exact rfl) | (apply s_call0; exact rfl; rotate_left; exact rfl; rotate_left 3; exact num_any _; exact rfl) | (apply s_call0; exact rfl; rotate_left; exact rfl; rotate_left 3; exact truth_any _; exact rfl) | refine s_v ?_ | refine s_m ?_ | refine s_nil ?_ | refine s_gd ?_ | (refine s_gsplit rfl rfl rfl (fun hb => ?_) (fun hb => ?_) <;> refine fct hb (fun hp => ?_))) | (refine DR.is ?_; first | (apply d_vr; exact rfl; apply v_indexA; exact rfl; exact rfl; decide; exact rfl; exact rfl) | (apply d_call0; exact rfl; rotate_left; exact rfl; rotate_left 3; exact num_any _; exact rfl) | (apply d_call0; exact rfl; rotate_left; exact rfl; rotate_left 3; exact truth_any _; exact rfl) | refine d_v ?_ | refine d_m ?_ | (apply d_nil; kernel_rfl) | refine d_gd ?_ | (refine d_gsplit rfl rfl rfl (fun hb => ?_) (fun hb => ?_) <;> refine fct hb (fun hp => ?_))) | refine c_go ?_ | refine s_region ?_ | refine d_region ?_ | (refine L.cond rfl (fun hb => ?_) (fun hb => ?_) <;> refine fct hb (fun hp => ?_))))
          all_goals (first | (apply L.ends1; exact rfl; exact rfl; exact rfl) | (apply L.ends2; exact rfl; exact rfl; exact rfl) | (apply L.ends3; exact rfl; exact rfl; exact rfl) | (apply L.ends1A; exact rfl; exact rfl; exact rfl) | (apply L.ends2A; exact rfl; exact rfl; exact rfl))
          all_goals kernel_rfl
        | [a, b] =>
          (repeat' (first | (refine LW.is ?_; first | (apply s_vr; exact rfl; apply v_indexA; exact rfl; exact rfl; decide; exact rfl; exact rfl) | (apply s_call0; exact rfl; rotate_left; exact rfl; rotate_left 3; exact two_any 10 a b; exact rfl) | refine s_v ?_ | refine s_m ?_ | refine s_nil ?_ | refine s_gd ?_ | (refine s_gsplit rfl rfl rfl (fun hb => ?_) (fun hb => ?_) <;> refine fct hb (fun hp => ?_))) | (refine DR.is ?_; first | (apply d_vr; exact rfl; apply v_indexA; exact rfl; exact rfl; decide; exact rfl; exact rfl) | (apply d_call0; exact rfl; rotate_left; exact rfl; rotate_left 3; exact two_any 10 a b; exact rfl) | refine d_v ?_ | refine d_m ?_ | (apply d_nil; kernel_rfl) | refine d_gd ?_ | (refine d_gsplit rfl rfl rfl (fun hb => ?_) (fun hb => ?_) <;> refine fct hb (fun hp => ?_))) | refine c_go ?_ | refine s_region ?_ | refine d_region ?_ | (refine L.cond rfl (fun hb => ?_) (fun hb => ?_) <;> refine fct hb (fun hp => ?_))))
          all_goals (first | (apply L.ends1; exact rfl; exact rfl; exact rfl) | (apply L.ends2; exact rfl; exact rfl; exact rfl) | (apply L.ends3; exact rfl; exact rfl; exact rfl) | (apply L.ends1A; exact rfl; exact rfl; exact rfl) | (apply L.ends2A; exact rfl; exact rfl; exact rfl))
          all_goals kernel_rfl
        | a :: b :: c :: t =>
          have hn1 : ((((a :: b :: c :: t).map Val.c).length : Int) == 1) = false := by simp; omega
          have hn2 : ((((a :: b :: c :: t).map Val.c).length : Int) == 2) = false := by simp; omega
          (repeat' (first | (refine LW.is ?_; first | refine s_v ?_ | refine s_m ?_ | refine s_nil ?_ | refine s_gd ?_ | (refine s_gsplit rfl rfl rfl (fun hb => ?_) (fun hb => ?_) <;> refine fct hb (fun hp => ?_))) | (refine DR.is ?_; first | refine d_v ?_ | refine d_m ?_ | (apply d_nil; kernel_rfl) | refine d_gd ?_ | (refine d_gsplit rfl rfl rfl (fun hb => ?_) (fun hb => ?_) <;> refine fct hb (fun hp => ?_))) | refine c_go ?_ | refine s_region ?_ | refine d_region ?_ | (refine L.cond rfl (fun hb => ?_) (fun hb => ?_) <;> refine fct hb (fun hp => ?_))))
          all_goals (first | (apply L.ends1; exact rfl; exact rfl; exact rfl) | (apply L.ends2; exact rfl; exact rfl; exact rfl) | (apply L.ends3; exact rfl; exact rfl; exact rfl) | (apply L.ends1A; exact rfl; exact rfl; exact rfl) | (apply L.ends2A; exact rfl; exact rfl; exact rfl))
          all_goals kernel_rfl
      have q10 : (op == 10) = false := by simp [h10]
      match vs with
      | [] =>
        (repeat' (first | (refine LW.is ?_; first | refine s_v ?_ | refine s_m ?_ | refine s_nil ?_ | refine s_gd ?_ | (refine s_gsplit rfl rfl rfl (fun hb => ?_) (fun hb => ?_) <;> refine fct hb (fun hp => ?_))) | (refine DR.is ?_; first | refine d_v ?_ | refine d_m ?_ | (apply d_nil; kernel_rfl) | refine d_gd ?_ | (refine d_gsplit rfl rfl rfl (fun hb => ?_) (fun hb => ?_) <;> refine fct hb (fun hp => ?_))) | refine c_go ?_ | refine s_region ?_ | refine d_region ?_ | (refine L.cond rfl (fun hb => ?_) (fun hb => ?_) <;> refine fct hb (fun hp => ?_))))
        all_goals (first | (apply L.ends1; exact rfl; exact rfl; exact rfl) | (apply L.ends2; exact rfl; exact rfl; exact rfl) | (apply L.ends3; exact rfl; exact rfl; exact rfl) | (apply L.ends1A; exact rfl; exact rfl; exact rfl) | (apply L.ends2A; exact rfl; exact rfl; exact rfl))
        all_goals kernel_rfl
      | [a] =>
        have e : restM op [a] = nilV := by simp [restM, h9, h10]
        rw [e]
        (repeat' (first | (refine LW.is ?_; first | refine s_v ?_ | refine s_m ?_ | refine s_nil ?_ | refine s_gd ?_ | (refine s_gsplit rfl rfl rfl (fun hb => ?_) (fun hb => ?_) <;> refine fct hb (fun hp => ?_))) | (refine DR.is ?_; first | refine d_v ?_ | refine d_m ?_ | (apply d_nil; kernel_rfl) | refine d_gd ?_ | (refine d_gsplit rfl rfl rfl (fun hb => ?_) (fun hb => ?_) <;> refine fct hb (fun hp => ?_))) | refine c_go ?_ | refine s_region ?_ | refine d_region ?_ | (refine L.cond rfl (fun hb => ?_) (fun hb => ?_) <;> refine fct hb (fun hp => ?_))))
        all_goals (first | (apply L.ends1; exact rfl; exact rfl; exact rfl) | (apply L.ends2; exact rfl; exact rfl; exact rfl) | (apply L.ends3; exact rfl; exact rfl; exact rfl) | (apply L.ends1A; exact rfl; exact rfl; exact rfl) | (apply L.ends2A; exact rfl; exact rfl; exact rfl))
        all_goals kernel_rfl
      | [a, b] =>
        (repeat' (first | (refine LW.is ?_; first | (apply s_vr; exact rfl; apply v_indexA; exact rfl; exact rfl; decide; exact rfl; exact rfl) | (apply s_call0; exact rfl; rotate_left; exact rfl; rotate_left 3; exact two_any op a b; exact rfl) | refine s_v ?_ | refine s_m ?_ | refine s_nil ?_ | refine s_gd ?_ | (refine s_gsplit rfl rfl rfl (fun hb => ?_) (fun hb => ?_) <;> refine fct hb (fun hp => ?_))) | (refine DR.is ?_; first | (apply d_vr; exact rfl; apply v_indexA; exact rfl; exact rfl; decide; exact rfl; exact rfl) | (apply d_call0; exact rfl; rotate_left; exact rfl; rotate_left 3; exact two_any op a b; exact rfl) | refine d_v ?_ | refine d_m ?_ | (apply d_nil; kernel_rfl) | refine d_gd ?_ | (refine d_gsplit rfl rfl rfl (fun hb => ?_) (fun hb => ?_) <;> refine fct hb (fun hp => ?_))) | refine c_go ?_ | refine s_region ?_ | refine d_region ?_ | (refine L.cond rfl (fun hb => ?_) (fun hb => ?_) <;> refine fct hb (fun hp => ?_))))
        all_goals (first | (apply L.ends1; exact rfl; exact rfl; exact rfl) | (apply L.ends2; exact rfl; exact rfl; exact rfl) | (apply L.ends3; exact rfl; exact rfl; exact rfl) | (apply L.ends1A; exact rfl; exact rfl; exact rfl) | (apply L.ends2A; exact rfl; exact rfl; exact rfl))
        all_goals kernel_rfl
      | a :: b :: c :: t =>
        have hn2 : ((((a :: b :: c :: t).map Val.c).length : Int) == 2) = false := by simp; omega
        (repeat' (first | (refine LW.is ?_; first | refine s_v ?_ | refine s_m ?_ | refine s_nil ?_ | refine s_gd ?_ | (refine s_gsplit rfl rfl rfl (fun hb => ?_) (fun hb => ?_) <;> refine fct hb (fun hp => ?_))) | (refine DR.is ?_; first | refine d_v ?_ | refine d_m ?_ | (apply d_nil; kernel_rfl) | refine d_gd ?_ | (refine d_gsplit rfl rfl rfl (fun hb => ?_) (fun hb => ?_) <;> refine fct hb (fun hp => ?_))) | refine c_go ?_ | refine s_region ?_ | refine d_region ?_ | (refine L.cond rfl (fun hb => ?_) (fun hb => ?_) <;> refine fct hb (fun hp => ?_))))
        all_goals (first | (apply L.ends1; exact rfl; exact rfl; exact rfl) | (apply L.ends2; exact rfl; exact rfl; exact rfl) | (apply L.ends3; exact rfl; exact rfl; exact rfl) | (apply L.ends1A; exact rfl; exact rfl; exact rfl) | (apply L.ends2A; exact rfl; exact rfl; exact rfl))
        all_goals kernel_rfl
 termination_by e => SizeOf.sizeOf e
 decreasing_by
  have := List.sizeOf_lt_of_mem hx
  simp; omega
end Go.Proofs.YthkobnpogigkiaaDoor
/- The laid variables that the walks read, as published cells. Conditions: none. -/
namespace Go.Proofs.YthkobnpogigkiaaDoor
open Go.Abs
def words : List (List UInt8) := [[97, 110, 100], [98, 121], [99, 114, 101, 97, 116, 101], [100, 101, 108, 101, 116, 101], [100, 101, 115, 99], [100, 114, 111, 112], [102, 114, 111, 109], [105, 110, 100, 101, 120], [105, 110, 115, 101, 114, 116], [105, 110, 116], [105, 110, 116, 111], [105, 115], [108, 105, 109, 105, 116], [109, 117, 115, 116], [110, 111, 116], [110, 117, 108, 108], [111, 110], [111, 114], [111, 114, 100, 101, 114], [115, 101, 108, 101, 99, 116], [115, 101, 116], [116, 97, 98, 108, 101], [116, 101, 120, 116], [117, 112, 100, 97, 116, 101], [118, 97, 108, 117, 101, 115], [119, 104, 101, 114, 101]]
theorem words_len : words.length = 26 := rfl
def gs0 : Globs := [(0, [.sl (words.map fun s => [S s])])]
theorem gs_words : (0, [IV.sl (words.map fun s => [S s])]) ∈ gs0 := by simp [gs0]
attribute [irreducible] words gs0
end Go.Proofs.YthkobnpogigkiaaDoor
/- Trees: what isNaN, Less, Good and Size compute. Conditions: how much there is of what comes in. -/
namespace Go.Proofs.YthkobnpogigkiaaDoor
open Go.Abs
set_option maxRecDepth 100000
attribute [local irreducible] L Code.wp bodyPost Exit.then Exit.inBlock
set_option linter.unusedVariables false
set_option linter.unusedSimpArgs false
abbrev Str := List UInt8
def Str.c (s : Str) : List IV := [S s]
end Go.Proofs.YthkobnpogigkiaaDoor
/- Trees: what Good and Size compute. Conditions: how much there is of what comes in. -/
namespace Go.Proofs.YthkobnpogigkiaaDoor
open Go.Abs
set_option maxRecDepth 100000
attribute [local irreducible] L Code.wp bodyPost Exit.then Exit.inBlock
set_option linter.unusedVariables false
set_option linter.unusedSimpArgs false
end Go.Proofs.YthkobnpogigkiaaDoor
/- Trees: where a key is, by halving: what BinarySearch and place compute. Conditions: the keys rise; how much there is of what comes in. -/
namespace Go.Proofs.YthkobnpogigkiaaDoor
open Go.Abs
set_option maxRecDepth 100000
attribute [local irreducible] L Code.wp bodyPost Exit.then Exit.inBlock
set_option linter.unusedVariables false
set_option linter.unusedSimpArgs false
end Go.Proofs.YthkobnpogigkiaaDoor
/- Trees: what place and Get compute. Conditions: the tree is good; how much there is of what comes in. -/
namespace Go.Proofs.YthkobnpogigkiaaDoor
open Go.Abs
set_option maxRecDepth 100000
attribute [local irreducible] L Code.wp bodyPost Exit.then Exit.inBlock
set_option linter.unusedVariables false
set_option linter.unusedSimpArgs false
end Go.Proofs.YthkobnpogigkiaaDoor
/- Trees, plain laws: a good tree's keys rise. Conditions: none. -/
namespace Go.Proofs.YthkobnpogigkiaaDoor
open Go.Abs
set_option linter.unusedVariables false
set_option linter.unusedSimpArgs false
end Go.Proofs.YthkobnpogigkiaaDoor
/- Trees: what Get and Range compute. Conditions: how much there is of what comes in. -/
namespace Go.Proofs.YthkobnpogigkiaaDoor
open Go.Abs
set_option maxRecDepth 100000
attribute [local irreducible] L Code.wp bodyPost Exit.then Exit.inBlock
set_option linter.unusedVariables false
set_option linter.unusedSimpArgs false
abbrev Pr := Str × Str
end Go.Proofs.YthkobnpogigkiaaDoor
/- Trees, plain laws: what a range holds. Conditions: none. -/
namespace Go.Proofs.YthkobnpogigkiaaDoor
open Go.Abs
set_option linter.unusedVariables false
set_option linter.unusedSimpArgs false
end Go.Proofs.YthkobnpogigkiaaDoor
/- The law TreeRanges answers true, if 'trees' does. Conditions: how much there is of what comes in. -/
namespace Go.Proofs.YthkobnpogigkiaaDoor
open Go.Abs
set_option maxRecDepth 100000
attribute [local irreducible] L Code.wp bodyPost Exit.then Exit.inBlock
set_option linter.unusedVariables false
set_option linter.unusedSimpArgs false
end Go.Proofs.YthkobnpogigkiaaDoor
/- Trees: what slices.Clone computes: a row of one's own. Conditions: how much there is of what comes in. -/
namespace Go.Proofs.YthkobnpogigkiaaDoor
open Go.Abs
set_option maxRecDepth 100000
attribute [local irreducible] L Code.wp bodyPost Exit.then Exit.inBlock
set_option linter.unusedVariables false
set_option linter.unusedSimpArgs false
end Go.Proofs.YthkobnpogigkiaaDoor
/- Trees: what slices.Insert computes: a row of one's own with one element more. Conditions: the place is within; how much there is of what comes in. -/
namespace Go.Proofs.YthkobnpogigkiaaDoor
open Go.Abs
set_option maxRecDepth 100000
attribute [local irreducible] L Code.wp bodyPost Exit.then Exit.inBlock
set_option linter.unusedVariables false
set_option linter.unusedSimpArgs false
end Go.Proofs.YthkobnpogigkiaaDoor
/- Trees: what slices.Delete computes of one element: a row of one's own with one element less. Conditions: the place is within. -/
namespace Go.Proofs.YthkobnpogigkiaaDoor
open Go.Abs
set_option maxRecDepth 100000
attribute [local irreducible] L Code.wp bodyPost Exit.then Exit.inBlock
set_option linter.unusedVariables false
set_option linter.unusedSimpArgs false
end Go.Proofs.YthkobnpogigkiaaDoor
/- Trees: what page and Put compute. Conditions: the tree is good; how much there is of what comes in. -/
namespace Go.Proofs.YthkobnpogigkiaaDoor
open Go.Abs
set_option maxRecDepth 100000
attribute [local irreducible] L Code.wp bodyPost Exit.then Exit.inBlock
set_option linter.unusedVariables false
set_option linter.unusedSimpArgs false
theorem maxL : maxLen = 9223372036854775807 := rfl
end Go.Proofs.YthkobnpogigkiaaDoor
/- Trees: what Put computes. Conditions: how much there is of what comes in. -/
namespace Go.Proofs.YthkobnpogigkiaaDoor
open Go.Abs
set_option maxRecDepth 100000
attribute [local irreducible] L Code.wp bodyPost Exit.then Exit.inBlock
set_option linter.unusedVariables false
set_option linter.unusedSimpArgs false
end Go.Proofs.YthkobnpogigkiaaDoor
/- Trees: what Grow, Concat and join compute. Conditions: how much there is of what comes in. -/
namespace Go.Proofs.YthkobnpogigkiaaDoor
open Go.Abs
set_option maxRecDepth 100000
attribute [local irreducible] L Code.wp bodyPost Exit.then Exit.inBlock
set_option linter.unusedVariables false
set_option linter.unusedSimpArgs false
end Go.Proofs.YthkobnpogigkiaaDoor
/- Trees: what Drop computes. Conditions: how much there is of what comes in. -/
namespace Go.Proofs.YthkobnpogigkiaaDoor
open Go.Abs
set_option maxRecDepth 100000
attribute [local irreducible] L Code.wp bodyPost Exit.then Exit.inBlock
set_option linter.unusedVariables false
set_option linter.unusedSimpArgs false
end Go.Proofs.YthkobnpogigkiaaDoor
/- Trees, plain laws: what Put, Drop, Get and Size do to the keys and texts of a good tree: what is put is there, what is dropped is not, all else is as it was. Conditions: none. -/
namespace Go.Proofs.YthkobnpogigkiaaDoor
open Go.Abs
set_option linter.unusedVariables false
set_option linter.unusedSimpArgs false
section
variable {a b : List Pr} {k v w : Str} (ha : ∀ x ∈ a, x.1 < k) (hb : ∀ x ∈ b, k < x.1)
include ha hb
end
theorem take_all {α : Type} {l : List α} {i : Nat} (h : l[i]? = none) : l.take i = l := List.take_of_length_le (List.getElem?_eq_none_iff.1 h)
end Go.Proofs.YthkobnpogigkiaaDoor
/- Tables: what Named, FindCol and FindTable compute, and searches by a function of one's own. Conditions: how much there is of what comes in. -/
namespace Go.Proofs.YthkobnpogigkiaaDoor
open Go.Abs
set_option maxRecDepth 100000
attribute [local irreducible] L Code.wp bodyPost Exit.then Exit.inBlock
set_option linter.unusedVariables false
set_option linter.unusedSimpArgs false
structure Col where
  n : Str
  t : Int
  m : Bool
def Col.c (x : Col) : List IV := [S x.n, I x.t, .im (.bool x.m)]
structure Tab where
  n : Str
  cols : List Col
def Tab.c (x : Tab) : List IV := [S x.n, .sl (x.cols.map Col.c)]
structure Idx where
  n : Str
  tb : Str
  co : Str
def Idx.c (x : Idx) : List IV := [S x.n, S x.tb, S x.co]
structure Cat where
  ts : List Tab
  is : List Idx
def Cat.c (x : Cat) : List IV := [.sl (x.ts.map Tab.c), .sl (x.is.map Idx.c)]
theorem dF {a b : Prop} [Decidable a] [Decidable b] (h : decide a = false) (hab : b → a) : decide b = false := decide_eq_false (fun hb => of_decide_eq_false h (hab hb))
theorem dT {a b : Prop} [Decidable a] [Decidable b] (h : decide a = true) (hab : a → b) : decide b = true := decide_eq_true (hab (of_decide_eq_true h))
def idxM {α : Type} (p : α → Bool) (l : List α) : Int := match l.findIdx? p with | some i => (i : Int) | none => -1
theorem idx_at {α : Type} {p : α → Bool} {l : List α} {i : Nat} {x : α} (h : ∀ y ∈ l.take i, p y = false) (hx : l[i]? = some x) (hp : p x = true) : idxM p l = i := by
  have hi := (List.getElem?_eq_some_iff.1 hx).1
  have e : l.findIdx? p = some i := by
    rw [List.findIdx?_eq_some_iff_getElem]
    refine ⟨hi, by rw [(List.getElem?_eq_some_iff.1 hx).2]; exact hp, fun j hj => ?_⟩
    rw [h l[j] (List.mem_take_iff_getElem.2 ⟨j, by omega, rfl⟩)]; simp
  rw [idxM, e]
theorem idx_no {α : Type} {p : α → Bool} {l : List α} (h : ∀ y ∈ l, p y = false) : idxM p l = -1 := by
  rw [idxM, List.findIdx?_eq_none_iff.2 h]
theorem idx_ge {α : Type} (p : α → Bool) (l : List α) : decide (0 ≤ idxM p l) = l.any p := by
  unfold idxM
  cases h : l.findIdx? p with
  | none =>
    rw [List.findIdx?_eq_none_iff] at h
    have : l.any p = false := List.any_eq_false.2 (fun x hx => by simp [h x hx])
    rw [this]; decide
  | some i =>
    have hi := List.findIdx?_eq_some_iff_getElem.1 h
    obtain ⟨h1, h2, _⟩ := hi
    have : l.any p = true := List.any_eq_true.2 ⟨_, List.getElem_mem h1, h2⟩
    rw [this]; simp
theorem idx_lt {α : Type} {p : α → Bool} {l : List α} {i : Nat} (h : idxM p l = (i : Int)) : ∃ x, l[i]? = some x ∧ p x = true ∧ ∀ y ∈ l.take i, p y = false := by
  unfold idxM at h
  cases hf : l.findIdx? p with
  | none => rw [hf] at h; simp only at h; omega
  | some j =>
    rw [hf] at h
    have : j = i := by simp only at h; omega
    subst this
    obtain ⟨h1, h2, h3⟩ := List.findIdx?_eq_some_iff_getElem.1 hf
    refine ⟨l[j], List.getElem?_eq_getElem h1, h2, fun y hy => ?_⟩
    obtain ⟨k, hk, rfl⟩ := List.mem_take_iff_getElem.1 hy
    have := h3 k (by omega); simpa using this
theorem idx_ran {α : Type} (p : α → Bool) (l : List α) : -1 ≤ idxM p l ∧ idxM p l < (l.length : Int) + 1 ∧ idxM p l ≤ l.length := by
  unfold idxM
  cases h : l.findIdx? p with
  | none => simp; omega
  | some i => have := (List.findIdx?_eq_some_iff_getElem.1 h).1; simp; omega
theorem take_snoc {α : Type} {p : α → Bool} {l : List α} {i : Nat} {x : α} (h : ∀ y ∈ l.take i, p y = false) (hx : l[i]? = some x) (hp : p x = false) : ∀ y ∈ l.take (i + 1), p y = false := fun y hy => by
  rw [List.take_add_one, hx] at hy
  rcases List.mem_append.1 hy with hy | hy
  · exact h y hy
  · simp at hy; subst hy; exact hp
theorem take_full {α : Type} {p : α → Bool} {l : List α} {i : Nat} (h : ∀ y ∈ l.take i, p y = false) (hx : l[i]? = none) : ∀ y ∈ l, p y = false := by
  rw [List.take_of_length_le (List.getElem?_eq_none_iff.1 hx)] at h; exact h
set_option maxRecDepth 100000 in
set_option maxHeartbeats 4000000 in
theorem indexS_any (l : List Str) (x : Str) (hl : l.length ≤ 140737488355328) :
    CallA Tryd.prog 119 [.iv (.sl (l.map Str.c)), aS x] [] [] [] (aI (idxM (fun y => x == y) l)) := by
  refine CallA.intro _ Tryd.func119 rfl Tryd.ntmps119 rfl (fun w0 E0 => ?_)
  (repeat' (first | (refine LW.is ?_; first | refine s_v ?_ | refine s_m ?_ | refine s_nil ?_ | refine s_gd ?_ | (refine s_gsplit rfl rfl rfl (fun hb => ?_) (fun hb => ?_) <;> refine fct hb (fun hp => ?_))) | (refine DR.is ?_; first | refine d_v ?_ | refine d_m ?_ | (apply d_nil; kernel_rfl) | refine d_gd ?_ | (refine d_gsplit rfl rfl rfl (fun hb => ?_) (fun hb => ?_) <;> refine fct hb (fun hp => ?_))) | refine c_go ?_ | refine s_region ?_ | refine d_region ?_ | (refine L.cond rfl (fun hb => ?_) (fun hb => ?_) <;> refine fct hb (fun hp => ?_))))
  refine L.loopP (ι := Nat) (fun i => ⟨[(8, aI (i : Int)), (7, aI ((l.map Str.c).length : Int)), (0, .iv (.sl (l.map Str.c))), (1, aS x)], [], []⟩) (fun i => l.length - i) (fun i => ∀ y ∈ l.take i, (x == y) = false) (i0 := 0) ?_ (by simp) ?_
  · (refine Wk.mk' (by intro id h; cases h) ?_ ?_ ?_ <;> repeat' (first | exact WkF.nil | exact WkB.nil | exact WkT.nil | (refine WkF.cons rfl (Sub.refl _) ?_) | (refine WkB.cons rfl rfl (Subs.refl _) ?_) | (refine WkT.cons rfl ?_)))
  intro i hI K hK
  cases hx : l[i]? with
  | none =>
    have hlt := ltF (l := l.map Str.c) (getFN hx)
    (repeat' (first | (refine LW.is ?_; first | refine s_v ?_ | refine s_m ?_ | refine s_nil ?_ | refine s_gd ?_ | (refine s_gsplit rfl rfl rfl (fun hb => ?_) (fun hb => ?_) <;> refine fct hb (fun hp => ?_))) | (refine DR.is ?_; first | refine d_v ?_ | refine d_m ?_ | (apply d_nil; kernel_rfl) | refine d_gd ?_ | (refine d_gsplit rfl rfl rfl (fun hb => ?_) (fun hb => ?_) <;> refine fct hb (fun hp => ?_))) | refine c_go ?_ | refine s_region ?_ | refine d_region ?_ | (refine L.cond rfl (fun hb => ?_) (fun hb => ?_) <;> refine fct hb (fun hp => ?_))))
    all_goals (first | (apply L.ends1; exact rfl; exact rfl; exact rfl) | (apply L.ends2; exact rfl; exact rfl; exact rfl) | (apply L.ends3; exact rfl; exact rfl; exact rfl) | (apply L.ends1A; exact rfl; exact rfl; exact rfl) | (apply L.ends2A; exact rfl; exact rfl; exact rfl))
    rw [idx_no (take_full hI hx)]
  | some y =>
    have hlt := ltT (l := l.map Str.c) (getF (f := Str.c) hx)
    have hlt' := ltN hx
    have g1 : (l.map Str.c)[((i : Nat) : Int).toNat]? = some [S y] := by rw [Int.toNat_natCast, List.getElem?_map, hx]; rfl
    cases hq : (x == y) with
    | true =>
      (repeat' (first | (refine LW.is ?_; first | (apply s_vr; exact rfl; apply v_indexA; exact rfl; exact rfl; omega; exact g1; exact rfl) | refine s_v ?_ | refine s_m ?_ | refine s_nil ?_ | refine s_gd ?_ | (refine s_gsplit rfl rfl rfl (fun hb => ?_) (fun hb => ?_) <;> refine fct hb (fun hp => ?_))) | (refine DR.is ?_; first | (apply d_vr; exact rfl; apply v_indexA; exact rfl; exact rfl; omega; exact g1; exact rfl) | refine d_v ?_ | refine d_m ?_ | (apply d_nil; kernel_rfl) | refine d_gd ?_ | (refine d_gsplit rfl rfl rfl (fun hb => ?_) (fun hb => ?_) <;> refine fct hb (fun hp => ?_))) | refine c_go ?_ | refine s_region ?_ | refine d_region ?_ | (refine L.cond rfl (fun hb => ?_) (fun hb => ?_) <;> refine fct hb (fun hp => ?_))))
      all_goals (first | (apply L.ends1; exact rfl; exact rfl; exact rfl) | (apply L.ends2; exact rfl; exact rfl; exact rfl) | (apply L.ends3; exact rfl; exact rfl; exact rfl) | (apply L.ends1A; exact rfl; exact rfl; exact rfl) | (apply L.ends2A; exact rfl; exact rfl; exact rfl))
      rw [idx_at hI hx hq]
    | false =>
      (repeat' (first | (refine LW.is ?_; first | (apply s_vr; exact rfl; apply v_indexA; exact rfl; exact rfl; omega; exact g1; exact rfl) | refine s_v ?_ | refine s_m ?_ | refine s_nil ?_ | refine s_gd ?_ | (refine s_gsplit rfl rfl rfl (fun hb => ?_) (fun hb => ?_) <;> refine fct hb (fun hp => ?_))) | (refine DR.is ?_; first | (apply d_vr; exact rfl; apply v_indexA; exact rfl; exact rfl; omega; exact g1; exact rfl) | refine d_v ?_ | refine d_m ?_ | (apply d_nil; kernel_rfl) | refine d_gd ?_ | (refine d_gsplit rfl rfl rfl (fun hb => ?_) (fun hb => ?_) <;> refine fct hb (fun hp => ?_))) | refine c_go ?_ | refine s_region ?_ | refine d_region ?_ | (refine L.cond rfl (fun hb => ?_) (fun hb => ?_) <;> refine fct hb (fun hp => ?_))))
      refine hK _ (i + 1) (take_snoc hI hx hq) (by omega) ?_
      (refine Wk.mk' (by intro id h; cases h) ?_ ?_ ?_ <;> repeat' (first | exact WkF.nil | exact WkB.nil | exact WkT.nil | (refine WkF.cons rfl (Sub.refl _) ?_) | (refine WkB.cons rfl rfl (Subs.refl _) ?_) | (refine WkT.cons rfl ?_)))
theorem containsS_any (l : List Str) (x : Str) (hl : l.length ≤ 140737488355328) :
    CallA Tryd.prog 89 [.iv (.sl (l.map Str.c)), aS x] [] [] [] (aB (l.any (fun y => x == y))) := by
  have k := indexS_any l x hl
  refine CallA.intro _ Tryd.func89 rfl Tryd.ntmps89 rfl (fun w0 E0 => ?_)
  rw [← idx_ge]
  (repeat' (first | (refine LW.is ?_; first | (apply s_call0; exact rfl; exact k; exact rfl; exact rfl) | refine s_v ?_ | refine s_m ?_ | refine s_nil ?_ | refine s_gd ?_ | (refine s_gsplit rfl rfl rfl (fun hb => ?_) (fun hb => ?_) <;> refine fct hb (fun hp => ?_))) | (refine DR.is ?_; first | (apply d_call0; exact rfl; exact k; exact rfl; exact rfl) | refine d_v ?_ | refine d_m ?_ | (apply d_nil; kernel_rfl) | refine d_gd ?_ | (refine d_gsplit rfl rfl rfl (fun hb => ?_) (fun hb => ?_) <;> refine fct hb (fun hp => ?_))) | refine c_go ?_ | refine s_region ?_ | refine d_region ?_ | (refine L.cond rfl (fun hb => ?_) (fun hb => ?_) <;> refine fct hb (fun hp => ?_))))
  all_goals (first | (apply L.ends1; exact rfl; exact rfl; exact rfl) | (apply L.ends2; exact rfl; exact rfl; exact rfl) | (apply L.ends3; exact rfl; exact rfl; exact rfl) | (apply L.ends1A; exact rfl; exact rfl; exact rfl) | (apply L.ends2A; exact rfl; exact rfl; exact rfl))
  all_goals (simp [decide_eq_decide]; done)
def lowC (b : UInt8) : Bool := 97 ≤ b.toNat && b.toNat ≤ 122
def namedM (s : Str) : Bool := s.all lowC && (decide (1 ≤ s.length) && (decide (s.length ≤ 8) && !words.any (fun y => s == y)))
set_option maxRecDepth 100000 in
set_option maxHeartbeats 4000000 in
theorem named_any (s : Str) (hl : s.length ≤ 140737488355328) :
    CallG gs0 Tryd.prog 46 [aS s] [] [] [] (aB (namedM s)) := by
  have k := (containsS_any words s (by rw [words_len]; decide)).toG (gs := gs0)
  refine CallG.intro _ Tryd.func46 rfl Tryd.ntmps46 rfl (fun w0 E0 hG => ?_)
  (repeat' (first | (refine LW.is ?_; first | refine s_v ?_ | refine s_m ?_ | refine s_nil ?_ | refine s_gd ?_ | (refine s_gsplit rfl rfl rfl (fun hb => ?_) (fun hb => ?_) <;> refine fct hb (fun hp => ?_))) | (refine DR.is ?_; first | refine d_v ?_ | refine d_m ?_ | (apply d_nil; kernel_rfl) | refine d_gd ?_ | (refine d_gsplit rfl rfl rfl (fun hb => ?_) (fun hb => ?_) <;> refine fct hb (fun hp => ?_))) | refine c_go ?_ | refine s_region ?_ | refine d_region ?_ | (refine L.cond rfl (fun hb => ?_) (fun hb => ?_) <;> refine fct hb (fun hp => ?_))))
  refine L.loopP (ι := Nat) (fun i => ⟨[(6, aI (i : Int)), (5, aI (s.length : Int)), (0, aS s)], [], []⟩) (fun i => s.length - i) (fun i => s.all lowC = (s.drop i).all lowC) (i0 := 0) ?_ rfl ?_
  · (refine Wk.mk' (by intro id h; cases h) ?_ ?_ ?_ <;> repeat' (first | exact WkF.nil | exact WkB.nil | exact WkT.nil | (refine WkF.cons rfl (Sub.refl _) ?_) | (refine WkB.cons rfl rfl (Subs.refl _) ?_) | (refine WkT.cons rfl ?_)))
  intro i hI K hK
  cases hx : s[i]? with
  | none =>
    have hlt := ltF hx
    rw [dropN hx] at hI
    have hI : s.all lowC = true := hI
    cases h1 : decide ((1 : Int) ≤ (s.length : Int)) with
    | false =>
      (repeat' (first | (refine LW.is ?_; first | refine s_v ?_ | refine s_m ?_ | refine s_nil ?_ | refine s_gd ?_ | (refine s_gsplit rfl rfl rfl (fun hb => ?_) (fun hb => ?_) <;> refine fct hb (fun hp => ?_))) | (refine DR.is ?_; first | refine d_v ?_ | refine d_m ?_ | (apply d_nil; kernel_rfl) | refine d_gd ?_ | (refine d_gsplit rfl rfl rfl (fun hb => ?_) (fun hb => ?_) <;> refine fct hb (fun hp => ?_))) | refine c_go ?_ | refine s_region ?_ | refine d_region ?_ | (refine L.cond rfl (fun hb => ?_) (fun hb => ?_) <;> refine fct hb (fun hp => ?_))))
      all_goals (first | (apply L.ends1; exact rfl; exact rfl; exact rfl) | (apply L.ends2; exact rfl; exact rfl; exact rfl) | (apply L.ends3; exact rfl; exact rfl; exact rfl) | (apply L.ends1A; exact rfl; exact rfl; exact rfl) | (apply L.ends2A; exact rfl; exact rfl; exact rfl))
      have : decide (1 ≤ s.length) = false := dF h1 (fun h => by omega)
      simp [namedM, this]
    | true =>
      have e1 : decide (1 ≤ s.length) = true := dT h1 (fun h => by omega)
      cases h2 : decide ((s.length : Int) ≤ 8) with
      | false =>
        (repeat' (first | (refine LW.is ?_; first | refine s_v ?_ | refine s_m ?_ | refine s_nil ?_ | refine s_gd ?_ | (refine s_gsplit rfl rfl rfl (fun hb => ?_) (fun hb => ?_) <;> refine fct hb (fun hp => ?_))) | (refine DR.is ?_; first | refine d_v ?_ | refine d_m ?_ | (apply d_nil; kernel_rfl) | refine d_gd ?_ | (refine d_gsplit rfl rfl rfl (fun hb => ?_) (fun hb => ?_) <;> refine fct hb (fun hp => ?_))) | refine c_go ?_ | refine s_region ?_ | refine d_region ?_ | (refine L.cond rfl (fun hb => ?_) (fun hb => ?_) <;> refine fct hb (fun hp => ?_))))
        all_goals (first | (apply L.ends1; exact rfl; exact rfl; exact rfl) | (apply L.ends2; exact rfl; exact rfl; exact rfl) | (apply L.ends3; exact rfl; exact rfl; exact rfl) | (apply L.ends1A; exact rfl; exact rfl; exact rfl) | (apply L.ends2A; exact rfl; exact rfl; exact rfl))
        have : decide (s.length ≤ 8) = false := dF h2 (fun h => by omega)
        simp [namedM, this]
      | true =>
        have e2 : decide (s.length ≤ 8) = true := dT h2 (fun h => by omega)
        (repeat' (first | (refine LW.is ?_; first | (apply s_vr; exact rfl; apply v_loadG; exact hG; exact gs_words) | (apply s_callG; exact rfl; exact hG; exact k; exact rfl; exact rfl) | refine s_v ?_ | refine s_m ?_ | refine s_nil ?_ | refine s_gd ?_ | (refine s_gsplit rfl rfl rfl (fun hb => ?_) (fun hb => ?_) <;> refine fct hb (fun hp => ?_))) | (refine DR.is ?_; first | (apply d_vr; exact rfl; apply v_loadG; exact hG; exact gs_words) | (apply d_callG; exact rfl; exact hG; exact k; exact rfl; exact rfl) | refine d_v ?_ | refine d_m ?_ | (apply d_nil; kernel_rfl) | refine d_gd ?_ | (refine d_gsplit rfl rfl rfl (fun hb => ?_) (fun hb => ?_) <;> refine fct hb (fun hp => ?_))) | refine c_go ?_ | refine s_region ?_ | refine d_region ?_ | (refine L.cond rfl (fun hb => ?_) (fun hb => ?_) <;> refine fct hb (fun hp => ?_))))
        all_goals (first | (apply L.ends1; exact rfl; exact rfl; exact rfl) | (apply L.ends2; exact rfl; exact rfl; exact rfl) | (apply L.ends3; exact rfl; exact rfl; exact rfl) | (apply L.ends1A; exact rfl; exact rfl; exact rfl) | (apply L.ends2A; exact rfl; exact rfl; exact rfl))
        rw [namedM, hI, e1, e2]; rfl
  | some b =>
    have hlt := ltT hx
    have hlt' := ltN hx
    rw [dropC hx, List.all_cons] at hI
    (repeat' (first | (refine LW.is ?_; first | refine s_v ?_ | refine s_m ?_ | refine s_nil ?_ | refine s_gd ?_ | (refine s_gsplit rfl rfl rfl (fun hb => ?_) (fun hb => ?_) <;> refine fct hb (fun hp => ?_))) | (refine DR.is ?_; first | refine d_v ?_ | refine d_m ?_ | (apply d_nil; kernel_rfl) | refine d_gd ?_ | (refine d_gsplit rfl rfl rfl (fun hb => ?_) (fun hb => ?_) <;> refine fct hb (fun hp => ?_))) | refine c_go ?_ | refine s_region ?_ | refine d_region ?_ | (refine L.cond rfl (fun hb => ?_) (fun hb => ?_) <;> refine fct hb (fun hp => ?_))))
    all_goals try (first | (apply L.ends1; exact rfl; exact rfl; exact rfl) | (apply L.ends2; exact rfl; exact rfl; exact rfl) | (apply L.ends3; exact rfl; exact rfl; exact rfl) | (apply L.ends1A; exact rfl; exact rfl; exact rfl) | (apply L.ends2A; exact rfl; exact rfl; exact rfl))
    all_goals try (simp [namedM, hI, lowC, *]; done)
    all_goals try (simp [namedM, hI, lowC]; omega)
    refine hK _ (i + 1) ?_ (by omega) ?_
    · have h1 : lowC b = true := by
        simp [lowC]; omega
      rw [hI, h1]; rfl
    · (refine Wk.mk' (by intro id h; cases h) ?_ ?_ ?_ <;> repeat' (first | exact WkF.nil | exact WkB.nil | exact WkT.nil | (refine WkF.cons rfl (Sub.refl _) ?_) | (refine WkB.cons rfl rfl (Subs.refl _) ?_) | (refine WkT.cons rfl ?_)))
set_option maxRecDepth 100000 in
set_option maxHeartbeats 4000000 in
theorem indexFuncCol_any {gs : Globs} {f : FuncId} {caps : List AV} {bxi : List (Nat × Box)} [CallTy Tryd.prog f] (p : Col → Bool) (l : List Col) (hl : l.length ≤ 140737488355328) (hc : ∀ y ∈ l, CallG gs Tryd.prog f (.agg ((Col.c y).map .iv) :: caps) bxi bxi [] (aB (p y)))
    (hw : WkB bxi bxi) (hmb : bxi.all (fun p => !p.2.cs.isEmpty && AV.mentsIn (keys bxi) p.2.cs) = true) :
    CallG gs Tryd.prog 51 [.iv (.sl (l.map Col.c)), .fn f caps] bxi bxi [] (aI (idxM p l)) := by
  refine CallG.intro _ Tryd.func51 rfl Tryd.ntmps51 rfl (fun w0 E0 hG => ?_)
  (repeat' (first | (refine LW.is ?_; first | refine s_v ?_ | refine s_m ?_ | refine s_nil ?_ | refine s_gd ?_ | (refine s_gsplit rfl rfl rfl (fun hb => ?_) (fun hb => ?_) <;> refine fct hb (fun hp => ?_))) | (refine DR.is ?_; first | refine d_v ?_ | refine d_m ?_ | (apply d_nil; kernel_rfl) | refine d_gd ?_ | (refine d_gsplit rfl rfl rfl (fun hb => ?_) (fun hb => ?_) <;> refine fct hb (fun hp => ?_))) | refine c_go ?_ | refine s_region ?_ | refine d_region ?_ | (refine L.cond rfl (fun hb => ?_) (fun hb => ?_) <;> refine fct hb (fun hp => ?_))))
  refine L.loopP (ι := Nat) (fun i => ⟨[(8, aI (i : Int)), (7, aI ((l.map Col.c).length : Int)), (0, .iv (.sl (l.map Col.c))), (1, .fn f caps)], bxi, []⟩) (fun i => l.length - i) (fun i => ∀ y ∈ l.take i, p y = false) (i0 := 0) ?_ (by simp) ?_
  · exact Wk.mkX keys_some (.cons rfl (Sub.refl _) (.cons rfl (Sub.refl _) (.cons rfl (Sub.refl _) (.cons rfl (Sub.refl _) .nil)))) (fun s v h => h) .nil
  intro i hI K hK
  cases hx : l[i]? with
  | none =>
    have hlt := ltF (l := l.map Col.c) (getFN hx)
    rw [idx_no (take_full hI hx)]
    (repeat' (first | (refine LW.is ?_; first | refine s_v ?_ | refine s_m ?_ | refine s_nil ?_ | refine s_gd ?_ | (refine s_gsplit rfl rfl rfl (fun hb => ?_) (fun hb => ?_) <;> refine fct hb (fun hp => ?_))) | (refine DR.is ?_; first | refine d_v ?_ | refine d_m ?_ | (apply d_nil; kernel_rfl) | refine d_gd ?_ | (refine d_gsplit rfl rfl rfl (fun hb => ?_) (fun hb => ?_) <;> refine fct hb (fun hp => ?_))) | refine c_go ?_ | refine s_region ?_ | refine d_region ?_ | (refine L.cond rfl (fun hb => ?_) (fun hb => ?_) <;> refine fct hb (fun hp => ?_))))
    apply L.ends; exact rfl; exact rfl; exact Sub.refl _
    exact Wk.mkX keys_some .nil (fun s v h => h) .nil
  | some y =>
    have hlt := ltT (l := l.map Col.c) (getF (f := Col.c) hx)
    have hlt' := ltN hx
    have hcy := hc y (List.mem_of_getElem? hx)
    have g1 : (l.map Col.c)[((i : Nat) : Int).toNat]? = some [S y.n, I y.t, .im (.bool y.m)] := by rw [Int.toNat_natCast, List.getElem?_map, hx]; rfl
    cases hq : p y with
    | true =>
      rw [hq] at hcy
      have hcz : CallG gs Tryd.prog f ([.agg ((Col.c y).map .iv)] ++ caps) bxi bxi [] _ := hcy
      rw [idx_at hI hx hq]
      (repeat' (first | (apply s_callFn (f := f); exact rfl; exact hG; exact rfl; exact hcz; exact rfl; exact hw; exact hmb; exact rfl) | (refine LW.is ?_; first | (apply s_vr; exact rfl; apply v_indexA; exact rfl; exact rfl; omega; exact g1; exact rfl) | refine s_v ?_ | refine s_m ?_ | refine s_nil ?_ | refine s_gd ?_ | (refine s_gsplit rfl rfl rfl (fun hb => ?_) (fun hb => ?_) <;> refine fct hb (fun hp => ?_))) | (refine DR.is ?_; first | (apply d_vr; exact rfl; apply v_indexA; exact rfl; exact rfl; omega; exact g1; exact rfl) | refine d_v ?_ | refine d_m ?_ | (apply d_nil; kernel_rfl) | refine d_gd ?_ | (refine d_gsplit rfl rfl rfl (fun hb => ?_) (fun hb => ?_) <;> refine fct hb (fun hp => ?_))) | refine c_go ?_ | refine s_region ?_ | refine d_region ?_ | (refine L.cond rfl (fun hb => ?_) (fun hb => ?_) <;> refine fct hb (fun hp => ?_))))
      apply L.ends; exact rfl; exact rfl; exact Sub.refl _
      exact Wk.mkX keys_some .nil (fun s v h => lookup_app h) .nil
    | false =>
      rw [hq] at hcy
      have hcz : CallG gs Tryd.prog f ([.agg ((Col.c y).map .iv)] ++ caps) bxi bxi [] _ := hcy
      (repeat' (first | (apply s_callFn (f := f); exact rfl; exact hG; exact rfl; exact hcz; exact rfl; exact hw; exact hmb; exact rfl) | (refine LW.is ?_; first | (apply s_vr; exact rfl; apply v_indexA; exact rfl; exact rfl; omega; exact g1; exact rfl) | refine s_v ?_ | refine s_m ?_ | refine s_nil ?_ | refine s_gd ?_ | (refine s_gsplit rfl rfl rfl (fun hb => ?_) (fun hb => ?_) <;> refine fct hb (fun hp => ?_))) | (refine DR.is ?_; first | (apply d_vr; exact rfl; apply v_indexA; exact rfl; exact rfl; omega; exact g1; exact rfl) | refine d_v ?_ | refine d_m ?_ | (apply d_nil; kernel_rfl) | refine d_gd ?_ | (refine d_gsplit rfl rfl rfl (fun hb => ?_) (fun hb => ?_) <;> refine fct hb (fun hp => ?_))) | refine c_go ?_ | refine s_region ?_ | refine d_region ?_ | (refine L.cond rfl (fun hb => ?_) (fun hb => ?_) <;> refine fct hb (fun hp => ?_))))
      refine hK _ (i + 1) (take_snoc hI hx hq) (by omega) ?_
      exact Wk.mkX keys_some (.cons rfl (Sub.refl _) (.cons rfl (Sub.refl _) (.cons rfl (Sub.refl _) (.cons rfl (Sub.refl _) .nil)))) (fun s v h => lookup_app h) .nil
end Go.Proofs.YthkobnpogigkiaaDoor
