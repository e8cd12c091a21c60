/- Several texts in one, each with its own sentence ahead of it. Conditions: each one says its own. -/
import Derived.Test.YthkobnpogigkiaaDoorZPlanWays4
import Derived.Test.YthkobnpogigkiaaDoorChecked
import Derived.KernelRfl
import Derived.Test.YthkobnpogigkiaaDoorRows
/- Closed facts on the types and functions of this seat, by program off the translation. Conditions: none. -/
namespace Go.Proofs.YthkobnpogigkiaaDoor
open Go Go.Abs
set_option maxRecDepth 100000
instance : VarTy Tryd.prog 3 false 1 := ⟨by kernel_rfl⟩
instance : ZeroTy Tryd.prog 3 [.int .i64 0] := ⟨by kernel_rfl⟩
instance : IntTy Tryd.prog 3 .i64 := ⟨by kernel_rfl⟩
instance : VarTy Tryd.prog 4 false 1 := ⟨by kernel_rfl⟩
instance : ZeroTy Tryd.prog 5 [.int .u8 0] := ⟨by kernel_rfl⟩
instance : IntTy Tryd.prog 5 .u8 := ⟨by kernel_rfl⟩
instance : VarTy Tryd.prog 9 false 1 := ⟨by kernel_rfl⟩
instance : ZeroTy Tryd.prog 9 [.string ⟨#[]⟩] := ⟨by kernel_rfl⟩
instance : StrTy Tryd.prog 9 := ⟨by kernel_rfl⟩
instance : VarTy Tryd.prog 22 false 1 := ⟨by kernel_rfl⟩
instance : SliceTy Tryd.prog 22 43 2 := ⟨by kernel_rfl⟩
instance : VarTy Tryd.prog 23 false 1 := ⟨by kernel_rfl⟩
instance : SliceTy Tryd.prog 23 81 3 := ⟨by kernel_rfl⟩
instance : VarTy Tryd.prog 25 true 2 := ⟨by kernel_rfl⟩
instance : ZeroTy Tryd.prog 25 [.slice none 0 0, .slice none 0 0] := ⟨by kernel_rfl⟩
instance : FieldTy Tryd.prog 25 0 0 := ⟨by kernel_rfl⟩
instance : FieldTy Tryd.prog 25 1 1 := ⟨by kernel_rfl⟩
instance : PlacesTy Tryd.prog 25 [(0, 1), (1, 1)] := ⟨by kernel_rfl⟩
instance : VarTy Tryd.prog 26 false 1 := ⟨by kernel_rfl⟩
instance : SliceTy Tryd.prog 26 53 3 := ⟨by kernel_rfl⟩
instance : VarTy Tryd.prog 27 false 1 := ⟨by kernel_rfl⟩
instance : SliceTy Tryd.prog 27 30 1 := ⟨by kernel_rfl⟩
instance : AppTy Tryd.prog 27 30 1 24 := ⟨by kernel_rfl⟩
instance : VarTy Tryd.prog 28 false 1 := ⟨by kernel_rfl⟩
instance : SliceTy Tryd.prog 28 48 9 := ⟨by kernel_rfl⟩
instance : AppTy Tryd.prog 28 48 9 120 := ⟨by kernel_rfl⟩
instance : VarTy Tryd.prog 29 false 1 := ⟨by kernel_rfl⟩
instance : SliceTy Tryd.prog 29 9 1 := ⟨by kernel_rfl⟩
instance : AppTy Tryd.prog 29 9 1 16 := ⟨by kernel_rfl⟩
instance : RowTy Tryd.prog 29 9 1 16 := ⟨by kernel_rfl⟩
instance : VarTy Tryd.prog 30 false 1 := ⟨by kernel_rfl⟩
instance : ZeroTy Tryd.prog 30 [.slice none 0 0] := ⟨by kernel_rfl⟩
instance : SliceTy Tryd.prog 30 34 8 := ⟨by kernel_rfl⟩
instance : AppTy Tryd.prog 30 34 8 104 := ⟨by kernel_rfl⟩
instance : RowTy Tryd.prog 30 34 8 104 := ⟨by kernel_rfl⟩
instance : VarTy Tryd.prog 32 true 3 := ⟨by kernel_rfl⟩
instance : ZeroTy Tryd.prog 32 [.int .i64 0, .int .i64 0, .string ⟨#[]⟩] := ⟨by kernel_rfl⟩
instance : FieldTy Tryd.prog 32 0 0 := ⟨by kernel_rfl⟩
instance : FieldTy Tryd.prog 32 1 1 := ⟨by kernel_rfl⟩
instance : FieldTy Tryd.prog 32 2 2 := ⟨by kernel_rfl⟩
instance : PlacesTy Tryd.prog 32 [(0, 1), (1, 1), (2, 1)] := ⟨by kernel_rfl⟩
instance : EqTy Tryd.prog 32 [1, 1, 3] := ⟨by kernel_rfl⟩
instance : VarTy Tryd.prog 34 true 8 := ⟨by kernel_rfl⟩
instance : ZeroTy Tryd.prog 34 [.int .i64 0, .int .i64 0, .int .i64 0, .string ⟨#[]⟩, .string ⟨#[]⟩, .string ⟨#[]⟩, .int .i64 0, .slice none 0 0] := ⟨by kernel_rfl⟩
instance : FieldTy Tryd.prog 34 0 0 := ⟨by kernel_rfl⟩
instance : FieldTy Tryd.prog 34 1 1 := ⟨by kernel_rfl⟩
instance : FieldTy Tryd.prog 34 2 4 := ⟨by kernel_rfl⟩
instance : FieldTy Tryd.prog 34 3 5 := ⟨by kernel_rfl⟩
instance : FieldTy Tryd.prog 34 4 6 := ⟨by kernel_rfl⟩
instance : FieldTy Tryd.prog 34 5 7 := ⟨by kernel_rfl⟩
instance : PlacesTy Tryd.prog 34 [(0, 1), (1, 3), (4, 1), (5, 1), (6, 1), (7, 1)] := ⟨by kernel_rfl⟩
instance : VarTy Tryd.prog 36 true 20 := ⟨by kernel_rfl⟩
instance : ZeroTy Tryd.prog 36 [.int .i64 0, .string ⟨#[]⟩, .string ⟨#[]⟩, .string ⟨#[]⟩, .slice none 0 0, .slice none 0 0, .slice none 0 0, .slice none 0 0, .slice none 0 0, .int .i64 0, .int .i64 0, .int .i64 0, .string ⟨#[]⟩, .string ⟨#[]⟩, .string ⟨#[]⟩, .int .i64 0, .slice none 0 0, .slice none 0 0, .bool false, .int .i64 0] := ⟨by kernel_rfl⟩
instance : FieldTy Tryd.prog 36 0 0 := ⟨by kernel_rfl⟩
instance : FieldTy Tryd.prog 36 1 1 := ⟨by kernel_rfl⟩
instance : FieldTy Tryd.prog 36 2 2 := ⟨by kernel_rfl⟩
instance : FieldTy Tryd.prog 36 3 3 := ⟨by kernel_rfl⟩
instance : FieldTy Tryd.prog 36 4 4 := ⟨by kernel_rfl⟩
instance : FieldTy Tryd.prog 36 5 5 := ⟨by kernel_rfl⟩
instance : FieldTy Tryd.prog 36 6 6 := ⟨by kernel_rfl⟩
instance : FieldTy Tryd.prog 36 7 7 := ⟨by kernel_rfl⟩
instance : FieldTy Tryd.prog 36 8 8 := ⟨by kernel_rfl⟩
instance : FieldTy Tryd.prog 36 9 9 := ⟨by kernel_rfl⟩
instance : FieldTy Tryd.prog 36 10 17 := ⟨by kernel_rfl⟩
instance : PlacesTy Tryd.prog 36 [(0, 1), (1, 1), (2, 1), (3, 1), (4, 1), (5, 1), (6, 1), (7, 1), (8, 1), (9, 8), (17, 1), (18, 1), (19, 1)] := ⟨by kernel_rfl⟩
instance : VarTy Tryd.prog 37 false 1 := ⟨by kernel_rfl⟩
instance : ZeroTy Tryd.prog 37 [.slice none 0 0] := ⟨by kernel_rfl⟩
instance : SliceTy Tryd.prog 37 32 3 := ⟨by kernel_rfl⟩
instance : AppTy Tryd.prog 37 32 3 32 := ⟨by kernel_rfl⟩
instance : VarTy Tryd.prog 43 true 2 := ⟨by kernel_rfl⟩
instance : ZeroTy Tryd.prog 43 [.string ⟨#[]⟩, .slice none 0 0] := ⟨by kernel_rfl⟩
instance : FieldTy Tryd.prog 43 0 0 := ⟨by kernel_rfl⟩
instance : FieldTy Tryd.prog 43 1 1 := ⟨by kernel_rfl⟩
instance : PlacesTy Tryd.prog 43 [(0, 1), (1, 1)] := ⟨by kernel_rfl⟩
instance : VarTy Tryd.prog 48 true 9 := ⟨by kernel_rfl⟩
instance : ZeroTy Tryd.prog 48 [.string ⟨#[]⟩, .int .i64 0, .int .i64 0, .int .i64 0, .string ⟨#[]⟩, .string ⟨#[]⟩, .string ⟨#[]⟩, .int .i64 0, .slice none 0 0] := ⟨by kernel_rfl⟩
instance : FieldTy Tryd.prog 48 0 0 := ⟨by kernel_rfl⟩
instance : FieldTy Tryd.prog 48 1 1 := ⟨by kernel_rfl⟩
instance : PlacesTy Tryd.prog 48 [(0, 1), (1, 8)] := ⟨by kernel_rfl⟩
instance : VarTy Tryd.prog 53 true 3 := ⟨by kernel_rfl⟩
instance : ZeroTy Tryd.prog 53 [.string ⟨#[]⟩, .int .i64 0, .bool false] := ⟨by kernel_rfl⟩
instance : FieldTy Tryd.prog 53 0 0 := ⟨by kernel_rfl⟩
instance : FieldTy Tryd.prog 53 1 1 := ⟨by kernel_rfl⟩
instance : FieldTy Tryd.prog 53 2 2 := ⟨by kernel_rfl⟩
instance : PlacesTy Tryd.prog 53 [(0, 1), (1, 1), (2, 1)] := ⟨by kernel_rfl⟩
instance : SliceTy Tryd.prog 58 37 1 := ⟨by kernel_rfl⟩
instance : AppTy Tryd.prog 58 37 1 24 := ⟨by kernel_rfl⟩
instance : VarTy Tryd.prog 59 false 1 := ⟨by kernel_rfl⟩
instance : SliceTy Tryd.prog 59 127 2 := ⟨by kernel_rfl⟩
instance : RowTy Tryd.prog 59 127 2 48 := ⟨by kernel_rfl⟩
instance : VarTy Tryd.prog 61 true 1 := ⟨by kernel_rfl⟩
instance : ZeroTy Tryd.prog 61 [.slice none 0 0] := ⟨by kernel_rfl⟩
instance : FieldTy Tryd.prog 61 0 0 := ⟨by kernel_rfl⟩
instance : PlacesTy Tryd.prog 61 [(0, 1)] := ⟨by kernel_rfl⟩
instance : VarTy Tryd.prog 66 true 3 := ⟨by kernel_rfl⟩
instance : ZeroTy Tryd.prog 66 [.string ⟨#[]⟩, .string ⟨#[]⟩, .string ⟨#[]⟩] := ⟨by kernel_rfl⟩
instance : FieldTy Tryd.prog 66 0 0 := ⟨by kernel_rfl⟩
instance : FieldTy Tryd.prog 66 1 1 := ⟨by kernel_rfl⟩
instance : FieldTy Tryd.prog 66 2 2 := ⟨by kernel_rfl⟩
instance : FldTy Tryd.prog 66 2 2 := ⟨by kernel_rfl⟩
instance : PlacesTy Tryd.prog 66 [(0, 1), (1, 1), (2, 1)] := ⟨by kernel_rfl⟩
instance : VarTy Tryd.prog 81 true 3 := ⟨by kernel_rfl⟩
instance : ZeroTy Tryd.prog 81 [.string ⟨#[]⟩, .string ⟨#[]⟩, .string ⟨#[]⟩] := ⟨by kernel_rfl⟩
instance : FieldTy Tryd.prog 81 0 0 := ⟨by kernel_rfl⟩
instance : FieldTy Tryd.prog 81 1 1 := ⟨by kernel_rfl⟩
instance : FieldTy Tryd.prog 81 2 2 := ⟨by kernel_rfl⟩
instance : VarTy Tryd.prog 127 true 2 := ⟨by kernel_rfl⟩
instance : ZeroTy Tryd.prog 127 [.slice none 0 0, .slice none 0 0] := ⟨by kernel_rfl⟩
instance : FieldTy Tryd.prog 127 0 0 := ⟨by kernel_rfl⟩
instance : FieldTy Tryd.prog 127 1 1 := ⟨by kernel_rfl⟩
instance : PlacesTy Tryd.prog 127 [(0, 1), (1, 1)] := ⟨by kernel_rfl⟩
instance : SliceTy Tryd.prog 131 5 1 := ⟨by kernel_rfl⟩
instance : AppTy Tryd.prog 131 5 1 1 := ⟨by kernel_rfl⟩
instance : SliceTy Tryd.prog 143 43 2 := ⟨by kernel_rfl⟩
instance : AppTy Tryd.prog 143 43 2 40 := ⟨by kernel_rfl⟩
instance : IntTy Tryd.prog 150 .u64 := ⟨by kernel_rfl⟩
instance : VarTy Tryd.prog 158 false 1 := ⟨by kernel_rfl⟩
instance : ZeroTy Tryd.prog 158 [.slice none 0 0] := ⟨by kernel_rfl⟩
instance : SliceTy Tryd.prog 158 3 1 := ⟨by kernel_rfl⟩
instance : AppTy Tryd.prog 158 3 1 8 := ⟨by kernel_rfl⟩
instance : IntTy Tryd.prog 186 .u32 := ⟨by kernel_rfl⟩
instance : MixTy Tryd.prog := ⟨by kernel_rfl⟩
instance : CallTy Tryd.prog 8 := ⟨by kernel_rfl⟩ -- askance/schema.Bind
instance : CallTy Tryd.prog 10 := ⟨by kernel_rfl⟩ -- askance/schema.FindTable
instance : CallTy Tryd.prog 11 := ⟨by kernel_rfl⟩ -- askance/askancekeep.fits
instance : CallTy Tryd.prog 12 := ⟨by kernel_rfl⟩ -- askance/schema.FindCol
instance : CallTy Tryd.prog 13 := ⟨by kernel_rfl⟩ -- askance/eval.Eval
instance : CallTy Tryd.prog 14 := ⟨by kernel_rfl⟩ -- askance/value.Good
instance : CallTy Tryd.prog 16 := ⟨by kernel_rfl⟩ -- askance/schema.Good
instance : CallTy Tryd.prog 17 := ⟨by kernel_rfl⟩ -- askance/askancekeep.plans
instance : CallTy Tryd.prog 18 := ⟨by kernel_rfl⟩ -- askance/askancekeep.kept
instance : CallTy Tryd.prog 19 := ⟨by kernel_rfl⟩ -- askance/plan.Rows
instance : CallTy Tryd.prog 20 := ⟨by kernel_rfl⟩ -- askance/plan.All
instance : CallTy Tryd.prog 21 := ⟨by kernel_rfl⟩ -- askance/tree.Good
instance : CallTy Tryd.prog 22 := ⟨by kernel_rfl⟩ -- askance/value.Compare
instance : CallTy Tryd.prog 31 := ⟨by kernel_rfl⟩ -- askance/plan.RowKey
instance : CallTy Tryd.prog 34 := ⟨by kernel_rfl⟩ -- askance/plan.IndexKey
instance : CallTy Tryd.prog 35 := ⟨by kernel_rfl⟩ -- askance/plan.Put
instance : CallTy Tryd.prog 38 := ⟨by kernel_rfl⟩ -- askance/plan.Choose
instance : CallTy Tryd.prog 39 := ⟨by kernel_rfl⟩ -- askance/askancekeep.same
instance : CallTy Tryd.prog 40 := ⟨by kernel_rfl⟩ -- askance/eval.Of
instance : CallTy Tryd.prog 41 := ⟨by kernel_rfl⟩ -- slices.ContainsFunc[[]askance/api.Expr,askance/api.Expr]
instance : CallTy Tryd.prog 42 := ⟨by kernel_rfl⟩ -- askance/schema.exprs
instance : CallTy Tryd.prog 43 := ⟨by kernel_rfl⟩ -- askance/schema.Bind$1
instance : CallTy Tryd.prog 44 := ⟨by kernel_rfl⟩ -- askance/schema.GoodExpr
instance : CallTy Tryd.prog 45 := ⟨by kernel_rfl⟩ -- askance/schema.GoodTable
instance : CallTy Tryd.prog 46 := ⟨by kernel_rfl⟩ -- askance/syntax.Named
instance : CallTy Tryd.prog 47 := ⟨by kernel_rfl⟩ -- slices.ContainsFunc[[]askance/api.Index,askance/api.Index]
instance : CallTy Tryd.prog 48 := ⟨by kernel_rfl⟩ -- askance/schema.Bind$2
instance : CallTy Tryd.prog 49 := ⟨by kernel_rfl⟩ -- askance/schema.change
instance : CallTy Tryd.prog 50 := ⟨by kernel_rfl⟩ -- askance/schema.choose
instance : CallTy Tryd.prog 51 := ⟨by kernel_rfl⟩ -- slices.IndexFunc[[]askance/api.Col,askance/api.Col]
instance : CallTy Tryd.prog 52 := ⟨by kernel_rfl⟩ -- askance/schema.FindCol$1
instance : CallTy Tryd.prog 53 := ⟨by kernel_rfl⟩ -- askance/eval.Truth
instance : CallTy Tryd.prog 54 := ⟨by kernel_rfl⟩ -- askance/value.Not
instance : CallTy Tryd.prog 55 := ⟨by kernel_rfl⟩ -- askance/eval.num
instance : CallTy Tryd.prog 56 := ⟨by kernel_rfl⟩ -- askance/eval.two
instance : CallTy Tryd.prog 70 := ⟨by kernel_rfl⟩ -- askance/tree.Get
instance : CallTy Tryd.prog 71 := ⟨by kernel_rfl⟩ -- askance/askancekeep.first
instance : CallTy Tryd.prog 72 := ⟨by kernel_rfl⟩ -- askance/tree.Range
instance : CallTy Tryd.prog 73 := ⟨by kernel_rfl⟩ -- askance/plan.entries
instance : CallTy Tryd.prog 74 := ⟨by kernel_rfl⟩ -- askance/value.Values
instance : CallTy Tryd.prog 75 := ⟨by kernel_rfl⟩ -- askance/plan.rows
instance : CallTy Tryd.prog 76 := ⟨by kernel_rfl⟩ -- cmp.Or[int]
instance : CallTy Tryd.prog 77 := ⟨by kernel_rfl⟩ -- cmp.Compare[int]
instance : CallTy Tryd.prog 78 := ⟨by kernel_rfl⟩ -- cmp.Compare[string]
instance : CallTy Tryd.prog 82 := ⟨by kernel_rfl⟩ -- askance/plan.key
instance : CallTy Tryd.prog 83 := ⟨by kernel_rfl⟩ -- askance/tree.Put
instance : CallTy Tryd.prog 84 := ⟨by kernel_rfl⟩ -- askance/plan.parts
instance : CallTy Tryd.prog 85 := ⟨by kernel_rfl⟩ -- askance/plan.bound
instance : CallTy Tryd.prog 86 := ⟨by kernel_rfl⟩ -- slices.IndexFunc[[]askance/api.Expr,askance/api.Expr]
instance : CallTy Tryd.prog 87 := ⟨by kernel_rfl⟩ -- slices.Concat[[]askance/api.Expr,askance/api.Expr]
instance : CallTy Tryd.prog 88 := ⟨by kernel_rfl⟩ -- askance/schema.GoodExpr$1
instance : CallTy Tryd.prog 89 := ⟨by kernel_rfl⟩ -- slices.Contains[[]string,string]
instance : CallTy Tryd.prog 90 := ⟨by kernel_rfl⟩ -- slices.IndexFunc[[]askance/api.Index,askance/api.Index]
instance : CallTy Tryd.prog 91 := ⟨by kernel_rfl⟩ -- (askance/schema.scope).must
instance : CallTy Tryd.prog 92 := ⟨by kernel_rfl⟩ -- slices.ContainsFunc[[]askance/api.Set,askance/api.Set]
instance : CallTy Tryd.prog 93 := ⟨by kernel_rfl⟩ -- askance/schema.change$1
instance : CallTy Tryd.prog 94 := ⟨by kernel_rfl⟩ -- (askance/schema.scope).where
instance : CallTy Tryd.prog 95 := ⟨by kernel_rfl⟩ -- (askance/schema.scope).bind
instance : CallTy Tryd.prog 96 := ⟨by kernel_rfl⟩ -- askance/value.And
instance : CallTy Tryd.prog 97 := ⟨by kernel_rfl⟩ -- askance/value.Or
instance : CallTy Tryd.prog 104 := ⟨by kernel_rfl⟩ -- askance/tree.place
instance : CallTy Tryd.prog 105 := ⟨by kernel_rfl⟩ -- cmp.isNaN[int]
instance : CallTy Tryd.prog 106 := ⟨by kernel_rfl⟩ -- cmp.isNaN[string]
instance : CallTy Tryd.prog 107 := ⟨by kernel_rfl⟩ -- slices.Clone[[]askance/api.Page,askance/api.Page]
instance : CallTy Tryd.prog 108 := ⟨by kernel_rfl⟩ -- askance/tree.page
instance : CallTy Tryd.prog 114 := ⟨by kernel_rfl⟩ -- askance/value.Key
instance : CallTy Tryd.prog 115 := ⟨by kernel_rfl⟩ -- slices.Insert[[]string,string]
instance : CallTy Tryd.prog 116 := ⟨by kernel_rfl⟩ -- slices.Clone[[]string,string]
instance : CallTy Tryd.prog 117 := ⟨by kernel_rfl⟩ -- slices.Insert[[]askance/api.Page,askance/api.Page]
instance : CallTy Tryd.prog 118 := ⟨by kernel_rfl⟩ -- slices.Grow[[]askance/api.Expr,askance/api.Expr]
instance : CallTy Tryd.prog 119 := ⟨by kernel_rfl⟩ -- slices.Index[[]string,string]
instance : CallTy Tryd.prog 120 := ⟨by kernel_rfl⟩ -- slices.IndexFunc[[]askance/api.Set,askance/api.Set]
instance : CallTy Tryd.prog 121 := ⟨by kernel_rfl⟩ -- (askance/schema.scope).bind$1
instance : CallTy Tryd.prog 122 := ⟨by kernel_rfl⟩ -- slices.ContainsFunc[[]int,int]
instance : CallTy Tryd.prog 123 := ⟨by kernel_rfl⟩ -- (askance/schema.scope).bind$1$1
instance : CallTy Tryd.prog 124 := ⟨by kernel_rfl⟩ -- (askance/schema.scope).find
instance : CallTy Tryd.prog 128 := ⟨by kernel_rfl⟩ -- slices.BinarySearch[[]string,string]
instance : CallTy Tryd.prog 142 := ⟨by kernel_rfl⟩ -- slices.IndexFunc[[]int,int]
instance : CallTy Tryd.prog 145 := ⟨by kernel_rfl⟩ -- cmp.Less[string]
instance : CallTy Tryd.prog 146 := ⟨by kernel_rfl⟩ -- slices.isNaN[string]
instance : OvlTy Tryd.prog 138 29 4 := ⟨⟨Tryd.f138, Tryd.func138, by kernel_rfl, by kernel_rfl, by kernel_rfl, by kernel_rfl⟩⟩
instance : OvlTy Tryd.prog 140 59 4 := ⟨⟨Tryd.f140, Tryd.func140, by kernel_rfl, by kernel_rfl, by kernel_rfl, by kernel_rfl⟩⟩
end Go.Proofs.YthkobnpogigkiaaDoor
/- What comes in, as the model's values: the book of the seat's types, and sizes. Conditions: none. -/
namespace Go.Proofs.YthkobnpogigkiaaDoor
open Go.Abs
set_option linter.unusedVariables false
set_option maxRecDepth 100000
theorem bulk_all {H : Type} : ∀ (ds : List (DataW H)), bulkAll Rows.uptoBulk ds = Rows.uptoBulkAll ds
  | [] => rfl
  | d :: ds => by
    have := bulk_all ds
    simp only [bulkAll, List.map_cons, List.foldr_cons, Rows.uptoBulkAll] at this ⊢
    omega
theorem bulk {H : Type} : Bulk (H := H) Rows.uptoBulk where
  str s := by simp [Rows.uptoBulk]
  lit l := by cases l <;> simp [Rows.uptoBulk]
  nil := by simp [Rows.uptoBulk]
  slice es sp := by rw [bulk_all]; simp only [Rows.uptoBulk]; omega
  agg es := by rw [bulk_all]; simp only [Rows.uptoBulk]; omega
def book : Book := [(3, 8, [.int .i64]), (5, 1, [.int .u8]), (9, 16, [.str]), (29, 24, [.sl 9]), (30, 24, [.sl 34]), (32, 32, [.int .i64, .int .i64, .str]), (34, 104, [.int .i64, .int .i64, .int .i64, .str, .str, .str, .int .i64, .sl 34]), (37, 24, [.sl 32]), (43, 40, [.str, .sl 53]), (48, 120, [.str, .int .i64, .int .i64, .int .i64, .str, .str, .str, .int .i64, .sl 34]), (53, 32, [.str, .int .i64, .bool]), (77, 32, [.str, .str]), (81, 48, [.str, .str, .str]), (127, 48, [.sl 9, .sl 9])]
theorem book_ok : book.ok Tryd.prog = true := by kernel_rfl
theorem sz_pos (x : IV) : 1 ≤ x.sz := by
  cases x with
  | im v => cases v <;> simp [IV.sz]
  | sl es => simp [IV.sz]
theorem szs_pos {e : List IV} (h : 0 < e.length) : 1 ≤ szs e := by
  cases e with
  | nil => simp at h
  | cons x e => have := sz_pos x; simp only [szs]; omega
theorem szss_len : ∀ {es : List (List IV)}, (∀ e ∈ es, 0 < e.length) → es.length ≤ szss es
  | [], _ => by simp [szss]
  | e :: es, h => by
    have := szs_pos (h e (by simp))
    have := szss_len (es := es) (fun e he => h e (by simp [he]))
    simp only [szss, List.length_cons]; omega
end Go.Proofs.YthkobnpogigkiaaDoor
/- Values: what the small functions of package value compute. Conditions: none. -/
namespace Go.Proofs.YthkobnpogigkiaaDoor
open Go.Abs
set_option maxRecDepth 100000
attribute [local irreducible] L Code.wp bodyPost Exit.then Exit.inBlock
set_option linter.unusedVariables false
set_option linter.unusedSimpArgs false
def andM (a b : Int) : Int := if a = 0 ∨ b = 0 then 0 else if a = 1 ∧ b = 1 then 1 else 2
def notM (a : Int) : Int := if a = 0 ∨ a = 1 then 1 - a else 2
def orM (a b : Int) : Int := notM (andM (notM a) (notM b))
theorem and_any (a b : Int) : CallA Tryd.prog 96 [aI a, aI b] [] [] [] (aI (andM a b)) := by
  refine CallA.intro 19 Tryd.func96 rfl rfl rfl (fun w0 E0 => ?_)
  (repeat' (first | (refine LW.is ?_; first | refine s_v ?_ | refine s_m ?_ | refine s_nil ?_ | refine s_gd ?_ | (refine s_gsplit rfl rfl rfl (fun hb => ?_) (fun hb => ?_) <;> refine fct hb (fun hp => ?_))) | (refine DR.is ?_; first | refine d_v ?_ | refine d_m ?_ | (apply d_nil; kernel_rfl) | refine d_gd ?_ | (refine d_gsplit rfl rfl rfl (fun hb => ?_) (fun hb => ?_) <;> refine fct hb (fun hp => ?_))) | refine c_go ?_ | refine s_region ?_ | refine d_region ?_ | (refine L.cond rfl (fun hb => ?_) (fun hb => ?_) <;> refine fct hb (fun hp => ?_))))
  all_goals (first | (apply L.ends1; exact rfl; exact rfl; exact rfl) | (apply L.ends2; exact rfl; exact rfl; exact rfl) | (apply L.ends3; exact rfl; exact rfl; exact rfl) | (apply L.ends1A; exact rfl; exact rfl; exact rfl) | (apply L.ends2A; exact rfl; exact rfl; exact rfl) | (apply L.ends3A; exact rfl; exact rfl; exact rfl))
  all_goals simp [resOf, andM, *]
theorem not_any (a : Int) : CallA Tryd.prog 54 [aI a] [] [] [] (aI (notM a)) := by
  refine CallA.intro 11 Tryd.func54 rfl rfl rfl (fun w0 E0 => ?_)
  (repeat' (first | (refine LW.is ?_; first | refine s_v ?_ | refine s_m ?_ | refine s_nil ?_ | refine s_gd ?_ | (refine s_gsplit rfl rfl rfl (fun hb => ?_) (fun hb => ?_) <;> refine fct hb (fun hp => ?_))) | (refine DR.is ?_; first | refine d_v ?_ | refine d_m ?_ | (apply d_nil; kernel_rfl) | refine d_gd ?_ | (refine d_gsplit rfl rfl rfl (fun hb => ?_) (fun hb => ?_) <;> refine fct hb (fun hp => ?_))) | refine c_go ?_ | refine s_region ?_ | refine d_region ?_ | (refine L.cond rfl (fun hb => ?_) (fun hb => ?_) <;> refine fct hb (fun hp => ?_))))
  all_goals (first | (apply L.ends1; exact rfl; exact rfl; exact rfl) | (apply L.ends2; exact rfl; exact rfl; exact rfl) | (apply L.ends3; exact rfl; exact rfl; exact rfl) | (apply L.ends1A; exact rfl; exact rfl; exact rfl) | (apply L.ends2A; exact rfl; exact rfl; exact rfl) | (apply L.ends3A; exact rfl; exact rfl; exact rfl))
  all_goals simp [resOf, notM, *]
end Go.Proofs.YthkobnpogigkiaaDoor
/- Values: what Good computes. Conditions: none. -/
namespace Go.Proofs.YthkobnpogigkiaaDoor
open Go.Abs
set_option maxRecDepth 100000
attribute [local irreducible] L Code.wp bodyPost Exit.then Exit.inBlock
set_option linter.unusedVariables false
set_option linter.unusedSimpArgs false
structure Val where
  k : Int
  n : Int
  s : List UInt8
def Val.c (v : Val) : List IV := [I v.k, I v.n, S v.s]
def charOk (b : UInt8) : Bool := 32 ≤ b.toNat && b.toNat ≤ 126 && b.toNat != 39
def goodM (v : Val) : Bool :=
  if v.k = 0 then v.n == 0 && v.s == []
  else if v.k = 1 then v.s == [] && (-1000000 ≤ v.n && v.n ≤ 1000000)
  else if v.k = 2 then v.n == 0 && (v.s.length ≤ 8 && v.s.all charOk)
  else false
theorem good_any (v : Val) : CallA Tryd.prog 14 [.agg (v.c.map .iv)] [] [] [] (aB (goodM v)) := by
  obtain ⟨k, n, s⟩ := v
  refine CallA.intro 63 Tryd.func14 rfl rfl rfl (fun w0 E0 => ?_)
  (repeat' (first | (refine LW.is ?_; first | refine s_v ?_ | refine s_m ?_ | refine s_nil ?_ | refine s_gd ?_ | (refine s_gsplit rfl rfl rfl (fun hb => ?_) (fun hb => ?_) <;> refine fct hb (fun hp => ?_))) | (refine DR.is ?_; first | refine d_v ?_ | refine d_m ?_ | (apply d_nil; kernel_rfl) | refine d_gd ?_ | (refine d_gsplit rfl rfl rfl (fun hb => ?_) (fun hb => ?_) <;> refine fct hb (fun hp => ?_))) | refine c_go ?_ | refine s_region ?_ | refine d_region ?_ | (refine L.cond rfl (fun hb => ?_) (fun hb => ?_) <;> refine fct hb (fun hp => ?_))))
  all_goals try (first | (apply L.ends1; exact rfl; exact rfl; exact rfl) | (apply L.ends2; exact rfl; exact rfl; exact rfl) | (apply L.ends3; exact rfl; exact rfl; exact rfl) | (apply L.ends1A; exact rfl; exact rfl; exact rfl) | (apply L.ends2A; exact rfl; exact rfl; exact rfl) | (apply L.ends3A; exact rfl; exact rfl; exact rfl))
  all_goals try (simp [goodM, *]; done)
  all_goals try (simp [goodM, *]; intros; omega)
  rename_i hk0 hk0' hk1 hk1' hk2 hk2' hn hn'
  subst hk2'; subst hn'
  have hg : goodM ⟨2, 0, s⟩ = s.all charOk := by simp [goodM]; omega
  rw [hg]
  refine L.loopP (ι := Nat) (fun i => ⟨[(40, aI (i : Int)), (39, aI (s.length : Int)), (1, .ptr 1 0)], [(1, ⟨32, .l [.iv (I 2), .iv (I 0), .iv (S s)]⟩)], []⟩) (fun i => s.length - i) (fun i => s.all charOk = (s.drop i).all charOk) (i0 := 0) ?_ rfl ?_
  · (refine Wk.mk' (by intro id h; cases h) ?_ ?_ ?_ <;> repeat' (first | exact WkF.nil | exact WkB.nil | exact WkT.nil | (refine WkF.cons rfl (Sub.refl _) ?_) | (refine WkB.cons rfl rfl (Subs.refl _) ?_) | (refine WkT.cons rfl ?_)))
  intro i hi K hK
  cases hv : s[i]? with
  | none =>
    have hlt := ltF hv
    (repeat' (first | (refine LW.is ?_; first | refine s_v ?_ | refine s_m ?_ | refine s_nil ?_ | refine s_gd ?_ | (refine s_gsplit rfl rfl rfl (fun hb => ?_) (fun hb => ?_) <;> refine fct hb (fun hp => ?_))) | (refine DR.is ?_; first | refine d_v ?_ | refine d_m ?_ | (apply d_nil; kernel_rfl) | refine d_gd ?_ | (refine d_gsplit rfl rfl rfl (fun hb => ?_) (fun hb => ?_) <;> refine fct hb (fun hp => ?_))) | refine c_go ?_ | refine s_region ?_ | refine d_region ?_ | (refine L.cond rfl (fun hb => ?_) (fun hb => ?_) <;> refine fct hb (fun hp => ?_))))
    all_goals (first | (apply L.ends1; exact rfl; exact rfl; exact rfl) | (apply L.ends2; exact rfl; exact rfl; exact rfl) | (apply L.ends3; exact rfl; exact rfl; exact rfl) | (apply L.ends1A; exact rfl; exact rfl; exact rfl) | (apply L.ends2A; exact rfl; exact rfl; exact rfl) | (apply L.ends3A; exact rfl; exact rfl; exact rfl))
    rw [hi, dropN hv]; rfl
  | some b =>
    have hlt := ltT hv
    have hlt' := ltN hv
    rw [dropC hv, List.all_cons] at hi
    (repeat' (first | (refine LW.is ?_; first | refine s_v ?_ | refine s_m ?_ | refine s_nil ?_ | refine s_gd ?_ | (refine s_gsplit rfl rfl rfl (fun hb => ?_) (fun hb => ?_) <;> refine fct hb (fun hp => ?_))) | (refine DR.is ?_; first | refine d_v ?_ | refine d_m ?_ | (apply d_nil; kernel_rfl) | refine d_gd ?_ | (refine d_gsplit rfl rfl rfl (fun hb => ?_) (fun hb => ?_) <;> refine fct hb (fun hp => ?_))) | refine c_go ?_ | refine s_region ?_ | refine d_region ?_ | (refine L.cond rfl (fun hb => ?_) (fun hb => ?_) <;> refine fct hb (fun hp => ?_))))
    all_goals try (first | (apply L.ends1; exact rfl; exact rfl; exact rfl) | (apply L.ends2; exact rfl; exact rfl; exact rfl) | (apply L.ends3; exact rfl; exact rfl; exact rfl) | (apply L.ends1A; exact rfl; exact rfl; exact rfl) | (apply L.ends2A; exact rfl; exact rfl; exact rfl) | (apply L.ends3A; exact rfl; exact rfl; exact rfl))
    all_goals try (rw [hi]; simp [charOk, *]; done)
    all_goals try (rw [hi]; simp [charOk, *]; intros; omega)
    refine hK _ (i + 1) ?_ (by omega) ?_
    · have h1 : charOk b = true := by
        simp [charOk]; omega
      rw [hi, h1]; rfl
    · (refine Wk.mk' (by intro id h; cases h) ?_ ?_ ?_ <;> repeat' (first | exact WkF.nil | exact WkB.nil | exact WkT.nil | (refine WkF.cons rfl (Sub.refl _) ?_) | (refine WkB.cons rfl rfl (Subs.refl _) ?_) | (refine WkT.cons rfl ?_)))
end Go.Proofs.YthkobnpogigkiaaDoor
/- What comes in, as the model's values: values, and lists of them. Conditions: none. -/
namespace Go.Proofs.YthkobnpogigkiaaDoor
open Go.Abs
set_option linter.unusedVariables false
set_option maxRecDepth 100000
def isI64 (n : Int) : Prop := -9223372036854775808 ≤ n ∧ n ≤ 9223372036854775807
structure wfV (v : Val) : Prop where
  k : isI64 v.k
  n : isI64 v.n
  s : v.s.length ≤ reachBytes
theorem fit_val {xs : List IV} (h : Fits book [.int .i64, .int .i64, .str] xs) : ∃ v : Val, xs = v.c ∧ wfV v := by
  obtain ⟨x, xs, rfl, h1, h⟩ := h.cons_inv
  obtain ⟨y, xs, rfl, h2, h⟩ := h.cons_inv
  obtain ⟨z, xs, rfl, h3, h⟩ := h.cons_inv
  obtain rfl := h.nil_inv
  obtain ⟨k, rfl, a1, a2⟩ := h1.int_inv
  obtain ⟨n, rfl, b1, b2⟩ := h2.int_inv
  obtain ⟨s, rfl, c⟩ := h3.str_inv
  exact ⟨⟨k, n, s⟩, rfl, ⟨a1, a2⟩, ⟨b1, b2⟩, c⟩
theorem fit_vals {x : IV} (h : Fit book (.sl 32) x) : ∃ vs : List Val, x = .sl (vs.map Val.c) ∧ vs.length * 32 ≤ reachBytes ∧ vs.length ≤ x.sz ∧ ∀ v ∈ vs, wfV v := by
  obtain ⟨es, rfl, hl, he⟩ := h.sl_inv (n := 32) (cts := [.int .i64, .int .i64, .str]) rfl
  obtain ⟨vs, rfl, hv⟩ := map_of (f := Val.c) (Q := fun _ v => wfV v) (fun e h => fit_val (he e h))
  refine ⟨vs, rfl, by simpa using hl, ?_, hv⟩
  have := szss_len (es := vs.map Val.c) (fun e he => by
    obtain ⟨v, _, rfl⟩ := List.mem_map.1 he
    simp [Val.c])
  simp only [IV.sz, List.length_map] at this ⊢; omega
end Go.Proofs.YthkobnpogigkiaaDoor
/- Values: what Key computes. Conditions: the values are not more than a slice may have. -/
namespace Go.Proofs.YthkobnpogigkiaaDoor
open Go.Abs
set_option maxRecDepth 100000
attribute [local irreducible] L Code.wp bodyPost Exit.then Exit.inBlock
set_option linter.unusedVariables false
set_option linter.unusedSimpArgs false
def u8 (n : Int) : UInt8 := UInt8.ofNat (IntKind.u8.wrap n).toNat
theorem u8_wrap (n : Int) : (((u8 n).toNat : Nat) : Int) = IntKind.u8.wrap n := by
  rw [u8, UInt8.toNat_ofNat']
  have : IntKind.u8.wrap n = n % 256 := IntKind.wrap_u8 n
  rw [this]; omega
def be4 (x : Int) : List UInt8 := [u8 (x / 16777216), u8 (x / 65536), u8 (x / 256), u8 x]
def keyOne (v : Val) : List UInt8 := u8 (v.k + 1) :: (if v.k = 1 then be4 (v.n + 1073741824) else if v.k = 2 then v.s ++ [0] else [])
def keyM (vs : List Val) : List UInt8 × Int := if vs.all goodM then (vs.flatMap keyOne, 0) else ([], 1)
theorem goodM_bounds {v : Val} (h : goodM v = true) : 0 ≤ v.k ∧ v.k ≤ 2 ∧ -1000000 ≤ v.n ∧ v.n ≤ 1000000 ∧ v.s.length ≤ 8 := by
  unfold goodM at h
  split at h
  · simp at h; simp [h]; omega
  · split at h
    · simp at h; simp [h]; omega
    · split at h
      · simp at h; simp [h]; omega
      · cases h
theorem keyOne_length {v : Val} (h : goodM v = true) : (keyOne v).length ≤ 10 := by
  unfold goodM at h
  unfold keyOne
  split at h
  · rename_i h0; simp [h0]
  · split at h
    · rename_i h0 h1; simp [h1, be4]
    · split at h
      · rename_i h0 h1 h2
        simp at h
        simp [h2]; omega
      · cases h
theorem flat_length {vs : List Val} : vs.all goodM = true → (vs.flatMap keyOne).length ≤ 10 * vs.length := by
  induction vs with
  | nil => simp
  | cons v vs ih =>
    intro h
    simp only [List.all_cons, Bool.and_eq_true] at h
    have := keyOne_length h.1
    have := ih h.2
    simp only [List.flatMap_cons, List.length_append, List.length_cons]; omega
theorem key_any (vs : List Val) (hlen : 10 * vs.length ≤ 140737488355328) : CallA Tryd.prog 114 [.iv (.sl (vs.map Val.c))] [] [] [] (.tup [.iv (S (keyM vs).1), .iv (I (keyM vs).2)]) := by
  refine CallA.intro 57 Tryd.func114 rfl rfl rfl (fun w0 E0 => ?_)
  (repeat' (first | (refine LW.is ?_; first | refine s_v ?_ | refine s_m ?_ | refine s_nil ?_ | refine s_gd ?_ | (refine s_gsplit rfl rfl rfl (fun hb => ?_) (fun hb => ?_) <;> refine fct hb (fun hp => ?_))) | (refine DR.is ?_; first | refine d_v ?_ | refine d_m ?_ | (apply d_nil; kernel_rfl) | refine d_gd ?_ | (refine d_gsplit rfl rfl rfl (fun hb => ?_) (fun hb => ?_) <;> refine fct hb (fun hp => ?_))) | refine c_go ?_ | refine s_region ?_ | refine d_region ?_ | (refine L.cond rfl (fun hb => ?_) (fun hb => ?_) <;> refine fct hb (fun hp => ?_))))
  refine L.adopt 4 (s := 4) (t := 5) (k := 1) rfl rfl rfl ?_
  refine L.loopP (ι := Nat) (fun i => ⟨[(4, .row 4 (((vs.take i).flatMap keyOne).map cB)), (8, .iv (.sl (vs.map Val.c))), (9, aI ((vs.map Val.c).length : Int)), (10, aI (i : Int))], [], [(4, ⟨5, 1⟩)]⟩) (fun i => vs.length - i) (fun i => (vs.take i).all goodM = true) (i0 := 0) ?_ rfl ?_
  · (refine Wk.mk' (by intro id h; cases h) ?_ ?_ ?_ <;> repeat' (first | exact WkF.nil | exact WkB.nil | exact WkT.nil | (refine WkF.cons rfl (Sub.refl _) ?_) | (refine WkB.cons rfl rfl (Subs.refl _) ?_) | (refine WkT.cons rfl ?_)))
  intro i hi K hK
  cases hv : vs[i]? with
  | none =>
    have hlt := ltF (l := vs.map Val.c) (getFN hv)
    (repeat' (first | (refine LW.is ?_; first | refine s_v ?_ | refine s_m ?_ | refine s_nil ?_ | refine s_gd ?_ | (refine s_gsplit rfl rfl rfl (fun hb => ?_) (fun hb => ?_) <;> refine fct hb (fun hp => ?_))) | (refine DR.is ?_; first | refine d_v ?_ | refine d_m ?_ | (apply d_nil; kernel_rfl) | refine d_gd ?_ | (refine d_gsplit rfl rfl rfl (fun hb => ?_) (fun hb => ?_) <;> refine fct hb (fun hp => ?_))) | refine c_go ?_ | refine s_region ?_ | refine d_region ?_ | (refine L.cond rfl (fun hb => ?_) (fun hb => ?_) <;> refine fct hb (fun hp => ?_))))
    all_goals (first | (apply L.ends1; exact rfl; exact rfl; exact rfl) | (apply L.ends2; exact rfl; exact rfl; exact rfl) | (apply L.ends3; exact rfl; exact rfl; exact rfl) | (apply L.ends1A; exact rfl; exact rfl; exact rfl) | (apply L.ends2A; exact rfl; exact rfl; exact rfl) | (apply L.ends3A; exact rfl; exact rfl; exact rfl))
    rw [takeN hv] at hi ⊢
    simp [keyM, hi]
  | some v =>
    have hlt := ltT (l := vs.map Val.c) (getF hv)
    have hlt' := ltN hv
    have hfl := flat_length hi
    have htl : (vs.take i).length = i := by simp; omega
    cases hg : goodM v with
    | false =>
      have hng : (!goodM v) = true := by rw [hg]; rfl
      (repeat' (first | (refine LW.is ?_; first | (apply s_call0; exact rfl; exact good_any v; exact rfl; exact rfl) | refine s_v ?_ | refine s_m ?_ | refine s_nil ?_ | refine s_gd ?_ | (refine s_gsplit rfl rfl rfl (fun hb => ?_) (fun hb => ?_) <;> refine fct hb (fun hp => ?_))) | (refine DR.is ?_; first | (apply d_call0; exact rfl; exact good_any v; exact rfl; exact rfl) | refine d_v ?_ | refine d_m ?_ | (apply d_nil; kernel_rfl) | refine d_gd ?_ | (refine d_gsplit rfl rfl rfl (fun hb => ?_) (fun hb => ?_) <;> refine fct hb (fun hp => ?_))) | refine c_go ?_ | refine s_region ?_ | refine d_region ?_ | (refine L.cond rfl (fun hb => ?_) (fun hb => ?_) <;> refine fct hb (fun hp => ?_))))
      all_goals (first | (apply L.ends1; exact rfl; exact rfl; exact rfl) | (apply L.ends2; exact rfl; exact rfl; exact rfl) | (apply L.ends3; exact rfl; exact rfl; exact rfl) | (apply L.ends1A; exact rfl; exact rfl; exact rfl) | (apply L.ends2A; exact rfl; exact rfl; exact rfl) | (apply L.ends3A; exact rfl; exact rfl; exact rfl))
      have : vs.all goodM = false := by
        rw [List.all_eq_false]
        exact ⟨v, List.mem_of_getElem? hv, by simp [hg]⟩
      simp [keyM, this]
    | true =>
      have hng : (!goodM v) = false := by rw [hg]; rfl
      have hb3 : 0 ≤ v.k ∧ v.k ≤ 2 ∧ -1000000 ≤ v.n ∧ v.n ≤ 1000000 ∧ v.s.length ≤ 8 := goodM_bounds hg
      obtain ⟨hk0, hk2, hn0, hn1, hs8⟩ := hb3
      have hnext : (vs.take (i + 1)).all goodM = true := by rw [takeC hv]; simp [hi, hg]
      have hacc : (vs.take (i + 1)).flatMap keyOne = (vs.take i).flatMap keyOne ++ keyOne v := by rw [takeC hv]; simp
      generalize hq : (vs.take (i + 1)).flatMap keyOne = acc' at hacc
      generalize (vs.take i).flatMap keyOne = acc at hfl hacc ⊢
      rw [htl] at hfl
      (repeat' (first | (refine LW.is ?_; first | (apply s_call0; exact rfl; exact good_any v; exact rfl; exact rfl) | refine s_v ?_ | refine s_m ?_ | refine s_nil ?_ | refine s_gd ?_ | (refine s_gsplit rfl rfl rfl (fun hb => ?_) (fun hb => ?_) <;> refine fct hb (fun hp => ?_))) | (refine DR.is ?_; first | (apply d_call0; exact rfl; exact good_any v; exact rfl; exact rfl) | refine d_v ?_ | refine d_m ?_ | (apply d_nil; kernel_rfl) | refine d_gd ?_ | (refine d_gsplit rfl rfl rfl (fun hb => ?_) (fun hb => ?_) <;> refine fct hb (fun hp => ?_))) | refine c_go ?_ | refine s_region ?_ | refine d_region ?_ | (refine L.cond rfl (fun hb => ?_) (fun hb => ?_) <;> refine fct hb (fun hp => ?_))))
      · refine L.only [4, 8, 9, 10] ?_
        refine L.retok 4 45 4 rfl rfl rfl rfl ?_
        refine hK _ (i + 1) hnext (by omega) (Wk.mk' (by intro id h; cases h) (.cons rfl (Sub.of_eq (congrArg (AV.row 4) ?_)) (.cons rfl (Sub.refl _) (.cons rfl (Sub.refl _) (.cons rfl (Sub.refl _) .nil)))) .nil (.cons rfl .nil))
        have hw : IntKind.u32.wrap (v.n + 1073741824) = v.n + 1073741824 := by rw [IntKind.wrap_u32]; omega
        have h24 : ∀ x : Int, x.fdiv (2 ^ min 24 IntKind.u32.bits) = x / 16777216 := fun x => Int.fdiv_eq_ediv_of_nonneg x (by decide)
        have h16 : ∀ x : Int, x.fdiv (2 ^ min 16 IntKind.u32.bits) = x / 65536 := fun x => Int.fdiv_eq_ediv_of_nonneg x (by decide)
        have h8 : ∀ x : Int, x.fdiv (2 ^ min 8 IntKind.u32.bits) = x / 256 := fun x => Int.fdiv_eq_ediv_of_nonneg x (by decide)
        rw [hq, hacc]
        simp [keyOne, *, be4, cB, u8_wrap, chunks]
      · refine L.only [4, 8, 9, 10] ?_
        refine L.retok 4 53 4 rfl rfl rfl rfl ?_
        refine hK _ (i + 1) hnext (by omega) (Wk.mk' (by intro id h; cases h) (.cons rfl (Sub.of_eq (congrArg (AV.row 4) ?_)) (.cons rfl (Sub.refl _) (.cons rfl (Sub.refl _) (.cons rfl (Sub.refl _) .nil)))) .nil (.cons rfl .nil))
        rw [hq, hacc]
        simp [keyOne, *, cB, u8_wrap, chunks]
      · refine L.only [4, 8, 9, 10] ?_
        refine L.retok 4 23 4 rfl rfl rfl rfl ?_
        refine hK _ (i + 1) hnext (by omega) (Wk.mk' (by intro id h; cases h) (.cons rfl (Sub.of_eq (congrArg (AV.row 4) ?_)) (.cons rfl (Sub.refl _) (.cons rfl (Sub.refl _) (.cons rfl (Sub.refl _) .nil)))) .nil (.cons rfl .nil))
        rw [hq, hacc]
        simp [keyOne, *, cB, u8_wrap, chunks]
end Go.Proofs.YthkobnpogigkiaaDoor
/- Values: what Values computes, of texts that are not longer than a slice may be. Conditions: that bound. -/
namespace Go.Proofs.YthkobnpogigkiaaDoor
open Go.Abs
set_option maxRecDepth 100000
attribute [local irreducible] L Code.wp bodyPost Exit.then Exit.inBlock
set_option linter.unusedVariables false
set_option linter.unusedSimpArgs false
def dec4 (s : List UInt8) : Int := (s.getD 0 0).toNat * 16777216 + (s.getD 1 0).toNat * 65536 + (s.getD 2 0).toNat * 256 + (s.getD 3 0).toNat - 1073741824
def upto0 (s : List UInt8) : List UInt8 := s.takeWhile (fun b => b != 0)
def valOne : List UInt8 → Option (Val × List UInt8)
  | [] => none
  | b :: s =>
    if b.toNat = 1 then some (⟨0, 0, []⟩, s)
    else if b.toNat = 2 then if s.length < 4 then none else some (⟨1, dec4 s, []⟩, s.drop 4)
    else if b.toNat = 3 then if (upto0 s).length = s.length then none else some (⟨2, 0, upto0 s⟩, s.drop ((upto0 s).length + 1))
    else none
theorem valOne_lt {s r : List UInt8} {v : Val} (h : valOne s = some (v, r)) : r.length < s.length := by
  cases s with
  | nil => cases h
  | cons b s =>
    simp only [valOne] at h
    split at h
    · simp at h; simp [h.2]
    · split at h
      · split at h
        · cases h
        · simp at h; rw [← h.2]; simp; omega
      · split at h
        · split at h
          · cases h
          · simp at h; rw [← h.2]; simp; omega
        · cases h
def valsM (s : List UInt8) : Option (List Val) :=
  if s = [] then some [] else
  match h : valOne s with
  | none => none
  | some (v, r) => if goodM v then (valsM r).map (v :: ·) else none
 termination_by s.length
 decreasing_by exact valOne_lt h
theorem valsM_nil : valsM [] = some [] := by rw [valsM]; rfl
theorem valsM_none {s : List UInt8} (hs : s ≠ []) (h : valOne s = none) : valsM s = none := by
  rw [valsM, if_neg hs]; split
  · rfl
  · rename_i v r h'; rw [h] at h'; cases h'
theorem valsM_some {s r : List UInt8} {v : Val} (h : valOne s = some (v, r)) : valsM s = if goodM v then (valsM r).map (v :: ·) else none := by
  have hs : s ≠ [] := fun e => by subst e; cases h
  rw [valsM, if_neg hs]; split
  · rename_i h'; rw [h] at h'; cases h'
  · rename_i v' r' h'; rw [h] at h'; cases h'; rfl
def valsR (s : List UInt8) : List Val × Int := match valsM s with | some l => (l, 0) | none => ([], 1)
theorem upto0_zero : ∀ {r : List UInt8} {j : Nat}, r[j]? = some 0 → j ≤ (upto0 r).length → (upto0 r).length = j
  | [], j, h, _ => by simp at h
  | b :: r, 0, h, _ => by simp at h; subst h; rfl
  | b :: r, j + 1, h, hj => by
    by_cases hb : b = 0
    · subst hb; simp [upto0] at hj
    · have e : upto0 (b :: r) = b :: upto0 r := by simp [upto0, hb]
      rw [e] at hj ⊢
      simp only [List.length_cons] at hj ⊢
      rw [upto0_zero (by simpa using h) (by omega)]
theorem upto0_next : ∀ {r : List UInt8} {j : Nat} {c : UInt8}, r[j]? = some c → c ≠ 0 → j ≤ (upto0 r).length → j + 1 ≤ (upto0 r).length
  | [], j, c, h, _, _ => by simp at h
  | b :: r, 0, c, h, hc, _ => by simp at h; subst h; simp [upto0, hc]
  | b :: r, j + 1, c, h, hc, hj => by
    by_cases hb : b = 0
    · subst hb; simp [upto0] at hj
    · have e : upto0 (b :: r) = b :: upto0 r := by simp [upto0, hb]
      rw [e] at hj ⊢
      simp only [List.length_cons] at hj ⊢
      have := upto0_next (r := r) (j := j) (c := c) (by simpa using h) hc (by omega)
      omega
theorem upto0_le (r : List UInt8) : (upto0 r).length ≤ r.length := (List.takeWhile_prefix _).length_le
theorem upto0_take (r : List UInt8) : r.take (upto0 r).length = upto0 r := (List.prefix_iff_eq_take.1 (List.takeWhile_prefix _)).symm
section
variable {s : List UInt8} {acc : List Val} {b : UInt8} {r r' : List UInt8} {v : Val}
theorem step_some (hi : valsM s = (valsM (b :: r)).map (acc ++ ·)) (h : valOne (b :: r) = some (v, r')) (hg : goodM v = true) : valsM s = (valsM r').map ((acc ++ [v]) ++ ·) := by
  rw [hi, valsM_some h, if_pos hg, Option.map_map]
  congr 1; funext l; simp
theorem step_bad (hi : valsM s = (valsM (b :: r)).map (acc ++ ·)) (h : valOne (b :: r) = some (v, r')) (hg : goodM v = false) : valsR s = ([], 1) := by
  have : valsM s = none := by rw [hi, valsM_some h, hg]; rfl
  simp [valsR, this]
theorem step_none (hi : valsM s = (valsM (b :: r)).map (acc ++ ·)) (h : valOne (b :: r) = none) : valsR s = ([], 1) := by
  have : valsM s = none := by rw [hi, valsM_none (by simp) h]; rfl
  simp [valsR, this]
end
theorem vals_any (s : List UInt8) (hlen : 32 * s.length ≤ 140737488355328) : CallA Tryd.prog 74 [aS s] [] [] [] (.tup [.iv (.sl ((valsR s).1.map Val.c)), .iv (I (valsR s).2)]) := by
  refine CallA.intro 81 Tryd.func74 rfl rfl rfl (fun w0 E0 => ?_)
  (repeat' (first | (refine LW.is ?_; first | refine s_v ?_ | refine s_m ?_ | refine s_nil ?_ | refine s_gd ?_ | (refine s_gsplit rfl rfl rfl (fun hb => ?_) (fun hb => ?_) <;> refine fct hb (fun hp => ?_))) | (refine DR.is ?_; first | refine d_v ?_ | refine d_m ?_ | (apply d_nil; kernel_rfl) | refine d_gd ?_ | (refine d_gsplit rfl rfl rfl (fun hb => ?_) (fun hb => ?_) <;> refine fct hb (fun hp => ?_))) | refine c_go ?_ | refine s_region ?_ | refine d_region ?_ | (refine L.cond rfl (fun hb => ?_) (fun hb => ?_) <;> refine fct hb (fun hp => ?_))))
  refine L.adopt 4 (s := 4) (t := 32) (k := 3) rfl rfl rfl ?_
  refine L.loopP (ι := List Val × List UInt8) (fun i => ⟨[(4, .row 4 (i.1.map Val.c)), (0, aS i.2)], [], [(4, ⟨32, 3⟩)]⟩) (fun i => i.2.length) (fun i => valsM s = (valsM i.2).map (i.1 ++ ·) ∧ i.1.length + i.2.length ≤ s.length) (i0 := ([], s)) ?_ (by simp) ?_
  · (refine Wk.mk' (by intro id h; cases h) ?_ ?_ ?_ <;> repeat' (first | exact WkF.nil | exact WkB.nil | exact WkT.nil | (refine WkF.cons rfl (Sub.refl _) ?_) | (refine WkB.cons rfl rfl (Subs.refl _) ?_) | (refine WkT.cons rfl ?_)))
  rintro ⟨acc, s'⟩ ⟨hi, hl⟩ K hK
  dsimp only at hi hl ⊢
  cases s' with
  | nil =>
    have hne : (!(([] : List UInt8) == [])) = false := rfl
    (repeat' (first | (refine LW.is ?_; first | refine s_v ?_ | refine s_m ?_ | refine s_nil ?_ | refine s_gd ?_ | (refine s_gsplit rfl rfl rfl (fun hb => ?_) (fun hb => ?_) <;> refine fct hb (fun hp => ?_))) | (refine DR.is ?_; first | refine d_v ?_ | refine d_m ?_ | (apply d_nil; kernel_rfl) | refine d_gd ?_ | (refine d_gsplit rfl rfl rfl (fun hb => ?_) (fun hb => ?_) <;> refine fct hb (fun hp => ?_))) | refine c_go ?_ | refine s_region ?_ | refine d_region ?_ | (refine L.cond rfl (fun hb => ?_) (fun hb => ?_) <;> refine fct hb (fun hp => ?_))))
    all_goals (first | (apply L.ends1; exact rfl; exact rfl; exact rfl) | (apply L.ends2; exact rfl; exact rfl; exact rfl) | (apply L.ends3; exact rfl; exact rfl; exact rfl) | (apply L.ends1A; exact rfl; exact rfl; exact rfl) | (apply L.ends2A; exact rfl; exact rfl; exact rfl) | (apply L.ends3A; exact rfl; exact rfl; exact rfl))
    rw [valsM_nil] at hi
    simp [valsR, hi]
  | cons b r =>
    have hne : (!(b :: r == ([] : List UInt8))) = true := by simp
    simp only [List.length_cons] at hl
    by_cases h1 : b = 1
    · subst h1
      have hv : valOne (1 :: r) = some (⟨0, 0, []⟩, r) := rfl
      have hg : goodM ⟨0, 0, []⟩ = true := rfl
      have hng : (!goodM ⟨0, 0, []⟩) = false := rfl
      (repeat' (first | (refine LW.is ?_; first | (apply s_vr; exact rfl; apply v_indexS; exact rfl; exact rfl; decide; exact rfl) | (apply s_vr; exact rfl; apply v_sliceSl; exact rfl; exact rfl; decide; (simp <;> omega); (show _ = r; exact rfl)) | (apply s_call0; exact rfl; rotate_left; exact rfl; rotate_left 3; exact good_any ⟨0, 0, []⟩; exact rfl) | refine s_v ?_ | refine s_m ?_ | refine s_nil ?_ | refine s_gd ?_ | (refine s_gsplit rfl rfl rfl (fun hb => ?_) (fun hb => ?_) <;> refine fct hb (fun hp => ?_))) | (refine DR.is ?_; first | (apply d_vr; exact rfl; apply v_indexS; exact rfl; exact rfl; decide; exact rfl) | (apply d_vr; exact rfl; apply v_sliceSl; exact rfl; exact rfl; decide; (simp <;> omega); (show _ = r; exact rfl)) | (apply d_call0; exact rfl; rotate_left; exact rfl; rotate_left 3; exact good_any ⟨0, 0, []⟩; exact rfl) | refine d_v ?_ | refine d_m ?_ | (apply d_nil; kernel_rfl) | refine d_gd ?_ | (refine d_gsplit rfl rfl rfl (fun hb => ?_) (fun hb => ?_) <;> refine fct hb (fun hp => ?_))) | refine c_go ?_ | refine s_region ?_ | refine d_region ?_ | (refine L.cond rfl (fun hb => ?_) (fun hb => ?_) <;> refine fct hb (fun hp => ?_))))
      · refine L.only [4, 0] ?_
        refine L.retok 4 79 4 rfl rfl rfl rfl ?_
        refine hK _ (acc ++ [⟨0, 0, []⟩], r) ⟨step_some hi hv hg, by simp <;> omega⟩ (by simp <;> omega) (Wk.mk' (by intro id h; cases h) (.cons rfl (Sub.of_eq (congrArg (AV.row 4) ?_)) (.cons rfl (Sub.refl _) .nil)) .nil (.cons rfl .nil))
        simp [chunks, Val.c]
    by_cases h2 : b = 2
    · subst h2
      by_cases hr : r.length < 4
      · have hv : valOne (2 :: r) = none := by simp [valOne, hr]
        have hlt : decide ((r.length : Int) < 4) = true := by simp; omega
        (repeat' (first | (refine LW.is ?_; first | (apply s_vr; exact rfl; apply v_indexS; exact rfl; exact rfl; decide; exact rfl) | (apply s_vr; exact rfl; apply v_sliceSl; exact rfl; exact rfl; decide; (simp <;> omega); (show _ = r; exact rfl)) | refine s_v ?_ | refine s_m ?_ | refine s_nil ?_ | refine s_gd ?_ | (refine s_gsplit rfl rfl rfl (fun hb => ?_) (fun hb => ?_) <;> refine fct hb (fun hp => ?_))) | (refine DR.is ?_; first | (apply d_vr; exact rfl; apply v_indexS; exact rfl; exact rfl; decide; exact rfl) | (apply d_vr; exact rfl; apply v_sliceSl; exact rfl; exact rfl; decide; (simp <;> omega); (show _ = r; exact rfl)) | refine d_v ?_ | refine d_m ?_ | (apply d_nil; kernel_rfl) | refine d_gd ?_ | (refine d_gsplit rfl rfl rfl (fun hb => ?_) (fun hb => ?_) <;> refine fct hb (fun hp => ?_))) | refine c_go ?_ | refine s_region ?_ | refine d_region ?_ | (refine L.cond rfl (fun hb => ?_) (fun hb => ?_) <;> refine fct hb (fun hp => ?_))))
        all_goals (first | (apply L.ends1; exact rfl; exact rfl; exact rfl) | (apply L.ends2; exact rfl; exact rfl; exact rfl) | (apply L.ends3; exact rfl; exact rfl; exact rfl) | (apply L.ends1A; exact rfl; exact rfl; exact rfl) | (apply L.ends2A; exact rfl; exact rfl; exact rfl) | (apply L.ends3A; exact rfl; exact rfl; exact rfl))
        rw [step_none hi hv]; rfl
      · have hlt : decide ((r.length : Int) < 4) = false := by simp; omega
        obtain ⟨c0, c1, c2, c3, t, rfl⟩ : ∃ c0 c1 c2 c3 t, r = c0 :: c1 :: c2 :: c3 :: t := by
          match r, hr with
          | [], h => simp at h
          | [_], h => simp at h
          | [_, _], h => simp at h
          | [_, _, _], h => simp at h
          | c0 :: c1 :: c2 :: c3 :: t, _ => exact ⟨c0, c1, c2, c3, t, rfl⟩
        have k0 := c0.toNat_lt
        have k1 := c1.toNat_lt
        have k2 := c2.toNat_lt
        have k3 := c3.toNat_lt
        have hv : valOne (2 :: c0 :: c1 :: c2 :: c3 :: t) = some (⟨1, dec4 (c0 :: c1 :: c2 :: c3 :: t), []⟩, t) := by simp [valOne]
        cases hg : goodM ⟨1, dec4 (c0 :: c1 :: c2 :: c3 :: t), []⟩ with
        | false =>
          have hng : (!goodM ⟨1, dec4 (c0 :: c1 :: c2 :: c3 :: t), []⟩) = true := by rw [hg]; rfl
          (repeat' (first | (refine LW.is ?_; first | (apply s_vr; exact rfl; apply v_indexS; exact rfl; exact rfl; decide; exact rfl) | (apply s_vr; exact rfl; apply v_sliceSl; exact rfl; exact rfl; decide; (simp <;> omega); (first | (show _ = c0 :: c1 :: c2 :: c3 :: t; exact rfl) | (show _ = t; exact rfl))) | (apply s_vr; exact rfl; apply v_shlA (p := 16777216); exact rfl; exact rfl; decide; decide; omega; omega) | (apply s_vr; exact rfl; apply v_shlA (p := 65536); exact rfl; exact rfl; decide; decide; omega; omega) | (apply s_vr; exact rfl; apply v_shlA (p := 256); exact rfl; exact rfl; decide; decide; omega; omega) | (apply s_vr; exact rfl; apply v_orA (a := (c0.toNat : Int)) (p := 16777216) 24; exact rfl; exact rfl; decide; omega; omega; omega; omega; omega) | (apply s_vr; exact rfl; apply v_orA (a := (c0.toNat : Int) * 256 + c1.toNat) (p := 65536) 16; exact rfl; exact rfl; decide; omega; omega; omega; omega; omega) | (apply s_vr; exact rfl; apply v_orA (a := (c0.toNat : Int) * 65536 + c1.toNat * 256 + c2.toNat) (p := 256) 8; exact rfl; exact rfl; decide; omega; omega; omega; omega; omega) | (apply s_call0; exact rfl; rotate_left; exact rfl; rotate_left 3; exact good_any ⟨1, dec4 (c0 :: c1 :: c2 :: c3 :: t), []⟩; exact rfl) | refine s_v ?_ | refine s_m ?_ | refine s_nil ?_ | refine s_gd ?_ | (refine s_gsplit rfl rfl rfl (fun hb => ?_) (fun hb => ?_) <;> refine fct hb (fun hp => ?_))) | (refine DR.is ?_; first | (apply d_vr; exact rfl; apply v_indexS; exact rfl; exact rfl; decide; exact rfl) | (apply d_vr; exact rfl; apply v_sliceSl; exact rfl; exact rfl; decide; (simp <;> omega); (first | (show _ = c0 :: c1 :: c2 :: c3 :: t; exact rfl) | (show _ = t; exact rfl))) | (apply d_vr; exact rfl; apply v_shlA (p := 16777216); exact rfl; exact rfl; decide; decide; omega; omega) | (apply d_vr; exact rfl; apply v_shlA (p := 65536); exact rfl; exact rfl; decide; decide; omega; omega) | (apply d_vr; exact rfl; apply v_shlA (p := 256); exact rfl; exact rfl; decide; decide; omega; omega) | (apply d_vr; exact rfl; apply v_orA (a := (c0.toNat : Int)) (p := 16777216) 24; exact rfl; exact rfl; decide; omega; omega; omega; omega; omega) | (apply d_vr; exact rfl; apply v_orA (a := (c0.toNat : Int) * 256 + c1.toNat) (p := 65536) 16; exact rfl; exact rfl; decide; omega; omega; omega; omega; omega) | (apply d_vr; exact rfl; apply v_orA (a := (c0.toNat : Int) * 65536 + c1.toNat * 256 + c2.toNat) (p := 256) 8; exact rfl; exact rfl; decide; omega; omega; omega; omega; omega) | (apply d_call0; exact rfl; rotate_left; exact rfl; rotate_left 3; exact good_any ⟨1, dec4 (c0 :: c1 :: c2 :: c3 :: t), []⟩; exact rfl) | refine d_v ?_ | refine d_m ?_ | (apply d_nil; kernel_rfl) | refine d_gd ?_ | (refine d_gsplit rfl rfl rfl (fun hb => ?_) (fun hb => ?_) <;> refine fct hb (fun hp => ?_))) | refine c_go ?_ | refine s_region ?_ | refine d_region ?_ | (refine L.cond rfl (fun hb => ?_) (fun hb => ?_) <;> refine fct hb (fun hp => ?_))))
          all_goals (first | (apply L.ends1; exact rfl; exact rfl; exact rfl) | (apply L.ends2; exact rfl; exact rfl; exact rfl) | (apply L.ends3; exact rfl; exact rfl; exact rfl) | (apply L.ends1A; exact rfl; exact rfl; exact rfl) | (apply L.ends2A; exact rfl; exact rfl; exact rfl) | (apply L.ends3A; exact rfl; exact rfl; exact rfl))
          rw [step_bad hi hv hg]; rfl
        | true =>
          have hng : (!goodM ⟨1, dec4 (c0 :: c1 :: c2 :: c3 :: t), []⟩) = false := by rw [hg]; rfl
          (repeat' (first | (refine LW.is ?_; first | (apply s_vr; exact rfl; apply v_indexS; exact rfl; exact rfl; decide; exact rfl) | (apply s_vr; exact rfl; apply v_sliceSl; exact rfl; exact rfl; decide; (simp <;> omega); (first | (show _ = c0 :: c1 :: c2 :: c3 :: t; exact rfl) | (show _ = t; exact rfl))) | (apply s_vr; exact rfl; apply v_shlA (p := 16777216); exact rfl; exact rfl; decide; decide; omega; omega) | (apply s_vr; exact rfl; apply v_shlA (p := 65536); exact rfl; exact rfl; decide; decide; omega; omega) | (apply s_vr; exact rfl; apply v_shlA (p := 256); exact rfl; exact rfl; decide; decide; omega; omega) | (apply s_vr; exact rfl; apply v_orA (a := (c0.toNat : Int)) (p := 16777216) 24; exact rfl; exact rfl; decide; omega; omega; omega; omega; omega) | (apply s_vr; exact rfl; apply v_orA (a := (c0.toNat : Int) * 256 + c1.toNat) (p := 65536) 16; exact rfl; exact rfl; decide; omega; omega; omega; omega; omega) | (apply s_vr; exact rfl; apply v_orA (a := (c0.toNat : Int) * 65536 + c1.toNat * 256 + c2.toNat) (p := 256) 8; exact rfl; exact rfl; decide; omega; omega; omega; omega; omega) | (apply s_call0; exact rfl; rotate_left; exact rfl; rotate_left 3; exact good_any ⟨1, dec4 (c0 :: c1 :: c2 :: c3 :: t), []⟩; exact rfl) | refine s_v ?_ | refine s_m ?_ | refine s_nil ?_ | refine s_gd ?_ | (refine s_gsplit rfl rfl rfl (fun hb => ?_) (fun hb => ?_) <;> refine fct hb (fun hp => ?_))) | (refine DR.is ?_; first | (apply d_vr; exact rfl; apply v_indexS; exact rfl; exact rfl; decide; exact rfl) | (apply d_vr; exact rfl; apply v_sliceSl; exact rfl; exact rfl; decide; (simp <;> omega); (first | (show _ = c0 :: c1 :: c2 :: c3 :: t; exact rfl) | (show _ = t; exact rfl))) | (apply d_vr; exact rfl; apply v_shlA (p := 16777216); exact rfl; exact rfl; decide; decide; omega; omega) | (apply d_vr; exact rfl; apply v_shlA (p := 65536); exact rfl; exact rfl; decide; decide; omega; omega) | (apply d_vr; exact rfl; apply v_shlA (p := 256); exact rfl; exact rfl; decide; decide; omega; omega) | (apply d_vr; exact rfl; apply v_orA (a := (c0.toNat : Int)) (p := 16777216) 24; exact rfl; exact rfl; decide; omega; omega; omega; omega; omega) | (apply d_vr; exact rfl; apply v_orA (a := (c0.toNat : Int) * 256 + c1.toNat) (p := 65536) 16; exact rfl; exact rfl; decide; omega; omega; omega; omega; omega) | (apply d_vr; exact rfl; apply v_orA (a := (c0.toNat : Int) * 65536 + c1.toNat * 256 + c2.toNat) (p := 256) 8; exact rfl; exact rfl; decide; omega; omega; omega; omega; omega) | (apply d_call0; exact rfl; rotate_left; exact rfl; rotate_left 3; exact good_any ⟨1, dec4 (c0 :: c1 :: c2 :: c3 :: t), []⟩; exact rfl) | refine d_v ?_ | refine d_m ?_ | (apply d_nil; kernel_rfl) | refine d_gd ?_ | (refine d_gsplit rfl rfl rfl (fun hb => ?_) (fun hb => ?_) <;> refine fct hb (fun hp => ?_))) | refine c_go ?_ | refine s_region ?_ | refine d_region ?_ | (refine L.cond rfl (fun hb => ?_) (fun hb => ?_) <;> refine fct hb (fun hp => ?_))))
          refine L.only [4, 0] ?_
          refine L.retok 4 79 4 rfl rfl rfl rfl ?_
          refine hK _ (acc ++ [⟨1, dec4 (c0 :: c1 :: c2 :: c3 :: t), []⟩], t) ⟨step_some hi hv hg, by simp at hl ⊢ <;> omega⟩ (by simp <;> omega) (Wk.mk' (by intro id h; cases h) (.cons rfl (Sub.of_eq (congrArg (AV.row 4) ?_)) (.cons rfl (Sub.refl _) .nil)) .nil (.cons rfl .nil))
          simp [chunks, Val.c, dec4]
    by_cases h3 : b = 3
    · subst h3
      (repeat' (first | (refine LW.is ?_; first | (apply s_vr; exact rfl; apply v_indexS; exact rfl; exact rfl; decide; exact rfl) | (apply s_vr; exact rfl; apply v_sliceSl; exact rfl; exact rfl; decide; (simp <;> omega); (show _ = r; exact rfl)) | refine s_v ?_ | refine s_m ?_ | refine s_nil ?_ | refine s_gd ?_ | (refine s_gsplit rfl rfl rfl (fun hb => ?_) (fun hb => ?_) <;> refine fct hb (fun hp => ?_))) | (refine DR.is ?_; first | (apply d_vr; exact rfl; apply v_indexS; exact rfl; exact rfl; decide; exact rfl) | (apply d_vr; exact rfl; apply v_sliceSl; exact rfl; exact rfl; decide; (simp <;> omega); (show _ = r; exact rfl)) | refine d_v ?_ | refine d_m ?_ | (apply d_nil; kernel_rfl) | refine d_gd ?_ | (refine d_gsplit rfl rfl rfl (fun hb => ?_) (fun hb => ?_) <;> refine fct hb (fun hp => ?_))) | refine c_go ?_ | refine s_region ?_ | refine d_region ?_ | (refine L.cond rfl (fun hb => ?_) (fun hb => ?_) <;> refine fct hb (fun hp => ?_))))
      have hule := upto0_le r
      refine L.loopP (ι := Nat) (fun j => ⟨[(6, aI (j : Int)), (5, .ptr 5 0), (4, .row 4 (acc.map Val.c)), (0, aS r)], [(5, ⟨32, .l [.iv (I 2), .iv (I 0), .iv (S [])]⟩)], [(4, ⟨32, 3⟩)]⟩) (fun j => r.length - j) (fun j => j ≤ (upto0 r).length) (i0 := 0) ?_ (Nat.zero_le _) ?_
      · (refine Wk.mk' (by intro id h; cases h) ?_ ?_ ?_ <;> repeat' (first | exact WkF.nil | exact WkB.nil | exact WkT.nil | (refine WkF.cons rfl (Sub.refl _) ?_) | (refine WkB.cons rfl rfl (Subs.refl _) ?_) | (refine WkT.cons rfl ?_)))
      intro j hj K2 hK2
      cases hc : r[j]? with
      | none =>
        have hlt := ltF hc
        have hjl : r.length ≤ j := List.getElem?_eq_none_iff.1 hc
        have hju : (upto0 r).length = r.length := by omega
        have hv : valOne (3 :: r) = none := by simp [valOne, hju]
        have hjr : ((j : Int) == (r.length : Int)) = true := by simp; omega
        (repeat' (first | (refine LW.is ?_; first | refine s_v ?_ | refine s_m ?_ | refine s_nil ?_ | refine s_gd ?_ | (refine s_gsplit rfl rfl rfl (fun hb => ?_) (fun hb => ?_) <;> refine fct hb (fun hp => ?_))) | (refine DR.is ?_; first | refine d_v ?_ | refine d_m ?_ | (apply d_nil; kernel_rfl) | refine d_gd ?_ | (refine d_gsplit rfl rfl rfl (fun hb => ?_) (fun hb => ?_) <;> refine fct hb (fun hp => ?_))) | refine c_go ?_ | refine s_region ?_ | refine d_region ?_ | (refine L.cond rfl (fun hb => ?_) (fun hb => ?_) <;> refine fct hb (fun hp => ?_))))
        all_goals (first | (apply L.ends1; exact rfl; exact rfl; exact rfl) | (apply L.ends2; exact rfl; exact rfl; exact rfl) | (apply L.ends3; exact rfl; exact rfl; exact rfl) | (apply L.ends1A; exact rfl; exact rfl; exact rfl) | (apply L.ends2A; exact rfl; exact rfl; exact rfl) | (apply L.ends3A; exact rfl; exact rfl; exact rfl))
        rw [step_none hi hv]; rfl
      | some c =>
        have hlt := ltT hc
        have hjl := ltN hc
        by_cases hz : c = 0
        · subst hz
          have hju := upto0_zero hc hj
          have htk : r.take j = upto0 r := by rw [← hju]; exact upto0_take r
          have hjr : ((j : Int) == (r.length : Int)) = false := by simp; omega
          have hv : valOne (3 :: r) = some (⟨2, 0, r.take j⟩, r.drop (j + 1)) := by
            have : ¬ (upto0 r).length = r.length := by omega
            simp only [valOne]
            rw [if_neg (by decide), if_neg (by decide), if_pos (by decide), if_neg this, hju, htk]
          cases hg : goodM ⟨2, 0, r.take j⟩ with
          | false =>
            have hng : (!goodM ⟨2, 0, r.take j⟩) = true := by rw [hg]; rfl
            (repeat' (first | (refine LW.is ?_; first | (apply s_vr; exact rfl; apply v_sliceSh; exact rfl; exact rfl; omega; omega; (show _ = r.take j; exact rfl)) | (apply s_vr; exact rfl; apply v_sliceSl; exact rfl; exact rfl; omega; omega; (show _ = r.drop (j + 1); exact rfl)) | (apply s_call0; exact rfl; rotate_left; exact rfl; rotate_left 3; exact good_any ⟨2, 0, r.take j⟩; exact rfl) | refine s_v ?_ | refine s_m ?_ | refine s_nil ?_ | refine s_gd ?_ | (refine s_gsplit rfl rfl rfl (fun hb => ?_) (fun hb => ?_) <;> refine fct hb (fun hp => ?_))) | (refine DR.is ?_; first | (apply d_vr; exact rfl; apply v_sliceSh; exact rfl; exact rfl; omega; omega; (show _ = r.take j; exact rfl)) | (apply d_vr; exact rfl; apply v_sliceSl; exact rfl; exact rfl; omega; omega; (show _ = r.drop (j + 1); exact rfl)) | (apply d_call0; exact rfl; rotate_left; exact rfl; rotate_left 3; exact good_any ⟨2, 0, r.take j⟩; exact rfl) | refine d_v ?_ | refine d_m ?_ | (apply d_nil; kernel_rfl) | refine d_gd ?_ | (refine d_gsplit rfl rfl rfl (fun hb => ?_) (fun hb => ?_) <;> refine fct hb (fun hp => ?_))) | refine c_go ?_ | refine s_region ?_ | refine d_region ?_ | (refine L.cond rfl (fun hb => ?_) (fun hb => ?_) <;> refine fct hb (fun hp => ?_))))
            all_goals (first | (apply L.ends1; exact rfl; exact rfl; exact rfl) | (apply L.ends2; exact rfl; exact rfl; exact rfl) | (apply L.ends3; exact rfl; exact rfl; exact rfl) | (apply L.ends1A; exact rfl; exact rfl; exact rfl) | (apply L.ends2A; exact rfl; exact rfl; exact rfl) | (apply L.ends3A; exact rfl; exact rfl; exact rfl))
            rw [step_bad hi hv hg]; rfl
          | true =>
            have hng : (!goodM ⟨2, 0, r.take j⟩) = false := by rw [hg]; rfl
            (repeat' (first | (refine LW.is ?_; first | (apply s_vr; exact rfl; apply v_sliceSh; exact rfl; exact rfl; omega; omega; (show _ = r.take j; exact rfl)) | (apply s_vr; exact rfl; apply v_sliceSl; exact rfl; exact rfl; omega; omega; (show _ = r.drop (j + 1); exact rfl)) | (apply s_call0; exact rfl; rotate_left; exact rfl; rotate_left 3; exact good_any ⟨2, 0, r.take j⟩; exact rfl) | refine s_v ?_ | refine s_m ?_ | refine s_nil ?_ | refine s_gd ?_ | (refine s_gsplit rfl rfl rfl (fun hb => ?_) (fun hb => ?_) <;> refine fct hb (fun hp => ?_))) | (refine DR.is ?_; first | (apply d_vr; exact rfl; apply v_sliceSh; exact rfl; exact rfl; omega; omega; (show _ = r.take j; exact rfl)) | (apply d_vr; exact rfl; apply v_sliceSl; exact rfl; exact rfl; omega; omega; (show _ = r.drop (j + 1); exact rfl)) | (apply d_call0; exact rfl; rotate_left; exact rfl; rotate_left 3; exact good_any ⟨2, 0, r.take j⟩; exact rfl) | refine d_v ?_ | refine d_m ?_ | (apply d_nil; kernel_rfl) | refine d_gd ?_ | (refine d_gsplit rfl rfl rfl (fun hb => ?_) (fun hb => ?_) <;> refine fct hb (fun hp => ?_))) | refine c_go ?_ | refine s_region ?_ | refine d_region ?_ | (refine L.cond rfl (fun hb => ?_) (fun hb => ?_) <;> refine fct hb (fun hp => ?_))))
            refine L.only [4, 0] ?_
            refine L.retok 4 79 4 rfl rfl rfl rfl ?_
            refine hK _ (acc ++ [⟨2, 0, r.take j⟩], r.drop (j + 1)) ⟨step_some hi hv hg, by simp at hl ⊢ <;> omega⟩ (by simp <;> omega) (Wk.mk' (by intro id h; cases h) (.cons rfl (Sub.of_eq (congrArg (AV.row 4) ?_)) (.cons rfl (Sub.refl _) .nil)) .nil (.cons rfl .nil))
            simp [chunks, Val.c]
        · have hnz : ((c.toNat : Int) != 0) = true := by
            have : c.toNat ≠ 0 := fun h => hz (UInt8.toNat_inj.1 h)
            simpa using this
          have hnx := upto0_next hc hz hj
          (repeat' (first | (refine LW.is ?_; first | refine s_v ?_ | refine s_m ?_ | refine s_nil ?_ | refine s_gd ?_ | (refine s_gsplit rfl rfl rfl (fun hb => ?_) (fun hb => ?_) <;> refine fct hb (fun hp => ?_))) | (refine DR.is ?_; first | refine d_v ?_ | refine d_m ?_ | (apply d_nil; kernel_rfl) | refine d_gd ?_ | (refine d_gsplit rfl rfl rfl (fun hb => ?_) (fun hb => ?_) <;> refine fct hb (fun hp => ?_))) | refine c_go ?_ | refine s_region ?_ | refine d_region ?_ | (refine L.cond rfl (fun hb => ?_) (fun hb => ?_) <;> refine fct hb (fun hp => ?_))))
          refine hK2 _ (j + 1) hnx (by omega) ?_
          (refine Wk.mk' (by intro id h; cases h) ?_ ?_ ?_ <;> repeat' (first | exact WkF.nil | exact WkB.nil | exact WkT.nil | (refine WkF.cons rfl (Sub.refl _) ?_) | (refine WkB.cons rfl rfl (Subs.refl _) ?_) | (refine WkT.cons rfl ?_)))
    · have hb := b.toNat_lt
      have n1 : b.toNat ≠ 1 := fun h => h1 (UInt8.toNat_inj.1 h)
      have n2 : b.toNat ≠ 2 := fun h => h2 (UInt8.toNat_inj.1 h)
      have n3 : b.toNat ≠ 3 := fun h => h3 (UInt8.toNat_inj.1 h)
      have hv : valOne (b :: r) = none := by simp [valOne, n1, n2, n3]
      have q1 : ((b.toNat : Int) - 1 == 0) = false := by simp; omega
      have q2 : ((b.toNat : Int) - 1 == 1) = false := by simp; omega
      have q3 : ((b.toNat : Int) - 1 == 2) = false := by simp; omega
      have hg : goodM ⟨(b.toNat : Int) - 1, 0, []⟩ = false := by
        unfold goodM
        rw [if_neg (by simpa using q1), if_neg (by simpa using q2), if_neg (by simpa using q3)]
      have hng : (!goodM ⟨(b.toNat : Int) - 1, 0, []⟩) = true := by rw [hg]; rfl
      (repeat' (first | (refine LW.is ?_; first | (apply s_vr; exact rfl; apply v_indexS; exact rfl; exact rfl; decide; exact rfl) | (apply s_vr; exact rfl; apply v_sliceSl; exact rfl; exact rfl; decide; (simp <;> omega); (show _ = r; exact rfl)) | (apply s_call0; exact rfl; rotate_left; exact rfl; rotate_left 3; exact good_any ⟨(b.toNat : Int) - 1, 0, []⟩; exact rfl) | refine s_v ?_ | refine s_m ?_ | refine s_nil ?_ | refine s_gd ?_ | (refine s_gsplit rfl rfl rfl (fun hb => ?_) (fun hb => ?_) <;> refine fct hb (fun hp => ?_))) | (refine DR.is ?_; first | (apply d_vr; exact rfl; apply v_indexS; exact rfl; exact rfl; decide; exact rfl) | (apply d_vr; exact rfl; apply v_sliceSl; exact rfl; exact rfl; decide; (simp <;> omega); (show _ = r; exact rfl)) | (apply d_call0; exact rfl; rotate_left; exact rfl; rotate_left 3; exact good_any ⟨(b.toNat : Int) - 1, 0, []⟩; exact rfl) | refine d_v ?_ | refine d_m ?_ | (apply d_nil; kernel_rfl) | refine d_gd ?_ | (refine d_gsplit rfl rfl rfl (fun hb => ?_) (fun hb => ?_) <;> refine fct hb (fun hp => ?_))) | refine c_go ?_ | refine s_region ?_ | refine d_region ?_ | (refine L.cond rfl (fun hb => ?_) (fun hb => ?_) <;> refine fct hb (fun hp => ?_))))
      all_goals (first | (apply L.ends1; exact rfl; exact rfl; exact rfl) | (apply L.ends2; exact rfl; exact rfl; exact rfl) | (apply L.ends3; exact rfl; exact rfl; exact rfl) | (apply L.ends1A; exact rfl; exact rfl; exact rfl) | (apply L.ends2A; exact rfl; exact rfl; exact rfl) | (apply L.ends3A; exact rfl; exact rfl; exact rfl))
      rw [step_none hi hv]; rfl
end Go.Proofs.YthkobnpogigkiaaDoor
/- Values: 'values' answers true; the law ValueTruths answers true. Conditions: none. -/
namespace Go.Proofs.YthkobnpogigkiaaDoor
open Go.Abs
set_option maxRecDepth 100000
attribute [local irreducible] L Code.wp bodyPost Exit.then Exit.inBlock
set_option linter.unusedVariables false
set_option linter.unusedSimpArgs false
theorem or_any (a b : Int) : CallA Tryd.prog 97 [aI a, aI b] [] [] [] (aI (orM a b)) := by
  refine CallA.intro _ Tryd.func97 rfl Tryd.ntmps97 rfl (fun w0 E0 => ?_)
  (repeat' (first | (refine LW.is ?_; first | (apply s_call0; exact rfl; exact not_any a; exact rfl; exact rfl) | (apply s_call0; exact rfl; exact not_any b; exact rfl; exact rfl) | (apply s_call0; exact rfl; exact and_any (notM a) (notM b); exact rfl; exact rfl) | (apply s_call0; exact rfl; exact not_any (andM (notM a) (notM b)); exact rfl; exact rfl) | refine s_v ?_ | refine s_m ?_ | refine s_nil ?_ | refine s_gd ?_ | (refine s_gsplit rfl rfl rfl (fun hb => ?_) (fun hb => ?_) <;> refine fct hb (fun hp => ?_))) | (refine DR.is ?_; first | (apply d_call0; exact rfl; exact not_any a; exact rfl; exact rfl) | (apply d_call0; exact rfl; exact not_any b; exact rfl; exact rfl) | (apply d_call0; exact rfl; exact and_any (notM a) (notM b); exact rfl; exact rfl) | (apply d_call0; exact rfl; exact not_any (andM (notM a) (notM b)); exact rfl; exact rfl) | refine d_v ?_ | refine d_m ?_ | (apply d_nil; kernel_rfl) | refine d_gd ?_ | (refine d_gsplit rfl rfl rfl (fun hb => ?_) (fun hb => ?_) <;> refine fct hb (fun hp => ?_))) | refine c_go ?_ | refine s_region ?_ | refine d_region ?_ | (refine L.cond rfl (fun hb => ?_) (fun hb => ?_) <;> refine fct hb (fun hp => ?_))))
  all_goals (first | (apply L.ends1; exact rfl; exact rfl; exact rfl) | (apply L.ends2; exact rfl; exact rfl; exact rfl) | (apply L.ends3; exact rfl; exact rfl; exact rfl) | (apply L.ends1A; exact rfl; exact rfl; exact rfl) | (apply L.ends2A; exact rfl; exact rfl; exact rfl) | (apply L.ends3A; exact rfl; exact rfl; exact rfl))
  rfl
end Go.Proofs.YthkobnpogigkiaaDoor
/- Values, plain laws: a key leads back to its values, and values to their key. Conditions: none. -/
namespace Go.Proofs.YthkobnpogigkiaaDoor
open Go.Abs
set_option linter.unusedVariables false
set_option linter.unusedSimpArgs false
theorem charOk_ne {b : UInt8} (h : charOk b = true) : b ≠ 0 := by
  intro e; subst e; simp [charOk] at h
theorem upto0_app {s r : List UInt8} (h : s.all charOk = true) : upto0 (s ++ 0 :: r) = s := by
  induction s with
  | nil => simp [upto0]
  | cons b s ih =>
    simp only [List.all_cons, Bool.and_eq_true] at h
    have := charOk_ne h.1
    have ih := ih h.2
    unfold upto0 at ih ⊢
    simp [this, ih]
theorem u8_nat {n : Int} (h0 : 0 ≤ n) : ((u8 n).toNat : Int) = n % 256 := by rw [u8_wrap, IntKind.wrap_u8]
theorem dec4_be4 {x : Int} (h0 : 0 ≤ x) (h1 : x < 4294967296) (r : List UInt8) : dec4 (be4 x ++ r) = x - 1073741824 := by
  have e0 := u8_nat (n := x / 16777216) (by omega)
  have e1 := u8_nat (n := x / 65536) (by omega)
  have e2 := u8_nat (n := x / 256) (by omega)
  have e3 := u8_nat (n := x) (by omega)
  simp only [dec4, be4, List.cons_append, List.getD_cons_zero, List.getD_cons_succ]
  omega
theorem good_cases {v : Val} (h : goodM v = true) : v = ⟨0, 0, []⟩ ∨ (∃ n : Int, v = ⟨1, n, []⟩ ∧ -1000000 ≤ n ∧ n ≤ 1000000) ∨ ∃ s, v = ⟨2, 0, s⟩ ∧ s.length ≤ 8 ∧ s.all charOk = true := by
  obtain ⟨k, n, s⟩ := v
  unfold goodM at h
  split at h
  · rename_i h0
    simp at h h0
    left; simp [h, h0]
  · split at h
    · rename_i h0
      simp at h h0
      right; left; exact ⟨n, by simp [h, h0], h.2⟩
    · split at h
      · rename_i h0
        simp only [Bool.and_eq_true, beq_iff_eq, decide_eq_true_eq] at h
        simp only at h0
        right; right; exact ⟨s, by simp [h.1, h0], h.2⟩
      · cases h
theorem keyOne0 : keyOne ⟨0, 0, []⟩ = [1] := by simp [keyOne, u8, IntKind.wrap_u8]
theorem keyOne1 (n : Int) : keyOne ⟨1, n, []⟩ = 2 :: be4 (n + 1073741824) := by simp [keyOne, u8, IntKind.wrap_u8]
theorem keyOne2 (s : List UInt8) : keyOne ⟨2, 0, s⟩ = 3 :: (s ++ [0]) := by simp [keyOne, u8, IntKind.wrap_u8]
theorem valOne2 (s : List UInt8) : valOne (2 :: s) = if s.length < 4 then none else some (⟨1, dec4 s, []⟩, s.drop 4) := by
  simp only [valOne]; rw [if_neg (by decide), if_pos (by decide)]
theorem valOne3 (s : List UInt8) : valOne (3 :: s) = if (upto0 s).length = s.length then none else some (⟨2, 0, upto0 s⟩, s.drop ((upto0 s).length + 1)) := by
  simp only [valOne]; rw [if_neg (by decide), if_neg (by decide), if_pos (by decide)]
theorem valOne_key {v : Val} (h : goodM v = true) (r : List UInt8) : valOne (keyOne v ++ r) = some (v, r) := by
  rcases good_cases h with rfl | ⟨n, rfl, h0, h1⟩ | ⟨s, rfl, hl, hs⟩
  · rw [keyOne0]; rfl
  · rw [keyOne1]
    have hl : ¬ (be4 (n + 1073741824) ++ r).length < 4 := by simp [be4]
    have e : dec4 (be4 (n + 1073741824) ++ r) = n := by rw [dec4_be4 (by omega) (by omega)]; omega
    have ed : (be4 (n + 1073741824) ++ r).drop 4 = r := by simp [be4]
    show valOne (2 :: (be4 (n + 1073741824) ++ r)) = _
    rw [valOne2, if_neg hl, e, ed]
  · rw [keyOne2]
    have hu : upto0 ((s ++ [0]) ++ r) = s := by
      have := upto0_app (r := r) hs
      simpa using this
    have hl : ¬ (upto0 ((s ++ [0]) ++ r)).length = ((s ++ [0]) ++ r).length := by rw [hu]; simp
    have ed : ((s ++ [0]) ++ r).drop (s.length + 1) = r := by
      rw [List.drop_append_of_le_length (by simp)]; simp
    show valOne (3 :: ((s ++ [0]) ++ r)) = _
    rw [valOne3, if_neg hl, hu, ed]
theorem valsM_key : ∀ {vs : List Val}, vs.all goodM = true → valsM (vs.flatMap keyOne) = some vs
  | [], _ => valsM_nil
  | v :: vs, h => by
    simp only [List.all_cons, Bool.and_eq_true] at h
    rw [List.flatMap_cons, valsM_some (valOne_key h.1 _), if_pos h.1, valsM_key h.2]; rfl
end Go.Proofs.YthkobnpogigkiaaDoor
/- Values: what 'same' computes; the law ValueBack answers true. Conditions: how much there is of what comes in. -/
namespace Go.Proofs.YthkobnpogigkiaaDoor
open Go.Abs
set_option maxRecDepth 100000
attribute [local irreducible] L Code.wp bodyPost Exit.then Exit.inBlock
set_option linter.unusedVariables false
set_option linter.unusedSimpArgs false
def veq (v w : Val) : Bool := v.k == w.k && (v.n == w.n && (v.s == w.s && true))
theorem veq_iff {v w : Val} : veq v w = true ↔ v = w := by
  obtain ⟨a, b, c⟩ := v
  obtain ⟨a', b', c'⟩ := w
  simp [veq]
def sameM : List Val → List Val → Bool
  | [], [] => true
  | v :: l, w :: m => veq v w && sameM l m
  | _, _ => false
theorem sameM_iff : ∀ {l m : List Val}, sameM l m = true ↔ l = m
  | [], [] => by simp [sameM]
  | [], _ :: _ => by simp [sameM]
  | _ :: _, [] => by simp [sameM]
  | v :: l, w :: m => by simp [sameM, veq_iff, sameM_iff]
theorem sameM_len : ∀ {l m : List Val}, l.length ≠ m.length → sameM l m = false
  | [], [], h => by simp at h
  | [], _ :: _, _ => rfl
  | _ :: _, [], _ => rfl
  | v :: l, w :: m, h => by simp [sameM, sameM_len (l := l) (m := m) (by simpa using h)]
theorem same_any (a b : List Val) (hlen : a.length ≤ 140737488355328) : CallA Tryd.prog 39 [.iv (.sl (a.map Val.c)), .iv (.sl (b.map Val.c))] [] [] [] (aB (sameM a b)) := by
  refine CallA.intro _ Tryd.func39 rfl Tryd.ntmps39 rfl (fun w0 E0 => ?_)
  by_cases hl : a.length = b.length
  · have hne : (((a.map Val.c).length : Int) != ((b.map Val.c).length : Int)) = false := by simp [hl]
    (repeat' (first | (refine LW.is ?_; first | refine s_v ?_ | refine s_m ?_ | refine s_nil ?_ | refine s_gd ?_ | (refine s_gsplit rfl rfl rfl (fun hb => ?_) (fun hb => ?_) <;> refine fct hb (fun hp => ?_))) | (refine DR.is ?_; first | refine d_v ?_ | refine d_m ?_ | (apply d_nil; kernel_rfl) | refine d_gd ?_ | (refine d_gsplit rfl rfl rfl (fun hb => ?_) (fun hb => ?_) <;> refine fct hb (fun hp => ?_))) | refine c_go ?_ | refine s_region ?_ | refine d_region ?_ | (refine L.cond rfl (fun hb => ?_) (fun hb => ?_) <;> refine fct hb (fun hp => ?_))))
    refine L.loopP (ι := Nat) (fun i => ⟨[(13, aI (i : Int)), (12, aI ((a.map Val.c).length : Int)), (0, .iv (.sl (a.map Val.c))), (1, .iv (.sl (b.map Val.c)))], [], []⟩) (fun i => a.length - i) (fun i => sameM a b = sameM (a.drop i) (b.drop i)) (i0 := 0) ?_ rfl ?_
    · (refine Wk.mk' (by intro id h; cases h) ?_ ?_ ?_ <;> repeat' (first | exact WkF.nil | exact WkB.nil | exact WkT.nil | (refine WkF.cons rfl (Sub.refl _) ?_) | (refine WkB.cons rfl rfl (Subs.refl _) ?_) | (refine WkT.cons rfl ?_)))
    intro i hi K hK
    cases hv : a[i]? with
    | none =>
      have hlt := ltF (l := a.map Val.c) (getFN hv)
      have hv' : b[i]? = none := by rw [List.getElem?_eq_none_iff] at hv ⊢; omega
      (repeat' (first | (refine LW.is ?_; first | refine s_v ?_ | refine s_m ?_ | refine s_nil ?_ | refine s_gd ?_ | (refine s_gsplit rfl rfl rfl (fun hb => ?_) (fun hb => ?_) <;> refine fct hb (fun hp => ?_))) | (refine DR.is ?_; first | refine d_v ?_ | refine d_m ?_ | (apply d_nil; kernel_rfl) | refine d_gd ?_ | (refine d_gsplit rfl rfl rfl (fun hb => ?_) (fun hb => ?_) <;> refine fct hb (fun hp => ?_))) | refine c_go ?_ | refine s_region ?_ | refine d_region ?_ | (refine L.cond rfl (fun hb => ?_) (fun hb => ?_) <;> refine fct hb (fun hp => ?_))))
      all_goals (first | (apply L.ends1; exact rfl; exact rfl; exact rfl) | (apply L.ends2; exact rfl; exact rfl; exact rfl) | (apply L.ends3; exact rfl; exact rfl; exact rfl) | (apply L.ends1A; exact rfl; exact rfl; exact rfl) | (apply L.ends2A; exact rfl; exact rfl; exact rfl) | (apply L.ends3A; exact rfl; exact rfl; exact rfl))
      rw [hi, dropN hv, dropN hv']; rfl
    | some v =>
      have hlt := ltT (l := a.map Val.c) (getF hv)
      have hlt' := ltN hv
      obtain ⟨w, hw⟩ : ∃ w, b[i]? = some w := ⟨_, List.getElem?_eq_getElem (by omega)⟩
      rw [dropC hv, dropC hw] at hi
      cases hq : veq v w with
      | false =>
        have hq' : (!veq v w) = true := by rw [hq]; rfl
        (repeat' (first | (refine LW.is ?_; first | refine s_v ?_ | refine s_m ?_ | refine s_nil ?_ | refine s_gd ?_ | (refine s_gsplit rfl rfl rfl (fun hb => ?_) (fun hb => ?_) <;> refine fct hb (fun hp => ?_))) | (refine DR.is ?_; first | refine d_v ?_ | refine d_m ?_ | (apply d_nil; kernel_rfl) | refine d_gd ?_ | (refine d_gsplit rfl rfl rfl (fun hb => ?_) (fun hb => ?_) <;> refine fct hb (fun hp => ?_))) | refine c_go ?_ | refine s_region ?_ | refine d_region ?_ | (refine L.cond rfl (fun hb => ?_) (fun hb => ?_) <;> refine fct hb (fun hp => ?_))))
        all_goals (first | (apply L.ends1; exact rfl; exact rfl; exact rfl) | (apply L.ends2; exact rfl; exact rfl; exact rfl) | (apply L.ends3; exact rfl; exact rfl; exact rfl) | (apply L.ends1A; exact rfl; exact rfl; exact rfl) | (apply L.ends2A; exact rfl; exact rfl; exact rfl) | (apply L.ends3A; exact rfl; exact rfl; exact rfl))
        rw [hi]; simp [sameM, hq]
      | true =>
        have hq' : (!veq v w) = false := by rw [hq]; rfl
        (repeat' (first | (refine LW.is ?_; first | refine s_v ?_ | refine s_m ?_ | refine s_nil ?_ | refine s_gd ?_ | (refine s_gsplit rfl rfl rfl (fun hb => ?_) (fun hb => ?_) <;> refine fct hb (fun hp => ?_))) | (refine DR.is ?_; first | refine d_v ?_ | refine d_m ?_ | (apply d_nil; kernel_rfl) | refine d_gd ?_ | (refine d_gsplit rfl rfl rfl (fun hb => ?_) (fun hb => ?_) <;> refine fct hb (fun hp => ?_))) | refine c_go ?_ | refine s_region ?_ | refine d_region ?_ | (refine L.cond rfl (fun hb => ?_) (fun hb => ?_) <;> refine fct hb (fun hp => ?_))))
        refine hK _ (i + 1) (by rw [hi]; simp [sameM, hq]) (by omega) ?_
        (refine Wk.mk' (by intro id h; cases h) ?_ ?_ ?_ <;> repeat' (first | exact WkF.nil | exact WkB.nil | exact WkT.nil | (refine WkF.cons rfl (Sub.refl _) ?_) | (refine WkB.cons rfl rfl (Subs.refl _) ?_) | (refine WkT.cons rfl ?_)))
  · have hne : (((a.map Val.c).length : Int) != ((b.map Val.c).length : Int)) = true := by simp; omega
    (repeat' (first | (refine LW.is ?_; first | refine s_v ?_ | refine s_m ?_ | refine s_nil ?_ | refine s_gd ?_ | (refine s_gsplit rfl rfl rfl (fun hb => ?_) (fun hb => ?_) <;> refine fct hb (fun hp => ?_))) | (refine DR.is ?_; first | refine d_v ?_ | refine d_m ?_ | (apply d_nil; kernel_rfl) | refine d_gd ?_ | (refine d_gsplit rfl rfl rfl (fun hb => ?_) (fun hb => ?_) <;> refine fct hb (fun hp => ?_))) | refine c_go ?_ | refine s_region ?_ | refine d_region ?_ | (refine L.cond rfl (fun hb => ?_) (fun hb => ?_) <;> refine fct hb (fun hp => ?_))))
    all_goals (first | (apply L.ends1; exact rfl; exact rfl; exact rfl) | (apply L.ends2; exact rfl; exact rfl; exact rfl) | (apply L.ends3; exact rfl; exact rfl; exact rfl) | (apply L.ends1A; exact rfl; exact rfl; exact rfl) | (apply L.ends2A; exact rfl; exact rfl; exact rfl) | (apply L.ends3A; exact rfl; exact rfl; exact rfl))
    rw [sameM_len hl]
end Go.Proofs.YthkobnpogigkiaaDoor
/- Values: what Compare computes. Conditions: none. -/
namespace Go.Proofs.YthkobnpogigkiaaDoor
open Go.Abs
set_option maxRecDepth 100000
attribute [local irreducible] L Code.wp bodyPost Exit.then Exit.inBlock
set_option linter.unusedVariables false
set_option linter.unusedSimpArgs false
def cmpI (a b : Int) : Int := if a < b then -1 else if b < a then 1 else 0
def cmpS (a b : List UInt8) : Int := if Op.bytesLess a b then -1 else if Op.bytesLess b a then 1 else 0
def orL : List Int → Int
  | [] => 0
  | x :: l => if x = 0 then orL l else x
def cmpM (v w : Val) : Int := orL [cmpI v.k w.k, cmpI v.n w.n, cmpS v.s w.s]
def cI (n : Int) : List IV := [I n]
theorem nanI_any (a : Int) : CallA Tryd.prog 105 [aI a] [] [] [] (aB false) := by
  refine CallA.intro _ Tryd.func105 rfl Tryd.ntmps105 rfl (fun w0 E0 => ?_)
  (repeat' (first | (refine LW.is ?_; first | refine s_v ?_ | refine s_m ?_ | refine s_nil ?_ | refine s_gd ?_ | (refine s_gsplit rfl rfl rfl (fun hb => ?_) (fun hb => ?_) <;> refine fct hb (fun hp => ?_))) | (refine DR.is ?_; first | refine d_v ?_ | refine d_m ?_ | (apply d_nil; kernel_rfl) | refine d_gd ?_ | (refine d_gsplit rfl rfl rfl (fun hb => ?_) (fun hb => ?_) <;> refine fct hb (fun hp => ?_))) | refine c_go ?_ | refine s_region ?_ | refine d_region ?_ | (refine L.cond rfl (fun hb => ?_) (fun hb => ?_) <;> refine fct hb (fun hp => ?_))))
  all_goals (first | (apply L.ends1; exact rfl; exact rfl; exact rfl) | (apply L.ends2; exact rfl; exact rfl; exact rfl) | (apply L.ends3; exact rfl; exact rfl; exact rfl) | (apply L.ends1A; exact rfl; exact rfl; exact rfl) | (apply L.ends2A; exact rfl; exact rfl; exact rfl) | (apply L.ends3A; exact rfl; exact rfl; exact rfl))
  all_goals simp [resOf]
theorem nanS_any (a : List UInt8) : CallA Tryd.prog 106 [aS a] [] [] [] (aB false) := by
  refine CallA.intro _ Tryd.func106 rfl Tryd.ntmps106 rfl (fun w0 E0 => ?_)
  (repeat' (first | (refine LW.is ?_; first | refine s_v ?_ | refine s_m ?_ | refine s_nil ?_ | refine s_gd ?_ | (refine s_gsplit rfl rfl rfl (fun hb => ?_) (fun hb => ?_) <;> refine fct hb (fun hp => ?_))) | (refine DR.is ?_; first | refine d_v ?_ | refine d_m ?_ | (apply d_nil; kernel_rfl) | refine d_gd ?_ | (refine d_gsplit rfl rfl rfl (fun hb => ?_) (fun hb => ?_) <;> refine fct hb (fun hp => ?_))) | refine c_go ?_ | refine s_region ?_ | refine d_region ?_ | (refine L.cond rfl (fun hb => ?_) (fun hb => ?_) <;> refine fct hb (fun hp => ?_))))
  all_goals (first | (apply L.ends1; exact rfl; exact rfl; exact rfl) | (apply L.ends2; exact rfl; exact rfl; exact rfl) | (apply L.ends3; exact rfl; exact rfl; exact rfl) | (apply L.ends1A; exact rfl; exact rfl; exact rfl) | (apply L.ends2A; exact rfl; exact rfl; exact rfl) | (apply L.ends3A; exact rfl; exact rfl; exact rfl))
  all_goals simp [resOf]
theorem cmpI_any (a b : Int) : CallA Tryd.prog 77 [aI a, aI b] [] [] [] (aI (cmpI a b)) := by
  refine CallA.intro _ Tryd.func77 rfl Tryd.ntmps77 rfl (fun w0 E0 => ?_)
  (repeat' (first | (refine LW.is ?_; first | (apply s_call0; exact rfl; rotate_left; exact rfl; rotate_left 3; exact nanI_any _; exact rfl) | refine s_v ?_ | refine s_m ?_ | refine s_nil ?_ | refine s_gd ?_ | (refine s_gsplit rfl rfl rfl (fun hb => ?_) (fun hb => ?_) <;> refine fct hb (fun hp => ?_))) | (refine DR.is ?_; first | (apply d_call0; exact rfl; rotate_left; exact rfl; rotate_left 3; exact nanI_any _; exact rfl) | refine d_v ?_ | refine d_m ?_ | (apply d_nil; kernel_rfl) | refine d_gd ?_ | (refine d_gsplit rfl rfl rfl (fun hb => ?_) (fun hb => ?_) <;> refine fct hb (fun hp => ?_))) | refine c_go ?_ | refine s_region ?_ | refine d_region ?_ | (refine L.cond rfl (fun hb => ?_) (fun hb => ?_) <;> refine fct hb (fun hp => ?_))))
  all_goals (first | (apply L.ends1; exact rfl; exact rfl; exact rfl) | (apply L.ends2; exact rfl; exact rfl; exact rfl) | (apply L.ends3; exact rfl; exact rfl; exact rfl) | (apply L.ends1A; exact rfl; exact rfl; exact rfl) | (apply L.ends2A; exact rfl; exact rfl; exact rfl) | (apply L.ends3A; exact rfl; exact rfl; exact rfl))
  all_goals simp only [decide_eq_true_eq, decide_eq_false_iff_not] at *
  all_goals simp [resOf, cmpI, *]
theorem less_lt : ∀ (x y : List UInt8), Op.bytesLess x y = decide (x < y) := by
  intro x
  induction x with
  | nil => intro y; cases y <;> simp [Op.bytesLess]
  | cons a x ih =>
    intro y
    cases y with
    | nil => simp [Op.bytesLess]
    | cons b y =>
      unfold Op.bytesLess
      rw [ih y, Bool.eq_iff_iff]
      simp [List.cons_lt_cons_iff]
theorem bytes_gt {a b : List UInt8} : (!(Op.bytesLess a b || a == b)) = Op.bytesLess b a := by
  rw [less_lt, less_lt]
  by_cases h : b < a
  · have h1 : ¬ a < b := List.lt_asymm h
    have h2 : a ≠ b := fun e => by subst e; exact List.lt_irrefl _ h
    simp [h, h1, h2]
  · by_cases h1 : a < b
    · simp [h, h1]
    · have : a = b := List.le_antisymm (List.not_lt.1 h) (List.not_lt.1 h1)
      simp [h, this]
theorem cmpS_any (a b : List UInt8) : CallA Tryd.prog 78 [aS a, aS b] [] [] [] (aI (cmpS a b)) := by
  refine CallA.intro _ Tryd.func78 rfl Tryd.ntmps78 rfl (fun w0 E0 => ?_)
  cases h1 : Op.bytesLess a b with
  | true =>
    (repeat' (first | (refine LW.is ?_; first | (apply s_call0; exact rfl; rotate_left; exact rfl; rotate_left 3; exact nanS_any _; exact rfl) | refine s_v ?_ | refine s_m ?_ | refine s_nil ?_ | refine s_gd ?_ | (refine s_gsplit rfl rfl rfl (fun hb => ?_) (fun hb => ?_) <;> refine fct hb (fun hp => ?_))) | (refine DR.is ?_; first | (apply d_call0; exact rfl; rotate_left; exact rfl; rotate_left 3; exact nanS_any _; exact rfl) | refine d_v ?_ | refine d_m ?_ | (apply d_nil; kernel_rfl) | refine d_gd ?_ | (refine d_gsplit rfl rfl rfl (fun hb => ?_) (fun hb => ?_) <;> refine fct hb (fun hp => ?_))) | refine c_go ?_ | refine s_region ?_ | refine d_region ?_ | (refine L.cond rfl (fun hb => ?_) (fun hb => ?_) <;> refine fct hb (fun hp => ?_))))
    all_goals (first | (apply L.ends1; exact rfl; exact rfl; exact rfl) | (apply L.ends2; exact rfl; exact rfl; exact rfl) | (apply L.ends3; exact rfl; exact rfl; exact rfl) | (apply L.ends1A; exact rfl; exact rfl; exact rfl) | (apply L.ends2A; exact rfl; exact rfl; exact rfl) | (apply L.ends3A; exact rfl; exact rfl; exact rfl))
    all_goals simp [resOf, cmpS, *]
  | false =>
    have h2 : (!(Op.bytesLess a b || a == b)) = Op.bytesLess b a := bytes_gt
    cases h3 : Op.bytesLess b a with
    | true =>
      rw [h3] at h2
      (repeat' (first | (refine LW.is ?_; first | (apply s_call0; exact rfl; rotate_left; exact rfl; rotate_left 3; exact nanS_any _; exact rfl) | refine s_v ?_ | refine s_m ?_ | refine s_nil ?_ | refine s_gd ?_ | (refine s_gsplit rfl rfl rfl (fun hb => ?_) (fun hb => ?_) <;> refine fct hb (fun hp => ?_))) | (refine DR.is ?_; first | (apply d_call0; exact rfl; rotate_left; exact rfl; rotate_left 3; exact nanS_any _; exact rfl) | refine d_v ?_ | refine d_m ?_ | (apply d_nil; kernel_rfl) | refine d_gd ?_ | (refine d_gsplit rfl rfl rfl (fun hb => ?_) (fun hb => ?_) <;> refine fct hb (fun hp => ?_))) | refine c_go ?_ | refine s_region ?_ | refine d_region ?_ | (refine L.cond rfl (fun hb => ?_) (fun hb => ?_) <;> refine fct hb (fun hp => ?_))))
      all_goals (first | (apply L.ends1; exact rfl; exact rfl; exact rfl) | (apply L.ends2; exact rfl; exact rfl; exact rfl) | (apply L.ends3; exact rfl; exact rfl; exact rfl) | (apply L.ends1A; exact rfl; exact rfl; exact rfl) | (apply L.ends2A; exact rfl; exact rfl; exact rfl) | (apply L.ends3A; exact rfl; exact rfl; exact rfl))
      all_goals simp [resOf, cmpS, *]
    | false =>
      rw [h3] at h2
      (repeat' (first | (refine LW.is ?_; first | (apply s_call0; exact rfl; rotate_left; exact rfl; rotate_left 3; exact nanS_any _; exact rfl) | refine s_v ?_ | refine s_m ?_ | refine s_nil ?_ | refine s_gd ?_ | (refine s_gsplit rfl rfl rfl (fun hb => ?_) (fun hb => ?_) <;> refine fct hb (fun hp => ?_))) | (refine DR.is ?_; first | (apply d_call0; exact rfl; rotate_left; exact rfl; rotate_left 3; exact nanS_any _; exact rfl) | refine d_v ?_ | refine d_m ?_ | (apply d_nil; kernel_rfl) | refine d_gd ?_ | (refine d_gsplit rfl rfl rfl (fun hb => ?_) (fun hb => ?_) <;> refine fct hb (fun hp => ?_))) | refine c_go ?_ | refine s_region ?_ | refine d_region ?_ | (refine L.cond rfl (fun hb => ?_) (fun hb => ?_) <;> refine fct hb (fun hp => ?_))))
      all_goals (first | (apply L.ends1; exact rfl; exact rfl; exact rfl) | (apply L.ends2; exact rfl; exact rfl; exact rfl) | (apply L.ends3; exact rfl; exact rfl; exact rfl) | (apply L.ends1A; exact rfl; exact rfl; exact rfl) | (apply L.ends2A; exact rfl; exact rfl; exact rfl) | (apply L.ends3A; exact rfl; exact rfl; exact rfl))
      all_goals simp [resOf, cmpS, *]
theorem or3_any (vs : List Int) (hl : vs.length ≤ 1000) : CallA Tryd.prog 76 [.iv (.sl (vs.map cI))] [] [] [] (aI (orL vs)) := by
  refine CallA.intro _ Tryd.func76 rfl Tryd.ntmps76 rfl (fun w0 E0 => ?_)
  (repeat' (first | (refine LW.is ?_; first | refine s_v ?_ | refine s_m ?_ | refine s_nil ?_ | refine s_gd ?_ | (refine s_gsplit rfl rfl rfl (fun hb => ?_) (fun hb => ?_) <;> refine fct hb (fun hp => ?_))) | (refine DR.is ?_; first | refine d_v ?_ | refine d_m ?_ | (apply d_nil; kernel_rfl) | refine d_gd ?_ | (refine d_gsplit rfl rfl rfl (fun hb => ?_) (fun hb => ?_) <;> refine fct hb (fun hp => ?_))) | refine c_go ?_ | refine s_region ?_ | refine d_region ?_ | (refine L.cond rfl (fun hb => ?_) (fun hb => ?_) <;> refine fct hb (fun hp => ?_))))
  refine L.loopP (ι := Nat) (fun i => ⟨[(8, aI (i : Int)), (7, aI ((vs.map cI).length : Int)), (6, .iv (.sl (vs.map cI))), (3, aI 0)], [], []⟩) (fun i => vs.length - i) (fun i => orL vs = orL (vs.drop i)) (i0 := 0) ?_ rfl ?_
  · (refine Wk.mk' (by intro id h; cases h) ?_ ?_ ?_ <;> repeat' (first | exact WkF.nil | exact WkB.nil | exact WkT.nil | (refine WkF.cons rfl (Sub.refl _) ?_) | (refine WkB.cons rfl rfl (Subs.refl _) ?_) | (refine WkT.cons rfl ?_)))
  intro i hi K hK
  cases hv : vs[i]? with
  | none =>
    have hlt := ltF (l := vs.map cI) (getFN hv)
    (repeat' (first | (refine LW.is ?_; first | refine s_v ?_ | refine s_m ?_ | refine s_nil ?_ | refine s_gd ?_ | (refine s_gsplit rfl rfl rfl (fun hb => ?_) (fun hb => ?_) <;> refine fct hb (fun hp => ?_))) | (refine DR.is ?_; first | refine d_v ?_ | refine d_m ?_ | (apply d_nil; kernel_rfl) | refine d_gd ?_ | (refine d_gsplit rfl rfl rfl (fun hb => ?_) (fun hb => ?_) <;> refine fct hb (fun hp => ?_))) | refine c_go ?_ | refine s_region ?_ | refine d_region ?_ | (refine L.cond rfl (fun hb => ?_) (fun hb => ?_) <;> refine fct hb (fun hp => ?_))))
    all_goals (first | (apply L.ends1; exact rfl; exact rfl; exact rfl) | (apply L.ends2; exact rfl; exact rfl; exact rfl) | (apply L.ends3; exact rfl; exact rfl; exact rfl) | (apply L.ends1A; exact rfl; exact rfl; exact rfl) | (apply L.ends2A; exact rfl; exact rfl; exact rfl) | (apply L.ends3A; exact rfl; exact rfl; exact rfl))
    rw [hi, dropN hv]; rfl
  | some v =>
    have hlt := ltT (l := vs.map cI) (getF hv)
    have hlt' := ltN hv
    rw [dropC hv] at hi
    cases hq : v != 0 with
    | true =>
      (repeat' (first | (refine LW.is ?_; first | refine s_v ?_ | refine s_m ?_ | refine s_nil ?_ | refine s_gd ?_ | (refine s_gsplit rfl rfl rfl (fun hb => ?_) (fun hb => ?_) <;> refine fct hb (fun hp => ?_))) | (refine DR.is ?_; first | refine d_v ?_ | refine d_m ?_ | (apply d_nil; kernel_rfl) | refine d_gd ?_ | (refine d_gsplit rfl rfl rfl (fun hb => ?_) (fun hb => ?_) <;> refine fct hb (fun hp => ?_))) | refine c_go ?_ | refine s_region ?_ | refine d_region ?_ | (refine L.cond rfl (fun hb => ?_) (fun hb => ?_) <;> refine fct hb (fun hp => ?_))))
      all_goals (first | (apply L.ends1; exact rfl; exact rfl; exact rfl) | (apply L.ends2; exact rfl; exact rfl; exact rfl) | (apply L.ends3; exact rfl; exact rfl; exact rfl) | (apply L.ends1A; exact rfl; exact rfl; exact rfl) | (apply L.ends2A; exact rfl; exact rfl; exact rfl) | (apply L.ends3A; exact rfl; exact rfl; exact rfl))
      simp at hq
      simp [hi, orL, hq]
    | false =>
      (repeat' (first | (refine LW.is ?_; first | refine s_v ?_ | refine s_m ?_ | refine s_nil ?_ | refine s_gd ?_ | (refine s_gsplit rfl rfl rfl (fun hb => ?_) (fun hb => ?_) <;> refine fct hb (fun hp => ?_))) | (refine DR.is ?_; first | refine d_v ?_ | refine d_m ?_ | (apply d_nil; kernel_rfl) | refine d_gd ?_ | (refine d_gsplit rfl rfl rfl (fun hb => ?_) (fun hb => ?_) <;> refine fct hb (fun hp => ?_))) | refine c_go ?_ | refine s_region ?_ | refine d_region ?_ | (refine L.cond rfl (fun hb => ?_) (fun hb => ?_) <;> refine fct hb (fun hp => ?_))))
      refine hK _ (i + 1) ?_ (by omega) ?_
      · simp at hq
        simp [hi, orL, hq]
      · (refine Wk.mk' (by intro id h; cases h) ?_ ?_ ?_ <;> repeat' (first | exact WkF.nil | exact WkB.nil | exact WkT.nil | (refine WkF.cons rfl (Sub.refl _) ?_) | (refine WkB.cons rfl rfl (Subs.refl _) ?_) | (refine WkT.cons rfl ?_)))
theorem cmp_any (v w : Val) : CallA Tryd.prog 22 [.agg (v.c.map .iv), .agg (w.c.map .iv)] [] [] [] (aI (cmpM v w)) := by
  refine CallA.intro _ Tryd.func22 rfl Tryd.ntmps22 rfl (fun w0 E0 => ?_)
  (repeat' (first | (refine LW.is ?_; first | (apply s_call0; exact rfl; rotate_left; exact rfl; rotate_left 3; exact cmpI_any _ _; exact rfl) | (apply s_call0; exact rfl; rotate_left; exact rfl; rotate_left 3; exact cmpS_any _ _; exact rfl) | (apply s_call0; exact rfl; exact or3_any [cmpI v.k w.k, cmpI v.n w.n, cmpS v.s w.s] (by simp); exact rfl; exact rfl) | refine s_v ?_ | refine s_m ?_ | refine s_nil ?_ | refine s_gd ?_ | (refine s_gsplit rfl rfl rfl (fun hb => ?_) (fun hb => ?_) <;> refine fct hb (fun hp => ?_))) | (refine DR.is ?_; first | (apply d_call0; exact rfl; rotate_left; exact rfl; rotate_left 3; exact cmpI_any _ _; exact rfl) | (apply d_call0; exact rfl; rotate_left; exact rfl; rotate_left 3; exact cmpS_any _ _; exact rfl) | (apply d_call0; exact rfl; exact or3_any [cmpI v.k w.k, cmpI v.n w.n, cmpS v.s w.s] (by simp); exact rfl; exact rfl) | refine d_v ?_ | refine d_m ?_ | (apply d_nil; kernel_rfl) | refine d_gd ?_ | (refine d_gsplit rfl rfl rfl (fun hb => ?_) (fun hb => ?_) <;> refine fct hb (fun hp => ?_))) | refine c_go ?_ | refine s_region ?_ | refine d_region ?_ | (refine L.cond rfl (fun hb => ?_) (fun hb => ?_) <;> refine fct hb (fun hp => ?_))))
  all_goals (first | (apply L.ends1; exact rfl; exact rfl; exact rfl) | (apply L.ends2; exact rfl; exact rfl; exact rfl) | (apply L.ends3; exact rfl; exact rfl; exact rfl) | (apply L.ends1A; exact rfl; exact rfl; exact rfl) | (apply L.ends2A; exact rfl; exact rfl; exact rfl) | (apply L.ends3A; exact rfl; exact rfl; exact rfl))
  all_goals rfl
end Go.Proofs.YthkobnpogigkiaaDoor
/- Expressions: what Of, Truth, num and two compute. Conditions: none. -/
namespace Go.Proofs.YthkobnpogigkiaaDoor
open Go.Abs
set_option maxRecDepth 100000
attribute [local irreducible] L Code.wp bodyPost Exit.then Exit.inBlock
set_option linter.unusedVariables false
set_option linter.unusedSimpArgs false
def nilV : Val := ⟨0, 0, []⟩
def ofM (v : Val) : Int := if v.k = 3 then v.n % 2 else 2
def truthM (n : Int) : Val := if n = 0 ∨ n = 1 then ⟨3, n, []⟩ else nilV
def numM (b : Bool) : Int := if b then 1 else 0
def sumM (op : Int) (a b : Val) : Val := let n := if op = 4 then a.n - b.n else a.n + b.n; if goodM ⟨1, n, []⟩ then ⟨1, n, []⟩ else nilV
def twoM (op : Int) (a b : Val) : Val :=
  if op = 7 then truthM (andM (ofM a) (ofM b))
  else if op = 8 then truthM (orM (ofM a) (ofM b))
  else if a.k ≠ b.k ∨ goodM a = false ∨ goodM b = false ∨ a.k = 0 then nilV
  else if op = 5 then truthM (numM (cmpM a b == 0))
  else if op = 6 then truthM (numM (decide (cmpM a b < 0)))
  else if a.k ≠ 1 ∨ (op ≠ 3 ∧ op ≠ 4) then nilV
  else sumM op a b
theorem of_any (v : Val) : CallA Tryd.prog 40 [.agg (v.c.map .iv)] [] [] [] (aI (ofM v)) := by
  refine CallA.intro _ Tryd.func40 rfl Tryd.ntmps40 rfl (fun w0 E0 => ?_)
  (repeat' (first | (refine LW.is ?_; first | refine s_v ?_ | refine s_m ?_ | refine s_nil ?_ | refine s_gd ?_ | (refine s_gsplit rfl rfl rfl (fun hb => ?_) (fun hb => ?_) <;> refine fct hb (fun hp => ?_))) | (refine DR.is ?_; first | refine d_v ?_ | refine d_m ?_ | (apply d_nil; kernel_rfl) | refine d_gd ?_ | (refine d_gsplit rfl rfl rfl (fun hb => ?_) (fun hb => ?_) <;> refine fct hb (fun hp => ?_))) | refine c_go ?_ | refine s_region ?_ | refine d_region ?_ | (refine L.cond rfl (fun hb => ?_) (fun hb => ?_) <;> refine fct hb (fun hp => ?_))))
  all_goals (first | (apply L.ends1; exact rfl; exact rfl; exact rfl) | (apply L.ends2; exact rfl; exact rfl; exact rfl) | (apply L.ends3; exact rfl; exact rfl; exact rfl) | (apply L.ends1A; exact rfl; exact rfl; exact rfl) | (apply L.ends2A; exact rfl; exact rfl; exact rfl) | (apply L.ends3A; exact rfl; exact rfl; exact rfl))
  all_goals simp [ofM, resOf, *]
  have := Int.emod_nonneg v.n (b := 2) (by decide)
  have := Int.emod_lt_of_pos v.n (b := 2) (by decide)
  omega
set_option maxRecDepth 100000 in
theorem truth_any (n : Int) : CallA Tryd.prog 53 [aI n] [] [] [] (.agg ((truthM n).c.map .iv)) := by
  refine CallA.intro _ Tryd.func53 rfl Tryd.ntmps53 rfl (fun w0 E0 => ?_)
  by_cases h : n = 0 ∨ n = 1
  · have e : truthM n = ⟨3, n, []⟩ := by rw [truthM, if_pos h]
    rw [e]
    rcases h with rfl | rfl
    · (repeat' (first | (refine LW.is ?_; first | refine s_v ?_ | refine s_m ?_ | refine s_nil ?_ | refine s_gd ?_ | (refine s_gsplit rfl rfl rfl (fun hb => ?_) (fun hb => ?_) <;> refine fct hb (fun hp => ?_))) | (refine DR.is ?_; first | refine d_v ?_ | refine d_m ?_ | (apply d_nil; kernel_rfl) | refine d_gd ?_ | (refine d_gsplit rfl rfl rfl (fun hb => ?_) (fun hb => ?_) <;> refine fct hb (fun hp => ?_))) | refine c_go ?_ | refine s_region ?_ | refine d_region ?_ | (refine L.cond rfl (fun hb => ?_) (fun hb => ?_) <;> refine fct hb (fun hp => ?_))))
      all_goals (first | (apply L.ends1; exact rfl; exact rfl; exact rfl) | (apply L.ends2; exact rfl; exact rfl; exact rfl) | (apply L.ends3; exact rfl; exact rfl; exact rfl) | (apply L.ends1A; exact rfl; exact rfl; exact rfl) | (apply L.ends2A; exact rfl; exact rfl; exact rfl) | (apply L.ends3A; exact rfl; exact rfl; exact rfl))
      all_goals kernel_rfl
    · (repeat' (first | (refine LW.is ?_; first | refine s_v ?_ | refine s_m ?_ | refine s_nil ?_ | refine s_gd ?_ | (refine s_gsplit rfl rfl rfl (fun hb => ?_) (fun hb => ?_) <;> refine fct hb (fun hp => ?_))) | (refine DR.is ?_; first | refine d_v ?_ | refine d_m ?_ | (apply d_nil; kernel_rfl) | refine d_gd ?_ | (refine d_gsplit rfl rfl rfl (fun hb => ?_) (fun hb => ?_) <;> refine fct hb (fun hp => ?_))) | refine c_go ?_ | refine s_region ?_ | refine d_region ?_ | (refine L.cond rfl (fun hb => ?_) (fun hb => ?_) <;> refine fct hb (fun hp => ?_))))
      all_goals (first | (apply L.ends1; exact rfl; exact rfl; exact rfl) | (apply L.ends2; exact rfl; exact rfl; exact rfl) | (apply L.ends3; exact rfl; exact rfl; exact rfl) | (apply L.ends1A; exact rfl; exact rfl; exact rfl) | (apply L.ends2A; exact rfl; exact rfl; exact rfl) | (apply L.ends3A; exact rfl; exact rfl; exact rfl))
      all_goals kernel_rfl
  · have e : truthM n = nilV := by rw [truthM, if_neg h]
    rw [e]
    have h0 : (n != 0) = true := by simp; omega
    have h1 : (n != 1) = true := by simp; omega
    (repeat' (first | (refine LW.is ?_; first | refine s_v ?_ | refine s_m ?_ | refine s_nil ?_ | refine s_gd ?_ | (refine s_gsplit rfl rfl rfl (fun hb => ?_) (fun hb => ?_) <;> refine fct hb (fun hp => ?_))) | (refine DR.is ?_; first | refine d_v ?_ | refine d_m ?_ | (apply d_nil; kernel_rfl) | refine d_gd ?_ | (refine d_gsplit rfl rfl rfl (fun hb => ?_) (fun hb => ?_) <;> refine fct hb (fun hp => ?_))) | refine c_go ?_ | refine s_region ?_ | refine d_region ?_ | (refine L.cond rfl (fun hb => ?_) (fun hb => ?_) <;> refine fct hb (fun hp => ?_))))
    all_goals (first | (apply L.ends1; exact rfl; exact rfl; exact rfl) | (apply L.ends2; exact rfl; exact rfl; exact rfl) | (apply L.ends3; exact rfl; exact rfl; exact rfl) | (apply L.ends1A; exact rfl; exact rfl; exact rfl) | (apply L.ends2A; exact rfl; exact rfl; exact rfl) | (apply L.ends3A; exact rfl; exact rfl; exact rfl))
    all_goals kernel_rfl
theorem num_any (b : Bool) : CallA Tryd.prog 55 [aB b] [] [] [] (aI (numM b)) := by
  refine CallA.intro _ Tryd.func55 rfl Tryd.ntmps55 rfl (fun w0 E0 => ?_)
  cases b
  · (repeat' (first | (refine LW.is ?_; first | refine s_v ?_ | refine s_m ?_ | refine s_nil ?_ | refine s_gd ?_ | (refine s_gsplit rfl rfl rfl (fun hb => ?_) (fun hb => ?_) <;> refine fct hb (fun hp => ?_))) | (refine DR.is ?_; first | refine d_v ?_ | refine d_m ?_ | (apply d_nil; kernel_rfl) | refine d_gd ?_ | (refine d_gsplit rfl rfl rfl (fun hb => ?_) (fun hb => ?_) <;> refine fct hb (fun hp => ?_))) | refine c_go ?_ | refine s_region ?_ | refine d_region ?_ | (refine L.cond rfl (fun hb => ?_) (fun hb => ?_) <;> refine fct hb (fun hp => ?_))))
    all_goals (first | (apply L.ends1; exact rfl; exact rfl; exact rfl) | (apply L.ends2; exact rfl; exact rfl; exact rfl) | (apply L.ends3; exact rfl; exact rfl; exact rfl) | (apply L.ends1A; exact rfl; exact rfl; exact rfl) | (apply L.ends2A; exact rfl; exact rfl; exact rfl) | (apply L.ends3A; exact rfl; exact rfl; exact rfl))
    all_goals rfl
  · (repeat' (first | (refine LW.is ?_; first | refine s_v ?_ | refine s_m ?_ | refine s_nil ?_ | refine s_gd ?_ | (refine s_gsplit rfl rfl rfl (fun hb => ?_) (fun hb => ?_) <;> refine fct hb (fun hp => ?_))) | (refine DR.is ?_; first | refine d_v ?_ | refine d_m ?_ | (apply d_nil; kernel_rfl) | refine d_gd ?_ | (refine d_gsplit rfl rfl rfl (fun hb => ?_) (fun hb => ?_) <;> refine fct hb (fun hp => ?_))) | refine c_go ?_ | refine s_region ?_ | refine d_region ?_ | (refine L.cond rfl (fun hb => ?_) (fun hb => ?_) <;> refine fct hb (fun hp => ?_))))
    all_goals (first | (apply L.ends1; exact rfl; exact rfl; exact rfl) | (apply L.ends2; exact rfl; exact rfl; exact rfl) | (apply L.ends3; exact rfl; exact rfl; exact rfl) | (apply L.ends1A; exact rfl; exact rfl; exact rfl) | (apply L.ends2A; exact rfl; exact rfl; exact rfl) | (apply L.ends3A; exact rfl; exact rfl; exact rfl))
    all_goals rfl
end Go.Proofs.YthkobnpogigkiaaDoor
/- Expressions: what two computes. Conditions: none. -/
namespace Go.Proofs.YthkobnpogigkiaaDoor
open Go.Abs
set_option maxRecDepth 100000
attribute [local irreducible] L Code.wp bodyPost Exit.then Exit.inBlock
set_option linter.unusedVariables false
set_option linter.unusedSimpArgs false
set_option maxRecDepth 100000 in
set_option maxHeartbeats 4000000 in
theorem two_any (op : Int) (a b : Val) : CallA Tryd.prog 56 [aI op, .agg (a.c.map .iv), .agg (b.c.map .iv)] [] [] [] (.agg ((twoM op a b).c.map .iv)) := by
  refine CallA.intro _ Tryd.func56 rfl Tryd.ntmps56 rfl (fun w0 E0 => ?_)
  by_cases h7 : op = 7
  · subst h7
    have e : twoM 7 a b = truthM (andM (ofM a) (ofM b)) := by simp [twoM]
    rw [e]
    (repeat' (first | (refine LW.is ?_; first | (apply s_call0; exact rfl; rotate_left; exact rfl; rotate_left 3; exact of_any a; exact rfl) | (apply s_call0; exact rfl; rotate_left; exact rfl; rotate_left 3; exact of_any b; exact rfl) | (apply s_call0; exact rfl; rotate_left; exact rfl; rotate_left 3; exact and_any _ _; exact rfl) | (apply s_call0; exact rfl; rotate_left; exact rfl; rotate_left 3; exact truth_any _; exact rfl) | refine s_v ?_ | refine s_m ?_ | refine s_nil ?_ | refine s_gd ?_ | (refine s_gsplit rfl rfl rfl (fun hb => ?_) (fun hb => ?_) <;> refine fct hb (fun hp => ?_))) | (refine DR.is ?_; first | (apply d_call0; exact rfl; rotate_left; exact rfl; rotate_left 3; exact of_any a; exact rfl) | (apply d_call0; exact rfl; rotate_left; exact rfl; rotate_left 3; exact of_any b; exact rfl) | (apply d_call0; exact rfl; rotate_left; exact rfl; rotate_left 3; exact and_any _ _; exact rfl) | (apply d_call0; exact rfl; rotate_left; exact rfl; rotate_left 3; exact truth_any _; exact rfl) | refine d_v ?_ | refine d_m ?_ | (apply d_nil; kernel_rfl) | refine d_gd ?_ | (refine d_gsplit rfl rfl rfl (fun hb => ?_) (fun hb => ?_) <;> refine fct hb (fun hp => ?_))) | refine c_go ?_ | refine s_region ?_ | refine d_region ?_ | (refine L.cond rfl (fun hb => ?_) (fun hb => ?_) <;> refine fct hb (fun hp => ?_))))
    all_goals (first | (apply L.ends1; exact rfl; exact rfl; exact rfl) | (apply L.ends2; exact rfl; exact rfl; exact rfl) | (apply L.ends3; exact rfl; exact rfl; exact rfl) | (apply L.ends1A; exact rfl; exact rfl; exact rfl) | (apply L.ends2A; exact rfl; exact rfl; exact rfl) | (apply L.ends3A; exact rfl; exact rfl; exact rfl))
    all_goals kernel_rfl
  have q7 : (op == 7) = false := by simp [h7]
  by_cases h8 : op = 8
  · subst h8
    have e : twoM 8 a b = truthM (orM (ofM a) (ofM b)) := by simp [twoM]
    rw [e]
    (repeat' (first | (refine LW.is ?_; first | (apply s_call0; exact rfl; rotate_left; exact rfl; rotate_left 3; exact of_any a; exact rfl) | (apply s_call0; exact rfl; rotate_left; exact rfl; rotate_left 3; exact of_any b; exact rfl) | (apply s_call0; exact rfl; rotate_left; exact rfl; rotate_left 3; exact or_any _ _; exact rfl) | (apply s_call0; exact rfl; rotate_left; exact rfl; rotate_left 3; exact truth_any _; exact rfl) | refine s_v ?_ | refine s_m ?_ | refine s_nil ?_ | refine s_gd ?_ | (refine s_gsplit rfl rfl rfl (fun hb => ?_) (fun hb => ?_) <;> refine fct hb (fun hp => ?_))) | (refine DR.is ?_; first | (apply d_call0; exact rfl; rotate_left; exact rfl; rotate_left 3; exact of_any a; exact rfl) | (apply d_call0; exact rfl; rotate_left; exact rfl; rotate_left 3; exact of_any b; exact rfl) | (apply d_call0; exact rfl; rotate_left; exact rfl; rotate_left 3; exact or_any _ _; exact rfl) | (apply d_call0; exact rfl; rotate_left; exact rfl; rotate_left 3; exact truth_any _; exact rfl) | refine d_v ?_ | refine d_m ?_ | (apply d_nil; kernel_rfl) | refine d_gd ?_ | (refine d_gsplit rfl rfl rfl (fun hb => ?_) (fun hb => ?_) <;> refine fct hb (fun hp => ?_))) | refine c_go ?_ | refine s_region ?_ | refine d_region ?_ | (refine L.cond rfl (fun hb => ?_) (fun hb => ?_) <;> refine fct hb (fun hp => ?_))))
    all_goals (first | (apply L.ends1; exact rfl; exact rfl; exact rfl) | (apply L.ends2; exact rfl; exact rfl; exact rfl) | (apply L.ends3; exact rfl; exact rfl; exact rfl) | (apply L.ends1A; exact rfl; exact rfl; exact rfl) | (apply L.ends2A; exact rfl; exact rfl; exact rfl) | (apply L.ends3A; exact rfl; exact rfl; exact rfl))
    all_goals kernel_rfl
  have q8 : (op == 8) = false := by simp [h8]
  have e1 : twoM op a b = if a.k ≠ b.k ∨ goodM a = false ∨ goodM b = false ∨ a.k = 0 then nilV else if op = 5 then truthM (numM (cmpM a b == 0)) else if op = 6 then truthM (numM (decide (cmpM a b < 0))) else if a.k ≠ 1 ∨ (op ≠ 3 ∧ op ≠ 4) then nilV else sumM op a b := by
    rw [twoM, if_neg h7, if_neg h8]
  rw [e1]
  clear e1
  by_cases hk : a.k = b.k
  case neg =>
    rw [if_pos (.inl hk)]
    have qk : (a.k != b.k) = true := by simp [hk]
    (repeat' (first | (refine LW.is ?_; first | refine s_v ?_ | refine s_m ?_ | refine s_nil ?_ | refine s_gd ?_ | (refine s_gsplit rfl rfl rfl (fun hb => ?_) (fun hb => ?_) <;> refine fct hb (fun hp => ?_))) | (refine DR.is ?_; first | refine d_v ?_ | refine d_m ?_ | (apply d_nil; kernel_rfl) | refine d_gd ?_ | (refine d_gsplit rfl rfl rfl (fun hb => ?_) (fun hb => ?_) <;> refine fct hb (fun hp => ?_))) | refine c_go ?_ | refine s_region ?_ | refine d_region ?_ | (refine L.cond rfl (fun hb => ?_) (fun hb => ?_) <;> refine fct hb (fun hp => ?_))))
    all_goals (first | (apply L.ends1; exact rfl; exact rfl; exact rfl) | (apply L.ends2; exact rfl; exact rfl; exact rfl) | (apply L.ends3; exact rfl; exact rfl; exact rfl) | (apply L.ends1A; exact rfl; exact rfl; exact rfl) | (apply L.ends2A; exact rfl; exact rfl; exact rfl) | (apply L.ends3A; exact rfl; exact rfl; exact rfl))
    all_goals kernel_rfl
  have qk : (a.k != b.k) = false := by simp [hk]
  cases ga : goodM a with
  | false =>
    rw [if_pos (.inr (.inl rfl))]
    have qa : (!goodM a) = true := by rw [ga]; rfl
    (repeat' (first | (refine LW.is ?_; first | (apply s_call0; exact rfl; rotate_left; exact rfl; rotate_left 3; exact good_any a; exact rfl) | refine s_v ?_ | refine s_m ?_ | refine s_nil ?_ | refine s_gd ?_ | (refine s_gsplit rfl rfl rfl (fun hb => ?_) (fun hb => ?_) <;> refine fct hb (fun hp => ?_))) | (refine DR.is ?_; first | (apply d_call0; exact rfl; rotate_left; exact rfl; rotate_left 3; exact good_any a; exact rfl) | refine d_v ?_ | refine d_m ?_ | (apply d_nil; kernel_rfl) | refine d_gd ?_ | (refine d_gsplit rfl rfl rfl (fun hb => ?_) (fun hb => ?_) <;> refine fct hb (fun hp => ?_))) | refine c_go ?_ | refine s_region ?_ | refine d_region ?_ | (refine L.cond rfl (fun hb => ?_) (fun hb => ?_) <;> refine fct hb (fun hp => ?_))))
    all_goals (first | (apply L.ends1; exact rfl; exact rfl; exact rfl) | (apply L.ends2; exact rfl; exact rfl; exact rfl) | (apply L.ends3; exact rfl; exact rfl; exact rfl) | (apply L.ends1A; exact rfl; exact rfl; exact rfl) | (apply L.ends2A; exact rfl; exact rfl; exact rfl) | (apply L.ends3A; exact rfl; exact rfl; exact rfl))
    all_goals kernel_rfl
  | true =>
  have qa : (!goodM a) = false := by rw [ga]; rfl
  cases gb : goodM b with
  | false =>
    rw [if_pos (.inr (.inr (.inl rfl)))]
    have qb : (!goodM b) = true := by rw [gb]; rfl
    (repeat' (first | (refine LW.is ?_; first | (apply s_call0; exact rfl; rotate_left; exact rfl; rotate_left 3; exact good_any a; exact rfl) | (apply s_call0; exact rfl; rotate_left; exact rfl; rotate_left 3; exact good_any b; exact rfl) | refine s_v ?_ | refine s_m ?_ | refine s_nil ?_ | refine s_gd ?_ | (refine s_gsplit rfl rfl rfl (fun hb => ?_) (fun hb => ?_) <;> refine fct hb (fun hp => ?_))) | (refine DR.is ?_; first | (apply d_call0; exact rfl; rotate_left; exact rfl; rotate_left 3; exact good_any a; exact rfl) | (apply d_call0; exact rfl; rotate_left; exact rfl; rotate_left 3; exact good_any b; exact rfl) | refine d_v ?_ | refine d_m ?_ | (apply d_nil; kernel_rfl) | refine d_gd ?_ | (refine d_gsplit rfl rfl rfl (fun hb => ?_) (fun hb => ?_) <;> refine fct hb (fun hp => ?_))) | refine c_go ?_ | refine s_region ?_ | refine d_region ?_ | (refine L.cond rfl (fun hb => ?_) (fun hb => ?_) <;> refine fct hb (fun hp => ?_))))
    all_goals (first | (apply L.ends1; exact rfl; exact rfl; exact rfl) | (apply L.ends2; exact rfl; exact rfl; exact rfl) | (apply L.ends3; exact rfl; exact rfl; exact rfl) | (apply L.ends1A; exact rfl; exact rfl; exact rfl) | (apply L.ends2A; exact rfl; exact rfl; exact rfl) | (apply L.ends3A; exact rfl; exact rfl; exact rfl))
    all_goals kernel_rfl
  | true =>
  have qb : (!goodM b) = false := by rw [gb]; rfl
  by_cases h0 : a.k = 0
  · rw [if_pos (.inr (.inr (.inr h0)))]
    have q0 : (a.k == 0) = true := by simp [h0]
    (repeat' (first | (refine LW.is ?_; first | (apply s_call0; exact rfl; rotate_left; exact rfl; rotate_left 3; exact good_any a; exact rfl) | (apply s_call0; exact rfl; rotate_left; exact rfl; rotate_left 3; exact good_any b; exact rfl) | refine s_v ?_ | refine s_m ?_ | refine s_nil ?_ | refine s_gd ?_ | (refine s_gsplit rfl rfl rfl (fun hb => ?_) (fun hb => ?_) <;> refine fct hb (fun hp => ?_))) | (refine DR.is ?_; first | (apply d_call0; exact rfl; rotate_left; exact rfl; rotate_left 3; exact good_any a; exact rfl) | (apply d_call0; exact rfl; rotate_left; exact rfl; rotate_left 3; exact good_any b; exact rfl) | refine d_v ?_ | refine d_m ?_ | (apply d_nil; kernel_rfl) | refine d_gd ?_ | (refine d_gsplit rfl rfl rfl (fun hb => ?_) (fun hb => ?_) <;> refine fct hb (fun hp => ?_))) | refine c_go ?_ | refine s_region ?_ | refine d_region ?_ | (refine L.cond rfl (fun hb => ?_) (fun hb => ?_) <;> refine fct hb (fun hp => ?_))))
    all_goals (first | (apply L.ends1; exact rfl; exact rfl; exact rfl) | (apply L.ends2; exact rfl; exact rfl; exact rfl) | (apply L.ends3; exact rfl; exact rfl; exact rfl) | (apply L.ends1A; exact rfl; exact rfl; exact rfl) | (apply L.ends2A; exact rfl; exact rfl; exact rfl) | (apply L.ends3A; exact rfl; exact rfl; exact rfl))
    all_goals kernel_rfl
  have q0 : (a.k == 0) = false := by simp [h0]
  rw [if_neg (by
    rintro (h | h | h | h)
    · exact h hk
    · cases h
    · cases h
    · exact h0 h)]
  by_cases h5 : op = 5
  · subst h5
    rw [if_pos rfl]
    (repeat' (first | (refine LW.is ?_; first | (apply s_call0; exact rfl; rotate_left; exact rfl; rotate_left 3; exact good_any a; exact rfl) | (apply s_call0; exact rfl; rotate_left; exact rfl; rotate_left 3; exact good_any b; exact rfl) | (apply s_call0; exact rfl; rotate_left; exact rfl; rotate_left 3; exact cmp_any a b; exact rfl) | (apply s_call0; exact rfl; rotate_left; exact rfl; rotate_left 3; exact num_any _; exact rfl) | (apply s_call0; exact rfl; rotate_left; exact rfl; rotate_left 3; exact truth_any _; exact rfl) | refine s_v ?_ | refine s_m ?_ | refine s_nil ?_ | refine s_gd ?_ | (refine s_gsplit rfl rfl rfl (fun hb => ?_) (fun hb => ?_) <;> refine fct hb (fun hp => ?_))) | (refine DR.is ?_; first | (apply d_call0; exact rfl; rotate_left; exact rfl; rotate_left 3; exact good_any a; exact rfl) | (apply d_call0; exact rfl; rotate_left; exact rfl; rotate_left 3; exact good_any b; exact rfl) | (apply d_call0; exact rfl; rotate_left; exact rfl; rotate_left 3; exact cmp_any a b; exact rfl) | (apply d_call0; exact rfl; rotate_left; exact rfl; rotate_left 3; exact num_any _; exact rfl) | (apply d_call0; exact rfl; rotate_left; exact rfl; rotate_left 3; exact truth_any _; exact rfl) | refine d_v ?_ | refine d_m ?_ | (apply d_nil; kernel_rfl) | refine d_gd ?_ | (refine d_gsplit rfl rfl rfl (fun hb => ?_) (fun hb => ?_) <;> refine fct hb (fun hp => ?_))) | refine c_go ?_ | refine s_region ?_ | refine d_region ?_ | (refine L.cond rfl (fun hb => ?_) (fun hb => ?_) <;> refine fct hb (fun hp => ?_))))
    all_goals (first | (apply L.ends1; exact rfl; exact rfl; exact rfl) | (apply L.ends2; exact rfl; exact rfl; exact rfl) | (apply L.ends3; exact rfl; exact rfl; exact rfl) | (apply L.ends1A; exact rfl; exact rfl; exact rfl) | (apply L.ends2A; exact rfl; exact rfl; exact rfl) | (apply L.ends3A; exact rfl; exact rfl; exact rfl))
    all_goals kernel_rfl
  rw [if_neg h5]
  have q5 : (op == 5) = false := by simp [h5]
  by_cases h6 : op = 6
  · subst h6
    rw [if_pos rfl]
    (repeat' (first | (refine LW.is ?_; first | (apply s_call0; exact rfl; rotate_left; exact rfl; rotate_left 3; exact good_any a; exact rfl) | (apply s_call0; exact rfl; rotate_left; exact rfl; rotate_left 3; exact good_any b; exact rfl) | (apply s_call0; exact rfl; rotate_left; exact rfl; rotate_left 3; exact cmp_any a b; exact rfl) | (apply s_call0; exact rfl; rotate_left; exact rfl; rotate_left 3; exact num_any _; exact rfl) | (apply s_call0; exact rfl; rotate_left; exact rfl; rotate_left 3; exact truth_any _; exact rfl) | refine s_v ?_ | refine s_m ?_ | refine s_nil ?_ | refine s_gd ?_ | (refine s_gsplit rfl rfl rfl (fun hb => ?_) (fun hb => ?_) <;> refine fct hb (fun hp => ?_))) | (refine DR.is ?_; first | (apply d_call0; exact rfl; rotate_left; exact rfl; rotate_left 3; exact good_any a; exact rfl) | (apply d_call0; exact rfl; rotate_left; exact rfl; rotate_left 3; exact good_any b; exact rfl) | (apply d_call0; exact rfl; rotate_left; exact rfl; rotate_left 3; exact cmp_any a b; exact rfl) | (apply d_call0; exact rfl; rotate_left; exact rfl; rotate_left 3; exact num_any _; exact rfl) | (apply d_call0; exact rfl; rotate_left; exact rfl; rotate_left 3; exact truth_any _; exact rfl) | refine d_v ?_ | refine d_m ?_ | (apply d_nil; kernel_rfl) | refine d_gd ?_ | (refine d_gsplit rfl rfl rfl (fun hb => ?_) (fun hb => ?_) <;> refine fct hb (fun hp => ?_))) | refine c_go ?_ | refine s_region ?_ | refine d_region ?_ | (refine L.cond rfl (fun hb => ?_) (fun hb => ?_) <;> refine fct hb (fun hp => ?_))))
    all_goals (first | (apply L.ends1; exact rfl; exact rfl; exact rfl) | (apply L.ends2; exact rfl; exact rfl; exact rfl) | (apply L.ends3; exact rfl; exact rfl; exact rfl) | (apply L.ends1A; exact rfl; exact rfl; exact rfl) | (apply L.ends2A; exact rfl; exact rfl; exact rfl) | (apply L.ends3A; exact rfl; exact rfl; exact rfl))
    all_goals kernel_rfl
  rw [if_neg h6]
  have q6 : (op == 6) = false := by simp [h6]
  by_cases h1 : a.k = 1
  case neg =>
    rw [if_pos (.inl h1)]
    have q1 : (a.k != 1) = true := by simp [h1]
    (repeat' (first | (refine LW.is ?_; first | (apply s_call0; exact rfl; rotate_left; exact rfl; rotate_left 3; exact good_any a; exact rfl) | (apply s_call0; exact rfl; rotate_left; exact rfl; rotate_left 3; exact good_any b; exact rfl) | refine s_v ?_ | refine s_m ?_ | refine s_nil ?_ | refine s_gd ?_ | (refine s_gsplit rfl rfl rfl (fun hb => ?_) (fun hb => ?_) <;> refine fct hb (fun hp => ?_))) | (refine DR.is ?_; first | (apply d_call0; exact rfl; rotate_left; exact rfl; rotate_left 3; exact good_any a; exact rfl) | (apply d_call0; exact rfl; rotate_left; exact rfl; rotate_left 3; exact good_any b; exact rfl) | refine d_v ?_ | refine d_m ?_ | (apply d_nil; kernel_rfl) | refine d_gd ?_ | (refine d_gsplit rfl rfl rfl (fun hb => ?_) (fun hb => ?_) <;> refine fct hb (fun hp => ?_))) | refine c_go ?_ | refine s_region ?_ | refine d_region ?_ | (refine L.cond rfl (fun hb => ?_) (fun hb => ?_) <;> refine fct hb (fun hp => ?_))))
    all_goals (first | (apply L.ends1; exact rfl; exact rfl; exact rfl) | (apply L.ends2; exact rfl; exact rfl; exact rfl) | (apply L.ends3; exact rfl; exact rfl; exact rfl) | (apply L.ends1A; exact rfl; exact rfl; exact rfl) | (apply L.ends2A; exact rfl; exact rfl; exact rfl) | (apply L.ends3A; exact rfl; exact rfl; exact rfl))
    all_goals kernel_rfl
  have q1 : (a.k != 1) = false := by simp [h1]
  obtain ⟨_, _, ha0, ha1, _⟩ := goodM_bounds ga
  obtain ⟨_, _, hb0, hb1, _⟩ := goodM_bounds gb
  by_cases h4 : op = 4
  · subst h4
    rw [if_neg (by simp [h1])]
    cases gn : goodM ⟨1, a.n - b.n, []⟩ with
    | false =>
      have e : sumM 4 a b = nilV := by simp [sumM, gn]
      rw [e]
      (repeat' (first | (refine LW.is ?_; first | (apply s_call0; exact rfl; rotate_left; exact rfl; rotate_left 3; exact good_any a; exact rfl) | (apply s_call0; exact rfl; rotate_left; exact rfl; rotate_left 3; exact good_any b; exact rfl) | (apply s_call0; exact rfl; rotate_left; exact rfl; rotate_left 3; exact good_any ⟨1, a.n - b.n, []⟩; exact rfl) | refine s_v ?_ | refine s_m ?_ | refine s_nil ?_ | refine s_gd ?_ | (refine s_gsplit rfl rfl rfl (fun hb => ?_) (fun hb => ?_) <;> refine fct hb (fun hp => ?_))) | (refine DR.is ?_; first | (apply d_call0; exact rfl; rotate_left; exact rfl; rotate_left 3; exact good_any a; exact rfl) | (apply d_call0; exact rfl; rotate_left; exact rfl; rotate_left 3; exact good_any b; exact rfl) | (apply d_call0; exact rfl; rotate_left; exact rfl; rotate_left 3; exact good_any ⟨1, a.n - b.n, []⟩; exact rfl) | refine d_v ?_ | refine d_m ?_ | (apply d_nil; kernel_rfl) | refine d_gd ?_ | (refine d_gsplit rfl rfl rfl (fun hb => ?_) (fun hb => ?_) <;> refine fct hb (fun hp => ?_))) | refine c_go ?_ | refine s_region ?_ | refine d_region ?_ | (refine L.cond rfl (fun hb => ?_) (fun hb => ?_) <;> refine fct hb (fun hp => ?_))))
      all_goals (first | (apply L.ends1; exact rfl; exact rfl; exact rfl) | (apply L.ends2; exact rfl; exact rfl; exact rfl) | (apply L.ends3; exact rfl; exact rfl; exact rfl) | (apply L.ends1A; exact rfl; exact rfl; exact rfl) | (apply L.ends2A; exact rfl; exact rfl; exact rfl) | (apply L.ends3A; exact rfl; exact rfl; exact rfl))
      all_goals kernel_rfl
    | true =>
      have e : sumM 4 a b = ⟨1, a.n - b.n, []⟩ := by simp [sumM, gn]
      rw [e]
      (repeat' (first | (refine LW.is ?_; first | (apply s_call0; exact rfl; rotate_left; exact rfl; rotate_left 3; exact good_any a; exact rfl) | (apply s_call0; exact rfl; rotate_left; exact rfl; rotate_left 3; exact good_any b; exact rfl) | (apply s_call0; exact rfl; rotate_left; exact rfl; rotate_left 3; exact good_any ⟨1, a.n - b.n, []⟩; exact rfl) | refine s_v ?_ | refine s_m ?_ | refine s_nil ?_ | refine s_gd ?_ | (refine s_gsplit rfl rfl rfl (fun hb => ?_) (fun hb => ?_) <;> refine fct hb (fun hp => ?_))) | (refine DR.is ?_; first | (apply d_call0; exact rfl; rotate_left; exact rfl; rotate_left 3; exact good_any a; exact rfl) | (apply d_call0; exact rfl; rotate_left; exact rfl; rotate_left 3; exact good_any b; exact rfl) | (apply d_call0; exact rfl; rotate_left; exact rfl; rotate_left 3; exact good_any ⟨1, a.n - b.n, []⟩; exact rfl) | refine d_v ?_ | refine d_m ?_ | (apply d_nil; kernel_rfl) | refine d_gd ?_ | (refine d_gsplit rfl rfl rfl (fun hb => ?_) (fun hb => ?_) <;> refine fct hb (fun hp => ?_))) | refine c_go ?_ | refine s_region ?_ | refine d_region ?_ | (refine L.cond rfl (fun hb => ?_) (fun hb => ?_) <;> refine fct hb (fun hp => ?_))))
      all_goals (first | (apply L.ends1; exact rfl; exact rfl; exact rfl) | (apply L.ends2; exact rfl; exact rfl; exact rfl) | (apply L.ends3; exact rfl; exact rfl; exact rfl) | (apply L.ends1A; exact rfl; exact rfl; exact rfl) | (apply L.ends2A; exact rfl; exact rfl; exact rfl) | (apply L.ends3A; exact rfl; exact rfl; exact rfl))
      all_goals kernel_rfl
  have q4 : (op == 4) = false := by simp [h4]
  have q4' : (op != 4) = true := by simp [h4]
  by_cases h3 : op = 3
  · subst h3
    rw [if_neg (by simp [h1])]
    cases gn : goodM ⟨1, a.n + b.n, []⟩ with
    | false =>
      have e : sumM 3 a b = nilV := by simp [sumM, gn]
      rw [e]
      (repeat' (first | (refine LW.is ?_; first | (apply s_call0; exact rfl; rotate_left; exact rfl; rotate_left 3; exact good_any a; exact rfl) | (apply s_call0; exact rfl; rotate_left; exact rfl; rotate_left 3; exact good_any b; exact rfl) | (apply s_call0; exact rfl; rotate_left; exact rfl; rotate_left 3; exact good_any ⟨1, a.n + b.n, []⟩; exact rfl) | refine s_v ?_ | refine s_m ?_ | refine s_nil ?_ | refine s_gd ?_ | (refine s_gsplit rfl rfl rfl (fun hb => ?_) (fun hb => ?_) <;> refine fct hb (fun hp => ?_))) | (refine DR.is ?_; first | (apply d_call0; exact rfl; rotate_left; exact rfl; rotate_left 3; exact good_any a; exact rfl) | (apply d_call0; exact rfl; rotate_left; exact rfl; rotate_left 3; exact good_any b; exact rfl) | (apply d_call0; exact rfl; rotate_left; exact rfl; rotate_left 3; exact good_any ⟨1, a.n + b.n, []⟩; exact rfl) | refine d_v ?_ | refine d_m ?_ | (apply d_nil; kernel_rfl) | refine d_gd ?_ | (refine d_gsplit rfl rfl rfl (fun hb => ?_) (fun hb => ?_) <;> refine fct hb (fun hp => ?_))) | refine c_go ?_ | refine s_region ?_ | refine d_region ?_ | (refine L.cond rfl (fun hb => ?_) (fun hb => ?_) <;> refine fct hb (fun hp => ?_))))
      all_goals (first | (apply L.ends1; exact rfl; exact rfl; exact rfl) | (apply L.ends2; exact rfl; exact rfl; exact rfl) | (apply L.ends3; exact rfl; exact rfl; exact rfl) | (apply L.ends1A; exact rfl; exact rfl; exact rfl) | (apply L.ends2A; exact rfl; exact rfl; exact rfl) | (apply L.ends3A; exact rfl; exact rfl; exact rfl))
      all_goals kernel_rfl
    | true =>
      have e : sumM 3 a b = ⟨1, a.n + b.n, []⟩ := by simp [sumM, gn]
      rw [e]
      (repeat' (first | (refine LW.is ?_; first | (apply s_call0; exact rfl; rotate_left; exact rfl; rotate_left 3; exact good_any a; exact rfl) | (apply s_call0; exact rfl; rotate_left; exact rfl; rotate_left 3; exact good_any b; exact rfl) | (apply s_call0; exact rfl; rotate_left; exact rfl; rotate_left 3; exact good_any ⟨1, a.n + b.n, []⟩; exact rfl) | refine s_v ?_ | refine s_m ?_ | refine s_nil ?_ | refine s_gd ?_ | (refine s_gsplit rfl rfl rfl (fun hb => ?_) (fun hb => ?_) <;> refine fct hb (fun hp => ?_))) | (refine DR.is ?_; first | (apply d_call0; exact rfl; rotate_left; exact rfl; rotate_left 3; exact good_any a; exact rfl) | (apply d_call0; exact rfl; rotate_left; exact rfl; rotate_left 3; exact good_any b; exact rfl) | (apply d_call0; exact rfl; rotate_left; exact rfl; rotate_left 3; exact good_any ⟨1, a.n + b.n, []⟩; exact rfl) | refine d_v ?_ | refine d_m ?_ | (apply d_nil; kernel_rfl) | refine d_gd ?_ | (refine d_gsplit rfl rfl rfl (fun hb => ?_) (fun hb => ?_) <;> refine fct hb (fun hp => ?_))) | refine c_go ?_ | refine s_region ?_ | refine d_region ?_ | (refine L.cond rfl (fun hb => ?_) (fun hb => ?_) <;> refine fct hb (fun hp => ?_))))
      all_goals (first | (apply L.ends1; exact rfl; exact rfl; exact rfl) | (apply L.ends2; exact rfl; exact rfl; exact rfl) | (apply L.ends3; exact rfl; exact rfl; exact rfl) | (apply L.ends1A; exact rfl; exact rfl; exact rfl) | (apply L.ends2A; exact rfl; exact rfl; exact rfl) | (apply L.ends3A; exact rfl; exact rfl; exact rfl))
      all_goals kernel_rfl
  · rw [if_pos (.inr ⟨h3, h4⟩)]
    have q3 : (op != 3) = true := by simp [h3]
    (repeat' (first | (refine LW.is ?_; first | (apply s_call0; exact rfl; rotate_left; exact rfl; rotate_left 3; exact good_any a; exact rfl) | (apply s_call0; exact rfl; rotate_left; exact rfl; rotate_left 3; exact good_any b; exact rfl) | refine s_v ?_ | refine s_m ?_ | refine s_nil ?_ | refine s_gd ?_ | (refine s_gsplit rfl rfl rfl (fun hb => ?_) (fun hb => ?_) <;> refine fct hb (fun hp => ?_))) | (refine DR.is ?_; first | (apply d_call0; exact rfl; rotate_left; exact rfl; rotate_left 3; exact good_any a; exact rfl) | (apply d_call0; exact rfl; rotate_left; exact rfl; rotate_left 3; exact good_any b; exact rfl) | refine d_v ?_ | refine d_m ?_ | (apply d_nil; kernel_rfl) | refine d_gd ?_ | (refine d_gsplit rfl rfl rfl (fun hb => ?_) (fun hb => ?_) <;> refine fct hb (fun hp => ?_))) | refine c_go ?_ | refine s_region ?_ | refine d_region ?_ | (refine L.cond rfl (fun hb => ?_) (fun hb => ?_) <;> refine fct hb (fun hp => ?_))))
    all_goals (first | (apply L.ends1; exact rfl; exact rfl; exact rfl) | (apply L.ends2; exact rfl; exact rfl; exact rfl) | (apply L.ends3; exact rfl; exact rfl; exact rfl) | (apply L.ends1A; exact rfl; exact rfl; exact rfl) | (apply L.ends2A; exact rfl; exact rfl; exact rfl) | (apply L.ends3A; exact rfl; exact rfl; exact rfl))
    all_goals kernel_rfl
end Go.Proofs.YthkobnpogigkiaaDoor
