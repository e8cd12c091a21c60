/- Several texts in one, each with its own sentence ahead of it. Conditions: each one says its own. -/
import Derived.Test.YthkobnpogigkiaaDoorZPlanKeys4
import Derived.Test.YthkobnpogigkiaaDoorChecked
import Derived.KernelRfl
import Derived.Test.YthkobnpogigkiaaDoorRows
import Derived.Shelf.Strings.Shaped
import Derived.Shelf.Strings.SlTrimAscii
/- Closed facts on the types and functions of this seat, by program off the translation. Conditions: none. -/
namespace Go.Proofs.YthkobnpogigkiaaDoor
open Go Go.Abs
set_option maxRecDepth 100000
instance : VarTy Tryd.prog 3 false 1 := ⟨by kernel_rfl⟩
instance : IntTy Tryd.prog 3 .i64 := ⟨by kernel_rfl⟩
instance : VarTy Tryd.prog 4 false 1 := ⟨by kernel_rfl⟩
instance : VarTy Tryd.prog 5 false 1 := ⟨by kernel_rfl⟩
instance : ZeroTy Tryd.prog 5 [.int .u8 0] := ⟨by kernel_rfl⟩
instance : IntTy Tryd.prog 5 .u8 := ⟨by kernel_rfl⟩
instance : VarTy Tryd.prog 9 false 1 := ⟨by kernel_rfl⟩
instance : ZeroTy Tryd.prog 9 [.string ⟨#[]⟩] := ⟨by kernel_rfl⟩
instance : StrTy Tryd.prog 9 := ⟨by kernel_rfl⟩
instance : VarTy Tryd.prog 22 false 1 := ⟨by kernel_rfl⟩
instance : SliceTy Tryd.prog 22 43 2 := ⟨by kernel_rfl⟩
instance : VarTy Tryd.prog 23 false 1 := ⟨by kernel_rfl⟩
instance : SliceTy Tryd.prog 23 81 3 := ⟨by kernel_rfl⟩
instance : VarTy Tryd.prog 25 true 2 := ⟨by kernel_rfl⟩
instance : ZeroTy Tryd.prog 25 [.slice none 0 0, .slice none 0 0] := ⟨by kernel_rfl⟩
instance : FieldTy Tryd.prog 25 0 0 := ⟨by kernel_rfl⟩
instance : FieldTy Tryd.prog 25 1 1 := ⟨by kernel_rfl⟩
instance : PlacesTy Tryd.prog 25 [(0, 1), (1, 1)] := ⟨by kernel_rfl⟩
instance : VarTy Tryd.prog 26 false 1 := ⟨by kernel_rfl⟩
instance : SliceTy Tryd.prog 26 53 3 := ⟨by kernel_rfl⟩
instance : VarTy Tryd.prog 29 false 1 := ⟨by kernel_rfl⟩
instance : ZeroTy Tryd.prog 29 [.slice none 0 0] := ⟨by kernel_rfl⟩
instance : SliceTy Tryd.prog 29 9 1 := ⟨by kernel_rfl⟩
instance : AppTy Tryd.prog 29 9 1 16 := ⟨by kernel_rfl⟩
instance : RowTy Tryd.prog 29 9 1 16 := ⟨by kernel_rfl⟩
instance : VarTy Tryd.prog 32 true 3 := ⟨by kernel_rfl⟩
instance : ZeroTy Tryd.prog 32 [.int .i64 0, .int .i64 0, .string ⟨#[]⟩] := ⟨by kernel_rfl⟩
instance : FieldTy Tryd.prog 32 0 0 := ⟨by kernel_rfl⟩
instance : FieldTy Tryd.prog 32 1 1 := ⟨by kernel_rfl⟩
instance : FieldTy Tryd.prog 32 2 2 := ⟨by kernel_rfl⟩
instance : PlacesTy Tryd.prog 32 [(0, 1), (1, 1), (2, 1)] := ⟨by kernel_rfl⟩
instance : EqTy Tryd.prog 32 [1, 1, 3] := ⟨by kernel_rfl⟩
instance : VarTy Tryd.prog 37 false 1 := ⟨by kernel_rfl⟩
instance : ZeroTy Tryd.prog 37 [.slice none 0 0] := ⟨by kernel_rfl⟩
instance : SliceTy Tryd.prog 37 32 3 := ⟨by kernel_rfl⟩
instance : AppTy Tryd.prog 37 32 3 32 := ⟨by kernel_rfl⟩
instance : VarTy Tryd.prog 43 true 2 := ⟨by kernel_rfl⟩
instance : ZeroTy Tryd.prog 43 [.string ⟨#[]⟩, .slice none 0 0] := ⟨by kernel_rfl⟩
instance : FieldTy Tryd.prog 43 0 0 := ⟨by kernel_rfl⟩
instance : FieldTy Tryd.prog 43 1 1 := ⟨by kernel_rfl⟩
instance : PlacesTy Tryd.prog 43 [(0, 1), (1, 1)] := ⟨by kernel_rfl⟩
instance : VarTy Tryd.prog 53 true 3 := ⟨by kernel_rfl⟩
instance : ZeroTy Tryd.prog 53 [.string ⟨#[]⟩, .int .i64 0, .bool false] := ⟨by kernel_rfl⟩
instance : FieldTy Tryd.prog 53 0 0 := ⟨by kernel_rfl⟩
instance : FieldTy Tryd.prog 53 1 1 := ⟨by kernel_rfl⟩
instance : FieldTy Tryd.prog 53 2 2 := ⟨by kernel_rfl⟩
instance : PlacesTy Tryd.prog 53 [(0, 1), (1, 1), (2, 1)] := ⟨by kernel_rfl⟩
instance : EqTy Tryd.prog 53 [3, 1, 2] := ⟨by kernel_rfl⟩
instance : SliceTy Tryd.prog 58 37 1 := ⟨by kernel_rfl⟩
instance : AppTy Tryd.prog 58 37 1 24 := ⟨by kernel_rfl⟩
instance : VarTy Tryd.prog 59 false 1 := ⟨by kernel_rfl⟩
instance : SliceTy Tryd.prog 59 127 2 := ⟨by kernel_rfl⟩
instance : RowTy Tryd.prog 59 127 2 48 := ⟨by kernel_rfl⟩
instance : VarTy Tryd.prog 61 true 1 := ⟨by kernel_rfl⟩
instance : ZeroTy Tryd.prog 61 [.slice none 0 0] := ⟨by kernel_rfl⟩
instance : FieldTy Tryd.prog 61 0 0 := ⟨by kernel_rfl⟩
instance : PlacesTy Tryd.prog 61 [(0, 1)] := ⟨by kernel_rfl⟩
instance : VarTy Tryd.prog 66 true 3 := ⟨by kernel_rfl⟩
instance : ZeroTy Tryd.prog 66 [.string ⟨#[]⟩, .string ⟨#[]⟩, .string ⟨#[]⟩] := ⟨by kernel_rfl⟩
instance : FieldTy Tryd.prog 66 0 0 := ⟨by kernel_rfl⟩
instance : FieldTy Tryd.prog 66 1 1 := ⟨by kernel_rfl⟩
instance : FieldTy Tryd.prog 66 2 2 := ⟨by kernel_rfl⟩
instance : PlacesTy Tryd.prog 66 [(0, 1), (1, 1), (2, 1)] := ⟨by kernel_rfl⟩
instance : VarTy Tryd.prog 77 true 2 := ⟨by kernel_rfl⟩
instance : ZeroTy Tryd.prog 77 [.string ⟨#[]⟩, .string ⟨#[]⟩] := ⟨by kernel_rfl⟩
instance : FieldTy Tryd.prog 77 0 0 := ⟨by kernel_rfl⟩
instance : PlacesTy Tryd.prog 77 [(0, 1), (1, 1)] := ⟨by kernel_rfl⟩
instance : EqTy Tryd.prog 77 [3, 3] := ⟨by kernel_rfl⟩
instance : SliceTy Tryd.prog 78 77 2 := ⟨by kernel_rfl⟩
instance : AppTy Tryd.prog 78 77 2 32 := ⟨by kernel_rfl⟩
instance : VarTy Tryd.prog 81 true 3 := ⟨by kernel_rfl⟩
instance : ZeroTy Tryd.prog 81 [.string ⟨#[]⟩, .string ⟨#[]⟩, .string ⟨#[]⟩] := ⟨by kernel_rfl⟩
instance : FieldTy Tryd.prog 81 0 0 := ⟨by kernel_rfl⟩
instance : FieldTy Tryd.prog 81 1 1 := ⟨by kernel_rfl⟩
instance : FieldTy Tryd.prog 81 2 2 := ⟨by kernel_rfl⟩
instance : EqTy Tryd.prog 81 [3, 3, 3] := ⟨by kernel_rfl⟩
instance : VarTy Tryd.prog 127 true 2 := ⟨by kernel_rfl⟩
instance : ZeroTy Tryd.prog 127 [.slice none 0 0, .slice none 0 0] := ⟨by kernel_rfl⟩
instance : FieldTy Tryd.prog 127 0 0 := ⟨by kernel_rfl⟩
instance : FieldTy Tryd.prog 127 1 1 := ⟨by kernel_rfl⟩
instance : PlacesTy Tryd.prog 127 [(0, 1), (1, 1)] := ⟨by kernel_rfl⟩
instance : SliceTy Tryd.prog 131 5 1 := ⟨by kernel_rfl⟩
instance : AppTy Tryd.prog 131 5 1 1 := ⟨by kernel_rfl⟩
instance : IntTy Tryd.prog 150 .u64 := ⟨by kernel_rfl⟩
instance : IntTy Tryd.prog 186 .u32 := ⟨by kernel_rfl⟩
instance : SliceTy Tryd.prog 194 29 1 := ⟨by kernel_rfl⟩
instance : MixTy Tryd.prog := ⟨by kernel_rfl⟩
instance : CallTy Tryd.prog 12 := ⟨by kernel_rfl⟩ -- askance/schema.FindCol
instance : CallTy Tryd.prog 14 := ⟨by kernel_rfl⟩ -- askance/value.Good
instance : CallTy Tryd.prog 19 := ⟨by kernel_rfl⟩ -- askance/plan.Rows
instance : CallTy Tryd.prog 20 := ⟨by kernel_rfl⟩ -- askance/plan.All
instance : CallTy Tryd.prog 21 := ⟨by kernel_rfl⟩ -- askance/tree.Good
instance : CallTy Tryd.prog 23 := ⟨by kernel_rfl⟩ -- askance/plan.Drop
instance : CallTy Tryd.prog 24 := ⟨by kernel_rfl⟩ -- askance/tree.Size
instance : CallTy Tryd.prog 25 := ⟨by kernel_rfl⟩ -- askance/askanceref.IsCatalog
instance : CallTy Tryd.prog 26 := ⟨by kernel_rfl⟩ -- askance/askancelaw.plans
instance : CallTy Tryd.prog 27 := ⟨by kernel_rfl⟩ -- askance/askanceref.TableOf
instance : CallTy Tryd.prog 28 := ⟨by kernel_rfl⟩ -- askance/askanceref.SameCatalog
instance : CallTy Tryd.prog 29 := ⟨by kernel_rfl⟩ -- askance/askanceref.IsValue
instance : CallTy Tryd.prog 30 := ⟨by kernel_rfl⟩ -- askance/askanceref.KeyOf
instance : CallTy Tryd.prog 31 := ⟨by kernel_rfl⟩ -- askance/plan.RowKey
instance : CallTy Tryd.prog 32 := ⟨by kernel_rfl⟩ -- askance/askanceref.ColOf
instance : CallTy Tryd.prog 33 := ⟨by kernel_rfl⟩ -- askance/askanceref.PutPair
instance : CallTy Tryd.prog 34 := ⟨by kernel_rfl⟩ -- askance/plan.IndexKey
instance : CallTy Tryd.prog 35 := ⟨by kernel_rfl⟩ -- askance/plan.Put
instance : CallTy Tryd.prog 36 := ⟨by kernel_rfl⟩ -- askance/askanceref.FlatOf
instance : CallTy Tryd.prog 37 := ⟨by kernel_rfl⟩ -- askance/askanceref.SamePairs
instance : CallTy Tryd.prog 51 := ⟨by kernel_rfl⟩ -- slices.IndexFunc[[]askance/api.Col,askance/api.Col]
instance : CallTy Tryd.prog 52 := ⟨by kernel_rfl⟩ -- askance/schema.FindCol$1
instance : CallTy Tryd.prog 70 := ⟨by kernel_rfl⟩ -- askance/tree.Get
instance : CallTy Tryd.prog 72 := ⟨by kernel_rfl⟩ -- askance/tree.Range
instance : CallTy Tryd.prog 73 := ⟨by kernel_rfl⟩ -- askance/plan.entries
instance : CallTy Tryd.prog 74 := ⟨by kernel_rfl⟩ -- askance/value.Values
instance : CallTy Tryd.prog 75 := ⟨by kernel_rfl⟩ -- askance/plan.rows
instance : CallTy Tryd.prog 79 := ⟨by kernel_rfl⟩ -- askance/tree.Drop
instance : CallTy Tryd.prog 80 := ⟨by kernel_rfl⟩ -- askance/askanceref.IsTable
instance : CallTy Tryd.prog 81 := ⟨by kernel_rfl⟩ -- askance/askanceref.IsName
instance : CallTy Tryd.prog 82 := ⟨by kernel_rfl⟩ -- askance/plan.key
instance : CallTy Tryd.prog 83 := ⟨by kernel_rfl⟩ -- askance/tree.Put
instance : CallTy Tryd.prog 104 := ⟨by kernel_rfl⟩ -- askance/tree.place
instance : CallTy Tryd.prog 106 := ⟨by kernel_rfl⟩ -- cmp.isNaN[string]
instance : CallTy Tryd.prog 107 := ⟨by kernel_rfl⟩ -- slices.Clone[[]askance/api.Page,askance/api.Page]
instance : CallTy Tryd.prog 108 := ⟨by kernel_rfl⟩ -- askance/tree.page
instance : CallTy Tryd.prog 109 := ⟨by kernel_rfl⟩ -- slices.Delete[[]string,string]
instance : CallTy Tryd.prog 110 := ⟨by kernel_rfl⟩ -- slices.Delete[[]askance/api.Page,askance/api.Page]
instance : CallTy Tryd.prog 111 := ⟨by kernel_rfl⟩ -- askance/tree.join
instance : CallTy Tryd.prog 112 := ⟨by kernel_rfl⟩ -- strings.Trim
instance : CallTy Tryd.prog 113 := ⟨by kernel_rfl⟩ -- strings.Contains
instance : CallTy Tryd.prog 114 := ⟨by kernel_rfl⟩ -- askance/value.Key
instance : CallTy Tryd.prog 115 := ⟨by kernel_rfl⟩ -- slices.Insert[[]string,string]
instance : CallTy Tryd.prog 116 := ⟨by kernel_rfl⟩ -- slices.Clone[[]string,string]
instance : CallTy Tryd.prog 117 := ⟨by kernel_rfl⟩ -- slices.Insert[[]askance/api.Page,askance/api.Page]
instance : CallTy Tryd.prog 128 := ⟨by kernel_rfl⟩ -- slices.BinarySearch[[]string,string]
instance : CallTy Tryd.prog 129 := ⟨by kernel_rfl⟩ -- slices.Concat[[]string,string]
instance : CallTy Tryd.prog 145 := ⟨by kernel_rfl⟩ -- cmp.Less[string]
instance : CallTy Tryd.prog 146 := ⟨by kernel_rfl⟩ -- slices.isNaN[string]
instance : CallTy Tryd.prog 147 := ⟨by kernel_rfl⟩ -- slices.Grow[[]string,string]
instance : OvlTy Tryd.prog 138 29 4 := ⟨⟨Tryd.f138, Tryd.func138, by kernel_rfl, by kernel_rfl, by kernel_rfl, by kernel_rfl⟩⟩
instance : OvlTy Tryd.prog 140 59 4 := ⟨⟨Tryd.f140, Tryd.func140, by kernel_rfl, by kernel_rfl, by kernel_rfl, by kernel_rfl⟩⟩
end Go.Proofs.YthkobnpogigkiaaDoor
/- What comes in, as the model's values: the book of the seat's types, and sizes. Conditions: none. -/
namespace Go.Proofs.YthkobnpogigkiaaDoor
open Go.Abs
set_option linter.unusedVariables false
set_option maxRecDepth 100000
theorem bulk_all {H : Type} : ∀ (ds : List (DataW H)), bulkAll Rows.uptoBulk ds = Rows.uptoBulkAll ds
  | [] => rfl
  | d :: ds => by
    have := bulk_all ds
    simp only [bulkAll, List.map_cons, List.foldr_cons, Rows.uptoBulkAll] at this ⊢
    omega
theorem bulk {H : Type} : Bulk (H := H) Rows.uptoBulk where
  str s := by simp [Rows.uptoBulk]
  lit l := by cases l <;> simp [Rows.uptoBulk]
  nil := by simp [Rows.uptoBulk]
  slice es sp := by rw [bulk_all]; simp only [Rows.uptoBulk]; omega
  agg es := by rw [bulk_all]; simp only [Rows.uptoBulk]; omega
def book : Book := [(3, 8, [.int .i64]), (5, 1, [.int .u8]), (9, 16, [.str]), (29, 24, [.sl 9]), (30, 24, [.sl 34]), (32, 32, [.int .i64, .int .i64, .str]), (34, 104, [.int .i64, .int .i64, .int .i64, .str, .str, .str, .int .i64, .sl 34]), (37, 24, [.sl 32]), (43, 40, [.str, .sl 53]), (48, 120, [.str, .int .i64, .int .i64, .int .i64, .str, .str, .str, .int .i64, .sl 34]), (53, 32, [.str, .int .i64, .bool]), (77, 32, [.str, .str]), (81, 48, [.str, .str, .str]), (127, 48, [.sl 9, .sl 9])]
theorem book_ok : book.ok Tryd.prog = true := by kernel_rfl
theorem sz_pos (x : IV) : 1 ≤ x.sz := by
  cases x with
  | im v => cases v <;> simp [IV.sz]
  | sl es => simp [IV.sz]
theorem szs_pos {e : List IV} (h : 0 < e.length) : 1 ≤ szs e := by
  cases e with
  | nil => simp at h
  | cons x e => have := sz_pos x; simp only [szs]; omega
theorem szss_len : ∀ {es : List (List IV)}, (∀ e ∈ es, 0 < e.length) → es.length ≤ szss es
  | [], _ => by simp [szss]
  | e :: es, h => by
    have := szs_pos (h e (by simp))
    have := szss_len (es := es) (fun e he => h e (by simp [he]))
    simp only [szss, List.length_cons]; omega
end Go.Proofs.YthkobnpogigkiaaDoor
/- That this program bears strings.Contains and strings.Trim of the library, with all that they reach. By program. Conditions: none. -/
namespace Go.Proofs
open Go.Shelf
set_option maxRecDepth 100000
def Tryd.lays144_ren : Go.Shelf.Ren := ⟨fun | 144 => 113 | 143 => 137 | 219 => 152 | 217 => 158 | 225 => 159 | 224 => 160 | 267 => 161 | 266 => 166 | 314 => 167 | n => n, fun | 9 => 9 | 4 => 4 | 3 => 3 | 5 => 5 | 46 => 150 | 146 => 209 | 51 => 186 | n => n, fun | 1 => 1 | n => n⟩
theorem Tryd.lays144 : Go.Proofs.Lays.n144 Tryd.prog Tryd.lays144_ren where
  mixed := by kernel_rfl
  f143 := Tryd.func137.trans (congrArg some (by kernel_rfl))
  f144 := Tryd.func113.trans (congrArg some (by kernel_rfl))
  f217 := Tryd.func158.trans (congrArg some (by kernel_rfl))
  f219 := Tryd.func152.trans (congrArg some (by kernel_rfl))
  f224 := Tryd.func160.trans (congrArg some (by kernel_rfl))
  f225 := Tryd.func159.trans (congrArg some (by kernel_rfl))
  f266 := Tryd.func166.trans (congrArg some (by kernel_rfl))
  f267 := Tryd.func161.trans (congrArg some (by kernel_rfl))
  f314 := Tryd.func167.trans (congrArg some (by kernel_rfl))
  t3 := Tryd.underlying3
  a3 := Tryd.isAgg3
  z3 := Tryd.sizeOf3
  v3 := Tryd.zeroValue3
  t4 := Tryd.underlying4
  a4 := Tryd.isAgg4
  z4 := Tryd.sizeOf4
  v4 := Tryd.zeroValue4
  t5 := Tryd.underlying5
  a5 := Tryd.isAgg5
  z5 := Tryd.sizeOf5
  v5 := Tryd.zeroValue5
  t9 := Tryd.underlying9
  a9 := Tryd.isAgg9
  z9 := Tryd.sizeOf9
  v9 := Tryd.zeroValue9
  t46 := Tryd.underlying150
  a46 := Tryd.isAgg150
  z46 := Tryd.sizeOf150
  v46 := Tryd.zeroValue150
  t51 := Tryd.underlying186
  a51 := Tryd.isAgg186
  z51 := Tryd.sizeOf186
  v51 := Tryd.zeroValue186
  t146 := Tryd.underlying209
  a146 := Tryd.isAgg209
  z146 := Tryd.sizeOf209
  v146 := Tryd.zeroValue209
  g1 := by kernel_rfl
def Tryd.lays160_ren : Go.Shelf.Ren := ⟨fun | 160 => 112 | 232 => 131 | 231 => 130 | 227 => 132 | 234 => 134 | 233 => 133 | 236 => 136 | 235 => 135 | 228 => 148 | 271 => 151 | 151 => 150 | 197 => 149 | 120 => 157 | 152 => 156 | 260 => 155 | 137 => 164 | 119 => 165 | 224 => 160 | 225 => 159 | 217 => 158 | 266 => 166 | n => n, fun | 9 => 9 | 4 => 4 | 3 => 3 | 5 => 5 | 117 => 182 | 116 => 181 | 0 => 0 | 124 => 185 | 21 => 21 | 105 => 197 | 46 => 150 | 119 => 204 | 139 => 207 | 138 => 206 | n => n, fun | 3 => 2 | 4 => 3 | n => n⟩
theorem Tryd.lays160 : Go.Proofs.Lays.n160 Tryd.prog Tryd.lays160_ren where
  mixed := by kernel_rfl
  f119 := Tryd.func165.trans (congrArg some (by kernel_rfl))
  f120 := Tryd.func157.trans (congrArg some (by kernel_rfl))
  f137 := Tryd.func164.trans (congrArg some (by kernel_rfl))
  f151 := Tryd.func150.trans (congrArg some (by kernel_rfl))
  f152 := Tryd.func156.trans (congrArg some (by kernel_rfl))
  f160 := Tryd.func112.trans (congrArg some (by kernel_rfl))
  f197 := Tryd.func149.trans (congrArg some (by kernel_rfl))
  f217 := Tryd.func158.trans (congrArg some (by kernel_rfl))
  f224 := Tryd.func160.trans (congrArg some (by kernel_rfl))
  f225 := Tryd.func159.trans (congrArg some (by kernel_rfl))
  f227 := Tryd.func132.trans (congrArg some (by kernel_rfl))
  f228 := Tryd.func148.trans (congrArg some (by kernel_rfl))
  f231 := Tryd.func130.trans (congrArg some (by kernel_rfl))
  f232 := Tryd.func131.trans (congrArg some (by kernel_rfl))
  f233 := Tryd.func133.trans (congrArg some (by kernel_rfl))
  f234 := Tryd.func134.trans (congrArg some (by kernel_rfl))
  f235 := Tryd.func135.trans (congrArg some (by kernel_rfl))
  f236 := Tryd.func136.trans (congrArg some (by kernel_rfl))
  f260 := Tryd.func155.trans (congrArg some (by kernel_rfl))
  f266 := Tryd.func166.trans (congrArg some (by kernel_rfl))
  f271 := Tryd.func151.trans (congrArg some (by kernel_rfl))
  t0 := Tryd.underlying0
  a0 := Tryd.isAgg0
  z0 := Tryd.sizeOf0
  v0 := Tryd.zeroValue0
  t3 := Tryd.underlying3
  a3 := Tryd.isAgg3
  z3 := Tryd.sizeOf3
  v3 := Tryd.zeroValue3
  t4 := Tryd.underlying4
  a4 := Tryd.isAgg4
  z4 := Tryd.sizeOf4
  v4 := Tryd.zeroValue4
  t5 := Tryd.underlying5
  a5 := Tryd.isAgg5
  z5 := Tryd.sizeOf5
  v5 := Tryd.zeroValue5
  t9 := Tryd.underlying9
  a9 := Tryd.isAgg9
  z9 := Tryd.sizeOf9
  v9 := Tryd.zeroValue9
  t21 := Tryd.underlying21
  a21 := Tryd.isAgg21
  z21 := Tryd.sizeOf21
  v21 := Tryd.zeroValue21
  t46 := Tryd.underlying150
  a46 := Tryd.isAgg150
  z46 := Tryd.sizeOf150
  v46 := Tryd.zeroValue150
  t105 := Tryd.underlying197
  a105 := Tryd.isAgg197
  z105 := Tryd.sizeOf197
  v105 := Tryd.zeroValue197
  t116 := Tryd.underlying181
  a116 := Tryd.isAgg181
  z116 := Tryd.sizeOf181
  t117 := Tryd.underlying182
  a117 := Tryd.isAgg182
  z117 := Tryd.sizeOf182
  v117 := Tryd.zeroValue182
  t119 := Tryd.underlying204
  a119 := Tryd.isAgg204
  z119 := Tryd.sizeOf204
  t124 := Tryd.underlying185
  a124 := Tryd.isAgg185
  z124 := Tryd.sizeOf185
  v124 := Tryd.zeroValue185
  t138 := Tryd.underlying206
  a138 := Tryd.isAgg206
  z138 := Tryd.sizeOf206
  v138 := Tryd.zeroValue206
  t139 := Tryd.underlying207
  a139 := Tryd.isAgg207
  z139 := Tryd.sizeOf207
  v139 := Tryd.zeroValue207
  g3 := by kernel_rfl
  g4 := by kernel_rfl
end Go.Proofs
/- Values: what the small functions of package value compute. Conditions: none. -/
namespace Go.Proofs.YthkobnpogigkiaaDoor
open Go.Abs
attribute [local irreducible] L Code.wp bodyPost Exit.then Exit.inBlock
set_option linter.unusedVariables false
set_option linter.unusedSimpArgs false
end Go.Proofs.YthkobnpogigkiaaDoor
/- Values: what Good computes. Conditions: none. -/
namespace Go.Proofs.YthkobnpogigkiaaDoor
open Go.Abs
attribute [local irreducible] L Code.wp bodyPost Exit.then Exit.inBlock
set_option linter.unusedVariables false
set_option linter.unusedSimpArgs false
structure Val where
  k : Int
  n : Int
  s : List UInt8
def Val.c (v : Val) : List IV := [I v.k, I v.n, S v.s]
def charOk (b : UInt8) : Bool := 32 ≤ b.toNat && b.toNat ≤ 126 && b.toNat != 39
def goodM (v : Val) : Bool :=
  if v.k = 0 then v.n == 0 && v.s == []
  else if v.k = 1 then v.s == [] && (-1000000 ≤ v.n && v.n ≤ 1000000)
  else if v.k = 2 then v.n == 0 && (v.s.length ≤ 8 && v.s.all charOk)
  else false
theorem good_any (v : Val) : CallA Tryd.prog 14 [.agg (v.c.map .iv)] [] [] [] (aB (goodM v)) := by
  obtain ⟨k, n, s⟩ := v
  refine CallA.intro 63 Tryd.func14 rfl rfl rfl (fun w0 E0 => ?_)
  (repeat' (first | (refine LW.is ?_; first | (refine s_nil ?_) | (apply s_mvIv; exact rfl; exact rfl) | (apply s_asIv; exact rfl; exact rfl) | (apply s_fieldP; exact rfl; exact rfl; exact rfl) | (apply s_load1P; exact rfl; exact rfl; exact rfl; (apply n_some; exact rfl; (first | exact nIm rfl | exact nSl rfl | exact nIv rfl | exact nRow rfl | exact nNil rfl | exact nPtr rfl | exact nBsh rfl | exact nBsl rfl | exact nAny rfl | exact rfl))) | (apply s_loadAP; exact rfl; exact rfl; exact rfl; (focus repeat' (first | exact nl_nil rfl | (apply nl_cons; exact rfl) | exact nIm rfl | exact nSl rfl | exact nIv rfl | exact nRow rfl | exact nNil rfl | exact nPtr rfl | exact nBsh rfl | exact nBsl rfl | exact nAny rfl | exact nIIm rfl | exact nISl rfl | exact rfl)); exact rfl) | (apply s_lenS; exact rfl; exact rfl) | (apply s_eqlI; exact rfl; exact rfl; exact rfl) | (apply s_neqI; exact rfl; exact rfl; exact rfl) | (apply s_leqI; exact rfl; exact rfl; exact rfl) | (apply s_gtrI; exact rfl; exact rfl; exact rfl) | (apply s_geqI; exact rfl; exact rfl; exact rfl) | (apply s_eqlS; exact rfl; exact rfl; exact rfl) | (apply s_box; exact rfl; exact rfl; exact rfl; (focus repeat' (first | exact nl_nil rfl | (apply nl_cons; exact rfl) | exact nIm rfl | exact nSl rfl | exact nIv rfl | exact nRow rfl | exact nNil rfl | exact nPtr rfl | exact nBsh rfl | exact nBsl rfl | exact nAny rfl | exact nIIm rfl | exact nISl rfl | exact rfl)); exact rfl; exact rfl) | (apply s_build; exact rfl; exact rfl; (apply n_some; exact rfl; (focus repeat' (first | exact nl_nil rfl | (apply nl_cons; exact rfl) | exact nIm rfl | exact nSl rfl | exact nIv rfl | exact nRow rfl | exact nNil rfl | exact nPtr rfl | exact nBsh rfl | exact nBsl rfl | exact nAny rfl | exact nIIm rfl | exact nISl rfl | exact rfl)))) | (apply s_eqlAgg; exact rfl; exact rfl; exact rfl; exact rfl; exact rfl) | (apply s_gdo; exact rfl; exact rfl; (first | exact rfl | assumption)) | (apply s_gskipT; exact rfl; exact rfl; exact rfl; (first | exact rfl | assumption)) | (apply s_gskipF; exact rfl; exact rfl; exact rfl; (first | exact rfl | assumption)) | (apply s_pickTIv; exact rfl; exact rfl; (first | exact rfl | assumption); exact rfl) | (apply s_pickFIv; exact rfl; exact rfl; (first | exact rfl | assumption); exact rfl) | (refine s_gsplit rfl rfl rfl (fun hb => ?_) (fun hb => ?_) <;> (have hp := hb; try simp only [decide_eq_true_eq, decide_eq_false_iff_not, beq_iff_eq, beq_eq_false_iff_ne, bne_iff_ne, bne_eq_false_iff_eq, ne_eq, Bool.not_eq_true, Bool.not_eq_false, Bool.not_eq_eq_eq_not, Bool.not_true, Bool.not_false, Bool.or_eq_true, Bool.or_eq_false_iff, Bool.and_eq_true, Bool.and_eq_false_iff, Int.not_lt, Int.not_le] at hp))) | (refine c_seq ?_) | (refine L.block ?_) | (refine s_region ?_) | (refine L.thenN ?_) | (refine L.thenR ?_) | (refine L.inN ?_) | (refine L.inR ?_) | (refine L.ret ?_) | (refine L.skip ?_) | (apply c_condT; exact rfl; (first | exact rfl | assumption)) | (refine L.cond rfl (fun hb => ?_) (fun hb => ?_) <;> (have hp := hb; try simp only [decide_eq_true_eq, decide_eq_false_iff_not, beq_iff_eq, beq_eq_false_iff_ne, bne_iff_ne, bne_eq_false_iff_eq, ne_eq, Bool.not_eq_true, Bool.not_eq_false, Bool.not_eq_eq_eq_not, Bool.not_true, Bool.not_false, Bool.or_eq_true, Bool.or_eq_false_iff, Bool.and_eq_true, Bool.and_eq_false_iff, Int.not_lt, Int.not_le] at hp))))
  all_goals try (first | (apply L.ends1; exact rfl; exact rfl; exact rfl) | (apply L.ends2; exact rfl; exact rfl; exact rfl) | (apply L.ends3; exact rfl; exact rfl; exact rfl) | (apply L.ends1A; exact rfl; exact rfl; exact rfl) | (apply L.ends2A; exact rfl; exact rfl; exact rfl))
  all_goals try (simp [goodM, *]; done)
  all_goals try (simp [goodM, *]; intros; omega)
  rename_i hk0 hk0' hk1 hk1' hk2 hk2' hn hn'
  subst hk2'; subst hn'
  have hg : goodM ⟨2, 0, s⟩ = s.all charOk := by simp [goodM]; omega
  rw [hg]
  refine L.loopP (ι := Nat) (fun i => ⟨[(40, aI (i : Int)), (39, aI (s.length : Int)), (1, .ptr 1 0)], [(1, ⟨32, .l [.iv (I 2), .iv (I 0), .iv (S s)]⟩)], []⟩) (fun i => s.length - i) (fun i => s.all charOk = (s.drop i).all charOk) (i0 := 0) ?_ rfl ?_
  · (refine Wk.mk' (by intro id h; cases h) ?_ ?_ ?_ <;> repeat' (first | exact WkF.nil | exact WkB.nil | exact WkT.nil | (refine WkF.cons rfl (Sub.refl _) ?_) | (refine WkB.cons rfl rfl (Subs.refl _) ?_) | (refine WkT.cons rfl ?_)))
  intro i hi K hK
  cases hv : s[i]? with
  | none =>
    have hlt := ltF hv
    (repeat' (first | (refine LW.is ?_; first | (refine s_nil ?_) | (apply s_asIv; exact rfl; exact rfl) | (apply s_lssI; exact rfl; exact rfl; exact rfl)) | (refine c_seq ?_) | (refine s_region ?_) | (refine L.thenN ?_) | (refine L.thenE ?_) | (refine L.thenR ?_) | (refine L.inR ?_) | (refine L.inE ?_) | (refine L.ret ?_) | (refine L.exit ?_) | (apply c_condF; exact rfl; (first | exact rfl | assumption))))
    all_goals (first | (apply L.ends1; exact rfl; exact rfl; exact rfl) | (apply L.ends2; exact rfl; exact rfl; exact rfl) | (apply L.ends3; exact rfl; exact rfl; exact rfl) | (apply L.ends1A; exact rfl; exact rfl; exact rfl) | (apply L.ends2A; exact rfl; exact rfl; exact rfl))
    rw [hi, dropN hv]; rfl
  | some b =>
    have hlt := ltT hv
    have hlt' := ltN hv
    rw [dropC hv, List.all_cons] at hi
    (repeat' (first | (refine LW.is ?_; first | (refine s_nil ?_) | (apply s_mvIv; exact rfl; exact rfl) | (apply s_asIv; exact rfl; exact rfl) | (apply s_fieldP; exact rfl; exact rfl; exact rfl) | (apply s_load1P; exact rfl; exact rfl; exact rfl; (apply n_some; exact rfl; (first | exact nIm rfl | exact nSl rfl | exact nIv rfl | exact nRow rfl | exact nNil rfl | exact nPtr rfl | exact nBsh rfl | exact nBsl rfl | exact nAny rfl | exact rfl))) | (apply s_eqlI; exact rfl; exact rfl; exact rfl) | (apply s_lssI; exact rfl; exact rfl; exact rfl) | (apply s_gtrI; exact rfl; exact rfl; exact rfl) | (apply s_addI; exact rfl; exact rfl; exact rfl; (first | omega | decide | (dsimp only; omega)); (first | omega | decide | (dsimp only; omega))) | (apply s_indexS; exact rfl; exact rfl; exact rfl; (first | omega | decide | (dsimp only; omega)); (exact getS (by assumption))) | (apply s_gdo; exact rfl; exact rfl; (first | exact rfl | assumption)) | (apply s_gskipF; exact rfl; exact rfl; exact rfl; (first | exact rfl | assumption)) | (apply s_pickTIv; exact rfl; exact rfl; (first | exact rfl | assumption); exact rfl) | (apply s_pickFIv; exact rfl; exact rfl; (first | exact rfl | assumption); exact rfl) | (refine s_gsplit rfl rfl rfl (fun hb => ?_) (fun hb => ?_) <;> (have hp := hb; try simp only [decide_eq_true_eq, decide_eq_false_iff_not, beq_iff_eq, beq_eq_false_iff_ne, bne_iff_ne, bne_eq_false_iff_eq, ne_eq, Bool.not_eq_true, Bool.not_eq_false, Bool.not_eq_eq_eq_not, Bool.not_true, Bool.not_false, Bool.or_eq_true, Bool.or_eq_false_iff, Bool.and_eq_true, Bool.and_eq_false_iff, Int.not_lt, Int.not_le] at hp))) | (refine c_seq ?_) | (refine L.block ?_) | (refine s_region ?_) | (refine L.thenN ?_) | (refine L.thenR ?_) | (refine L.inN ?_) | (refine L.inR ?_) | (refine L.ret ?_) | (refine L.skip ?_) | (apply c_condT; exact rfl; (first | exact rfl | assumption)) | (refine L.cond rfl (fun hb => ?_) (fun hb => ?_) <;> (have hp := hb; try simp only [decide_eq_true_eq, decide_eq_false_iff_not, beq_iff_eq, beq_eq_false_iff_ne, bne_iff_ne, bne_eq_false_iff_eq, ne_eq, Bool.not_eq_true, Bool.not_eq_false, Bool.not_eq_eq_eq_not, Bool.not_true, Bool.not_false, Bool.or_eq_true, Bool.or_eq_false_iff, Bool.and_eq_true, Bool.and_eq_false_iff, Int.not_lt, Int.not_le] at hp))))
    all_goals try (first | (apply L.ends1; exact rfl; exact rfl; exact rfl) | (apply L.ends2; exact rfl; exact rfl; exact rfl) | (apply L.ends3; exact rfl; exact rfl; exact rfl) | (apply L.ends1A; exact rfl; exact rfl; exact rfl) | (apply L.ends2A; exact rfl; exact rfl; exact rfl))
    all_goals try (rw [hi]; simp [charOk, *]; done)
    all_goals try (rw [hi]; simp [charOk, *]; intros; omega)
    refine hK _ (i + 1) ?_ (by omega) ?_
    · have h1 : charOk b = true := by
        simp [charOk]; omega
      rw [hi, h1]; rfl
    · (refine Wk.mk' (by intro id h; cases h) ?_ ?_ ?_ <;> repeat' (first | exact WkF.nil | exact WkB.nil | exact WkT.nil | (refine WkF.cons rfl (Sub.refl _) ?_) | (refine WkB.cons rfl rfl (Subs.refl _) ?_) | (refine WkT.cons rfl ?_)))
end Go.Proofs.YthkobnpogigkiaaDoor
/- Values: what Key computes. Conditions: the values are not more than a slice may have. -/
namespace Go.Proofs.YthkobnpogigkiaaDoor
open Go.Abs
attribute [local irreducible] L Code.wp bodyPost Exit.then Exit.inBlock
set_option linter.unusedVariables false
set_option linter.unusedSimpArgs false
def u8 (n : Int) : UInt8 := UInt8.ofNat (IntKind.u8.wrap n).toNat
theorem u8_wrap (n : Int) : (((u8 n).toNat : Nat) : Int) = IntKind.u8.wrap n := by
  rw [u8, UInt8.toNat_ofNat']
  have : IntKind.u8.wrap n = n % 256 := IntKind.wrap_u8 n
  rw [this]; omega
def be4 (x : Int) : List UInt8 := [u8 (x / 16777216), u8 (x / 65536), u8 (x / 256), u8 x]
def keyOne (v : Val) : List UInt8 := u8 (v.k + 1) :: (if v.k = 1 then be4 (v.n + 1073741824) else if v.k = 2 then v.s ++ [0] else [])
def keyM (vs : List Val) : List UInt8 × Int := if vs.all goodM then (vs.flatMap keyOne, 0) else ([], 1)
theorem goodM_bounds {v : Val} (h : goodM v = true) : 0 ≤ v.k ∧ v.k ≤ 2 ∧ -1000000 ≤ v.n ∧ v.n ≤ 1000000 ∧ v.s.length ≤ 8 := by
  unfold goodM at h
  split at h
  · simp at h; simp [h]; omega
  · split at h
    · simp at h; simp [h]; omega
    · split at h
      · simp at h; simp [h]; omega
      · cases h
theorem keyOne_length {v : Val} (h : goodM v = true) : (keyOne v).length ≤ 10 := by
  unfold goodM at h
  unfold keyOne
  split at h
  · rename_i h0; simp [h0]
  · split at h
    · rename_i h0 h1; simp [h1, be4]
    · split at h
      · rename_i h0 h1 h2
        simp at h
        simp [h2]; omega
      · cases h
theorem flat_length {vs : List Val} : vs.all goodM = true → (vs.flatMap keyOne).length ≤ 10 * vs.length := by
  induction vs with
  | nil => simp
  | cons v vs ih =>
    intro h
    simp only [List.all_cons, Bool.and_eq_true] at h
    have := keyOne_length h.1
    have := ih h.2
    simp only [List.flatMap_cons, List.length_append, List.length_cons]; omega
theorem key_any (vs : List Val) (hlen : 10 * vs.length ≤ 140737488355328) : CallA Tryd.prog 114 [.iv (.sl (vs.map Val.c))] [] [] [] (.tup [.iv (S (keyM vs).1), .iv (I (keyM vs).2)]) := by
  refine CallA.intro 57 Tryd.func114 rfl rfl rfl (fun w0 E0 => ?_)
  (repeat' (first | (refine LW.is ?_; first | (refine s_nil ?_) | (apply s_mvIv; exact rfl; exact rfl) | (apply s_asIv; exact rfl; exact rfl) | (apply s_asNil; exact rfl; exact rfl) | (apply s_lenSl; exact rfl; exact rfl)) | (refine c_seq ?_) | (refine L.block ?_) | (refine s_region ?_) | (refine L.thenN ?_)))
  refine L.adopt 4 (s := 4) (t := 5) (k := 1) rfl rfl rfl ?_
  refine L.loopP (ι := Nat) (fun i => ⟨[(4, .row 4 (((vs.take i).flatMap keyOne).map cB)), (8, .iv (.sl (vs.map Val.c))), (9, aI ((vs.map Val.c).length : Int)), (10, aI (i : Int))], [], [(4, ⟨5, 1⟩)]⟩) (fun i => vs.length - i) (fun i => (vs.take i).all goodM = true) (i0 := 0) ?_ rfl ?_
  · (refine Wk.mk' (by intro id h; cases h) ?_ ?_ ?_ <;> repeat' (first | exact WkF.nil | exact WkB.nil | exact WkT.nil | (refine WkF.cons rfl (Sub.refl _) ?_) | (refine WkB.cons rfl rfl (Subs.refl _) ?_) | (refine WkT.cons rfl ?_)))
  intro i hi K hK
  cases hv : vs[i]? with
  | none =>
    have hlt := ltF (l := vs.map Val.c) (getFN hv)
    (repeat' (first | (refine LW.is ?_; first | (refine s_nil ?_) | (apply s_mvRow; exact rfl; exact rfl) | (apply s_asIv; exact rfl; exact rfl) | (apply s_lssI; exact rfl; exact rfl; exact rfl) | (apply s_bytesS; exact rfl; exact rfl)) | (refine c_seq ?_) | (refine s_region ?_) | (refine L.thenN ?_) | (refine L.thenE ?_) | (refine L.inE ?_) | (refine L.ret ?_) | (refine L.exit ?_) | (apply c_condF; exact rfl; (first | exact rfl | assumption))))
    all_goals (first | (apply L.ends1; exact rfl; exact rfl; exact rfl) | (apply L.ends2; exact rfl; exact rfl; exact rfl) | (apply L.ends3; exact rfl; exact rfl; exact rfl) | (apply L.ends1A; exact rfl; exact rfl; exact rfl) | (apply L.ends2A; exact rfl; exact rfl; exact rfl))
    rw [takeN hv] at hi ⊢
    simp [keyM, hi]
  | some v =>
    have hlt := ltT (l := vs.map Val.c) (getF hv)
    have hlt' := ltN hv
    have hfl := flat_length hi
    have htl : (vs.take i).length = i := by simp; omega
    cases hg : goodM v with
    | false =>
      have hng : (!goodM v) = true := by rw [hg]; rfl
      (repeat' (first | (refine LW.is ?_; first | ((apply s_call0; exact rfl; exact good_any v; exact rfl; exact rfl)) | (refine s_nil ?_) | (apply s_asIv; exact rfl; exact rfl) | (apply s_loadAP; exact rfl; exact rfl; exact rfl; (focus repeat' (first | exact nl_nil rfl | (apply nl_cons; exact rfl) | exact nIm rfl | exact nSl rfl | exact nIv rfl | exact nRow rfl | exact nNil rfl | exact nPtr rfl | exact nBsh rfl | exact nBsl rfl | exact nAny rfl | exact nIIm rfl | exact nISl rfl | exact rfl)); exact rfl) | (apply s_loadAE; exact rfl; exact rfl; (focus repeat' (first | exact nl_nil rfl | (apply nl_cons; exact rfl) | exact nIm rfl | exact nSl rfl | exact nIv rfl | exact nRow rfl | exact nNil rfl | exact nPtr rfl | exact nBsh rfl | exact nBsl rfl | exact nAny rfl | exact nIIm rfl | exact nISl rfl | exact rfl)); exact rfl) | (apply s_lssI; exact rfl; exact rfl; exact rfl) | (apply s_not; exact rfl; exact rfl) | (apply s_alloc; exact rfl; exact rfl; (focus repeat' (first | exact nl_nil rfl | (apply nl_cons; exact rfl) | exact nIm rfl | exact nSl rfl | exact nIv rfl | exact nRow rfl | exact nNil rfl | exact nPtr rfl | exact nBsh rfl | exact nBsl rfl | exact nAny rfl | exact nIIm rfl | exact nISl rfl | exact rfl)); exact rfl; exact rfl) | (apply s_store; exact rfl; exact rfl; exact rfl; exact rfl; exact rfl; exact rfl; (focus repeat' (first | exact nl_nil rfl | (apply nl_cons; exact rfl) | exact nIm rfl | exact nSl rfl | exact nIv rfl | exact nRow rfl | exact nNil rfl | exact nPtr rfl | exact nBsh rfl | exact nBsl rfl | exact nAny rfl | exact nIIm rfl | exact nISl rfl | exact rfl))) | (apply s_indexA; exact rfl; exact rfl; exact rfl; (first | omega | decide | (dsimp only; omega)); (exact Go.Abs.getM (by assumption)); exact rfl)) | (refine c_seq ?_) | (refine L.block ?_) | (refine s_region ?_) | (refine L.thenN ?_) | (refine L.thenR ?_) | (refine L.inR ?_) | (refine L.ret ?_) | (refine L.skip ?_) | (apply c_condT; exact rfl; (first | exact rfl | assumption))))
      all_goals (first | (apply L.ends1; exact rfl; exact rfl; exact rfl) | (apply L.ends2; exact rfl; exact rfl; exact rfl) | (apply L.ends3; exact rfl; exact rfl; exact rfl) | (apply L.ends1A; exact rfl; exact rfl; exact rfl) | (apply L.ends2A; exact rfl; exact rfl; exact rfl))
      have : vs.all goodM = false := by
        rw [List.all_eq_false]
        exact ⟨v, List.mem_of_getElem? hv, by simp [hg]⟩
      simp [keyM, this]
    | true =>
      have hng : (!goodM v) = false := by rw [hg]; rfl
      have hb3 : 0 ≤ v.k ∧ v.k ≤ 2 ∧ -1000000 ≤ v.n ∧ v.n ≤ 1000000 ∧ v.s.length ≤ 8 := goodM_bounds hg
      obtain ⟨hk0, hk2, hn0, hn1, hs8⟩ := hb3
      have hnext : (vs.take (i + 1)).all goodM = true := by rw [takeC hv]; simp [hi, hg]
      have hacc : (vs.take (i + 1)).flatMap keyOne = (vs.take i).flatMap keyOne ++ keyOne v := by rw [takeC hv]; simp
      generalize hq : (vs.take (i + 1)).flatMap keyOne = acc' at hacc
      generalize (vs.take i).flatMap keyOne = acc at hfl hacc ⊢
      rw [htl] at hfl
      (repeat' (first | (refine LW.is ?_; first | ((apply s_call0; exact rfl; exact good_any v; exact rfl; exact rfl)) | (refine s_nil ?_) | (apply s_mvIv; exact rfl; exact rfl) | (apply s_mvRow; exact rfl; exact rfl) | (apply s_asIv; exact rfl; exact rfl) | (apply s_asRow; exact rfl; exact rfl) | (apply s_fieldP; exact rfl; exact rfl; exact rfl) | (apply s_load1P; exact rfl; exact rfl; exact rfl; (apply n_some; exact rfl; (first | exact nIm rfl | exact nSl rfl | exact nIv rfl | exact nRow rfl | exact nNil rfl | exact nPtr rfl | exact nBsh rfl | exact nBsl rfl | exact nAny rfl | exact rfl))) | (apply s_loadAP; exact rfl; exact rfl; exact rfl; (focus repeat' (first | exact nl_nil rfl | (apply nl_cons; exact rfl) | exact nIm rfl | exact nSl rfl | exact nIv rfl | exact nRow rfl | exact nNil rfl | exact nPtr rfl | exact nBsh rfl | exact nBsl rfl | exact nAny rfl | exact nIIm rfl | exact nISl rfl | exact rfl)); exact rfl) | (apply s_loadAE; exact rfl; exact rfl; (focus repeat' (first | exact nl_nil rfl | (apply nl_cons; exact rfl) | exact nIm rfl | exact nSl rfl | exact nIv rfl | exact nRow rfl | exact nNil rfl | exact nPtr rfl | exact nBsh rfl | exact nBsl rfl | exact nAny rfl | exact nIIm rfl | exact nISl rfl | exact rfl)); exact rfl) | (apply s_eqlI; exact rfl; exact rfl; exact rfl) | (apply s_lssI; exact rfl; exact rfl; exact rfl) | (apply s_not; exact rfl; exact rfl) | (apply s_alloc; exact rfl; exact rfl; (focus repeat' (first | exact nl_nil rfl | (apply nl_cons; exact rfl) | exact nIm rfl | exact nSl rfl | exact nIv rfl | exact nRow rfl | exact nNil rfl | exact nPtr rfl | exact nBsh rfl | exact nBsl rfl | exact nAny rfl | exact nIIm rfl | exact nISl rfl | exact rfl)); exact rfl; exact rfl) | (apply s_bslice; exact rfl; exact rfl; exact rfl; exact rfl; exact rfl; (apply n_some; exact rfl; (focus repeat' (first | exact nl_nil rfl | (apply nl_cons; exact rfl) | exact nIm rfl | exact nSl rfl | exact nIv rfl | exact nRow rfl | exact nNil rfl | exact nPtr rfl | exact nBsh rfl | exact nBsl rfl | exact nAny rfl | exact nIIm rfl | exact nISl rfl | exact rfl))); (apply n_some; exact rfl; (focus repeat' (first | exact nl_nil rfl | (apply nl_cons; exact rfl) | exact nIm rfl | exact nSl rfl | exact nIv rfl | exact nRow rfl | exact nNil rfl | exact nPtr rfl | exact nBsh rfl | exact nBsl rfl | exact nAny rfl | exact nIIm rfl | exact nISl rfl | exact rfl))); exact rfl; (focus repeat' (first | exact nl_nil rfl | (apply nl_cons; exact rfl) | exact nIm rfl | exact nSl rfl | exact nIv rfl | exact nRow rfl | exact nNil rfl | exact nPtr rfl | exact nBsh rfl | exact nBsl rfl | exact nAny rfl | exact nIIm rfl | exact nISl rfl | exact rfl)); exact rfl) | (apply s_store; exact rfl; exact rfl; exact rfl; exact rfl; exact rfl; exact rfl; (focus repeat' (first | exact nl_nil rfl | (apply nl_cons; exact rfl) | exact nIm rfl | exact nSl rfl | exact nIv rfl | exact nRow rfl | exact nNil rfl | exact nPtr rfl | exact nBsh rfl | exact nBsl rfl | exact nAny rfl | exact nIIm rfl | exact nISl rfl | exact rfl))) | (apply s_addI; exact rfl; exact rfl; exact rfl; (first | omega | decide | (dsimp only; omega)); (first | omega | decide | (dsimp only; omega))) | (apply s_conv; exact rfl; exact rfl) | (apply s_shrI; exact rfl; exact rfl; exact rfl; (first | decide | omega | (dsimp only; omega))) | (apply s_indexA; exact rfl; exact rfl; exact rfl; (first | omega | decide | (dsimp only; omega)); (exact Go.Abs.getM (by assumption)); exact rfl) | (apply s_append; exact rfl; exact rfl; exact rfl; exact rfl; (focus repeat' (first | exact len_nil | apply len_app | (refine len_map (fun x => rfl)) | (refine len_cons rfl ?_) | exact len_chunks rfl | assumption)); (focus repeat' (first | exact len_nil | apply len_app | (refine len_map (fun x => rfl)) | (refine len_cons rfl ?_) | exact len_chunks rfl | assumption)); (first | (simp [maxLen, chunks_length]; done) | (simp [maxLen, chunks_length]; omega)); (first | (simp [maxLen, chunks_length]; done) | (simp [maxLen, chunks_length]; omega)); exact rfl; exact rfl) | (apply s_appendS; exact rfl; exact rfl; exact rfl; exact rfl; (focus repeat' (first | exact len_nil | apply len_app | (refine len_map (fun x => rfl)) | (refine len_cons rfl ?_) | exact len_chunks rfl | assumption)); (first | (simp [maxLen, chunks_length]; done) | (simp [maxLen, chunks_length]; omega)); (first | (simp [maxLen, chunks_length]; done) | (simp [maxLen, chunks_length]; omega)); exact rfl; exact rfl)) | (refine c_seq ?_) | (refine L.block ?_) | (refine s_region ?_) | (refine L.thenN ?_) | (refine L.inN ?_) | (refine L.skip ?_) | (apply c_condT; exact rfl; (first | exact rfl | assumption)) | (apply c_condF; exact rfl; (first | exact rfl | assumption)) | (refine L.cond rfl (fun hb => ?_) (fun hb => ?_) <;> (have hp := hb; try simp only [decide_eq_true_eq, decide_eq_false_iff_not, beq_iff_eq, beq_eq_false_iff_ne, bne_iff_ne, bne_eq_false_iff_eq, ne_eq, Bool.not_eq_true, Bool.not_eq_false, Bool.not_eq_eq_eq_not, Bool.not_true, Bool.not_false, Bool.or_eq_true, Bool.or_eq_false_iff, Bool.and_eq_true, Bool.and_eq_false_iff, Int.not_lt, Int.not_le] at hp))))
      · refine L.only [4, 8, 9, 10] ?_
        refine L.retok 4 45 4 rfl rfl rfl rfl ?_
        refine hK _ (i + 1) hnext (by omega) (Wk.mk' (by intro id h; cases h) (.cons rfl (Sub.of_eq (congrArg (AV.row 4) ?_)) (.cons rfl (Sub.refl _) (.cons rfl (Sub.refl _) (.cons rfl (Sub.refl _) .nil)))) .nil (.cons rfl .nil))
        have hw : IntKind.u32.wrap (v.n + 1073741824) = v.n + 1073741824 := by rw [IntKind.wrap_u32]; omega
        have h24 : ∀ x : Int, x.fdiv (2 ^ min 24 IntKind.u32.bits) = x / 16777216 := fun x => Int.fdiv_eq_ediv_of_nonneg x (by decide)
        have h16 : ∀ x : Int, x.fdiv (2 ^ min 16 IntKind.u32.bits) = x / 65536 := fun x => Int.fdiv_eq_ediv_of_nonneg x (by decide)
        have h8 : ∀ x : Int, x.fdiv (2 ^ min 8 IntKind.u32.bits) = x / 256 := fun x => Int.fdiv_eq_ediv_of_nonneg x (by decide)
        rw [hq, hacc]
        simp [keyOne, *, be4, cB, u8_wrap, chunks]
      · refine L.only [4, 8, 9, 10] ?_
        refine L.retok 4 53 4 rfl rfl rfl rfl ?_
        refine hK _ (i + 1) hnext (by omega) (Wk.mk' (by intro id h; cases h) (.cons rfl (Sub.of_eq (congrArg (AV.row 4) ?_)) (.cons rfl (Sub.refl _) (.cons rfl (Sub.refl _) (.cons rfl (Sub.refl _) .nil)))) .nil (.cons rfl .nil))
        rw [hq, hacc]
        simp [keyOne, *, cB, u8_wrap, chunks]
      · refine L.only [4, 8, 9, 10] ?_
        refine L.retok 4 23 4 rfl rfl rfl rfl ?_
        refine hK _ (i + 1) hnext (by omega) (Wk.mk' (by intro id h; cases h) (.cons rfl (Sub.of_eq (congrArg (AV.row 4) ?_)) (.cons rfl (Sub.refl _) (.cons rfl (Sub.refl _) (.cons rfl (Sub.refl _) .nil)))) .nil (.cons rfl .nil))
        rw [hq, hacc]
        simp [keyOne, *, cB, u8_wrap, chunks]
end Go.Proofs.YthkobnpogigkiaaDoor
/- Values: what Values computes, of texts that are not longer than a slice may be. Conditions: that bound. -/
namespace Go.Proofs.YthkobnpogigkiaaDoor
open Go.Abs
attribute [local irreducible] L Code.wp bodyPost Exit.then Exit.inBlock
set_option linter.unusedVariables false
set_option linter.unusedSimpArgs false
def dec4 (s : List UInt8) : Int := (s.getD 0 0).toNat * 16777216 + (s.getD 1 0).toNat * 65536 + (s.getD 2 0).toNat * 256 + (s.getD 3 0).toNat - 1073741824
def upto0 (s : List UInt8) : List UInt8 := s.takeWhile (fun b => b != 0)
def valOne : List UInt8 → Option (Val × List UInt8)
  | [] => none
  | b :: s =>
    if b.toNat = 1 then some (⟨0, 0, []⟩, s)
    else if b.toNat = 2 then if s.length < 4 then none else some (⟨1, dec4 s, []⟩, s.drop 4)
    else if b.toNat = 3 then if (upto0 s).length = s.length then none else some (⟨2, 0, upto0 s⟩, s.drop ((upto0 s).length + 1))
    else none
theorem valOne_lt {s r : List UInt8} {v : Val} (h : valOne s = some (v, r)) : r.length < s.length := by
  cases s with
  | nil => cases h
  | cons b s =>
    simp only [valOne] at h
    split at h
    · simp at h; simp [h.2]
    · split at h
      · split at h
        · cases h
        · simp at h; rw [← h.2]; simp; omega
      · split at h
        · split at h
          · cases h
          · simp at h; rw [← h.2]; simp; omega
        · cases h
def valsM (s : List UInt8) : Option (List Val) :=
  if s = [] then some [] else
  match h : valOne s with
  | none => none
  | some (v, r) => if goodM v then (valsM r).map (v :: ·) else none
 termination_by s.length
 decreasing_by exact valOne_lt h
theorem valsM_nil : valsM [] = some [] := by rw [valsM]; rfl
theorem valsM_none {s : List UInt8} (hs : s ≠ []) (h : valOne s = none) : valsM s = none := by
  rw [valsM, if_neg hs]; split
  · rfl
  · rename_i v r h'; rw [h] at h'; cases h'
theorem valsM_some {s r : List UInt8} {v : Val} (h : valOne s = some (v, r)) : valsM s = if goodM v then (valsM r).map (v :: ·) else none := by
  have hs : s ≠ [] := fun e => by subst e; cases h
  rw [valsM, if_neg hs]; split
  · rename_i h'; rw [h] at h'; cases h'
  · rename_i v' r' h'; rw [h] at h'; cases h'; rfl
def valsR (s : List UInt8) : List Val × Int := match valsM s with | some l => (l, 0) | none => ([], 1)
theorem upto0_zero : ∀ {r : List UInt8} {j : Nat}, r[j]? = some 0 → j ≤ (upto0 r).length → (upto0 r).length = j
  | [], j, h, _ => by simp at h
  | b :: r, 0, h, _ => by simp at h; subst h; rfl
  | b :: r, j + 1, h, hj => by
    by_cases hb : b = 0
    · subst hb; simp [upto0] at hj
    · have e : upto0 (b :: r) = b :: upto0 r := by simp [upto0, hb]
      rw [e] at hj ⊢
      simp only [List.length_cons] at hj ⊢
      rw [upto0_zero (by simpa using h) (by omega)]
theorem upto0_next : ∀ {r : List UInt8} {j : Nat} {c : UInt8}, r[j]? = some c → c ≠ 0 → j ≤ (upto0 r).length → j + 1 ≤ (upto0 r).length
  | [], j, c, h, _, _ => by simp at h
  | b :: r, 0, c, h, hc, _ => by simp at h; subst h; simp [upto0, hc]
  | b :: r, j + 1, c, h, hc, hj => by
    by_cases hb : b = 0
    · subst hb; simp [upto0] at hj
    · have e : upto0 (b :: r) = b :: upto0 r := by simp [upto0, hb]
      rw [e] at hj ⊢
      simp only [List.length_cons] at hj ⊢
      have := upto0_next (r := r) (j := j) (c := c) (by simpa using h) hc (by omega)
      omega
theorem upto0_le (r : List UInt8) : (upto0 r).length ≤ r.length := (List.takeWhile_prefix _).length_le
theorem upto0_take (r : List UInt8) : r.take (upto0 r).length = upto0 r := (List.prefix_iff_eq_take.1 (List.takeWhile_prefix _)).symm
section
variable {s : List UInt8} {acc : List Val} {b : UInt8} {r r' : List UInt8} {v : Val}
theorem step_some (hi : valsM s = (valsM (b :: r)).map (acc ++ ·)) (h : valOne (b :: r) = some (v, r')) (hg : goodM v = true) : valsM s = (valsM r').map ((acc ++ [v]) ++ ·) := by
  rw [hi, valsM_some h, if_pos hg, Option.map_map]
  congr 1; funext l; simp
theorem step_bad (hi : valsM s = (valsM (b :: r)).map (acc ++ ·)) (h : valOne (b :: r) = some (v, r')) (hg : goodM v = false) : valsR s = ([], 1) := by
  have : valsM s = none := by rw [hi, valsM_some h, hg]; rfl
  simp [valsR, this]
theorem step_none (hi : valsM s = (valsM (b :: r)).map (acc ++ ·)) (h : valOne (b :: r) = none) : valsR s = ([], 1) := by
  have : valsM s = none := by rw [hi, valsM_none (by simp) h]; rfl
  simp [valsR, this]
end
theorem vals_any (s : List UInt8) (hlen : 32 * s.length ≤ 140737488355328) : CallA Tryd.prog 74 [aS s] [] [] [] (.tup [.iv (.sl ((valsR s).1.map Val.c)), .iv (I (valsR s).2)]) := by
  refine CallA.intro 81 Tryd.func74 rfl rfl rfl (fun w0 E0 => ?_)
  (repeat' (first | (refine LW.is ?_; first | (refine s_nil ?_) | (apply s_asIv; exact rfl; exact rfl) | (apply s_asNil; exact rfl; exact rfl)) | (refine c_seq ?_) | (refine L.block ?_) | (refine s_region ?_) | (refine L.thenN ?_)))
  refine L.adopt 4 (s := 4) (t := 32) (k := 3) rfl rfl rfl ?_
  refine L.loopP (ι := List Val × List UInt8) (fun i => ⟨[(4, .row 4 (i.1.map Val.c)), (0, aS i.2)], [], [(4, ⟨32, 3⟩)]⟩) (fun i => i.2.length) (fun i => valsM s = (valsM i.2).map (i.1 ++ ·) ∧ i.1.length + i.2.length ≤ s.length) (i0 := ([], s)) ?_ (by simp) ?_
  · (refine Wk.mk' (by intro id h; cases h) ?_ ?_ ?_ <;> repeat' (first | exact WkF.nil | exact WkB.nil | exact WkT.nil | (refine WkF.cons rfl (Sub.refl _) ?_) | (refine WkB.cons rfl rfl (Subs.refl _) ?_) | (refine WkT.cons rfl ?_)))
  rintro ⟨acc, s'⟩ ⟨hi, hl⟩ K hK
  dsimp only at hi hl ⊢
  cases s' with
  | nil =>
    have hne : (!(([] : List UInt8) == [])) = false := rfl
    (repeat' (first | (refine LW.is ?_; first | (refine s_nil ?_) | (apply s_mvIv; exact rfl; exact rfl) | (apply s_mvRow; exact rfl; exact rfl) | (apply s_asIv; exact rfl; exact rfl) | (apply s_asRow; exact rfl; exact rfl) | (apply s_neqS; exact rfl; exact rfl; exact rfl)) | (refine c_seq ?_) | (refine s_region ?_) | (refine L.thenN ?_) | (refine L.thenE ?_) | (refine L.inE ?_) | (refine L.ret ?_) | (refine L.exit ?_) | (apply c_condF; exact rfl; (first | exact rfl | assumption))))
    all_goals (first | (apply L.ends1; exact rfl; exact rfl; exact rfl) | (apply L.ends2; exact rfl; exact rfl; exact rfl) | (apply L.ends3; exact rfl; exact rfl; exact rfl) | (apply L.ends1A; exact rfl; exact rfl; exact rfl) | (apply L.ends2A; exact rfl; exact rfl; exact rfl))
    rw [valsM_nil] at hi
    simp [valsR, hi]
  | cons b r =>
    have hne : (!(b :: r == ([] : List UInt8))) = true := by simp
    simp only [List.length_cons] at hl
    by_cases h1 : b = 1
    · subst h1
      have hv : valOne (1 :: r) = some (⟨0, 0, []⟩, r) := rfl
      have hg : goodM ⟨0, 0, []⟩ = true := rfl
      have hng : (!goodM ⟨0, 0, []⟩) = false := rfl
      (repeat' (first | (refine LW.is ?_; first | ((apply s_indexS; exact rfl; exact rfl; exact rfl; decide; exact rfl)) | ((apply s_sliceSl; exact rfl; exact rfl; exact rfl; decide; (simp <;> omega); (show _ = r; exact rfl))) | ((apply s_call0; exact rfl; rotate_left; exact rfl; rotate_left 3; exact good_any ⟨0, 0, []⟩; exact rfl)) | (refine s_nil ?_) | (apply s_mvIv; exact rfl; exact rfl) | (apply s_mvRow; exact rfl; exact rfl) | (apply s_asIv; exact rfl; exact rfl) | (apply s_asRow; exact rfl; exact rfl) | (apply s_fieldP; exact rfl; exact rfl; exact rfl) | (apply s_load1P; exact rfl; exact rfl; exact rfl; (apply n_some; exact rfl; (first | exact nIm rfl | exact nSl rfl | exact nIv rfl | exact nRow rfl | exact nNil rfl | exact nPtr rfl | exact nBsh rfl | exact nBsl rfl | exact nAny rfl | exact rfl))) | (apply s_loadAP; exact rfl; exact rfl; exact rfl; (focus repeat' (first | exact nl_nil rfl | (apply nl_cons; exact rfl) | exact nIm rfl | exact nSl rfl | exact nIv rfl | exact nRow rfl | exact nNil rfl | exact nPtr rfl | exact nBsh rfl | exact nBsl rfl | exact nAny rfl | exact nIIm rfl | exact nISl rfl | exact rfl)); exact rfl) | (apply s_eqlI; exact rfl; exact rfl; exact rfl) | (apply s_neqS; exact rfl; exact rfl; exact rfl) | (apply s_not; exact rfl; exact rfl) | (apply s_alloc; exact rfl; exact rfl; (focus repeat' (first | exact nl_nil rfl | (apply nl_cons; exact rfl) | exact nIm rfl | exact nSl rfl | exact nIv rfl | exact nRow rfl | exact nNil rfl | exact nPtr rfl | exact nBsh rfl | exact nBsl rfl | exact nAny rfl | exact nIIm rfl | exact nISl rfl | exact rfl)); exact rfl; exact rfl) | (apply s_build; exact rfl; exact rfl; (apply n_some; exact rfl; (focus repeat' (first | exact nl_nil rfl | (apply nl_cons; exact rfl) | exact nIm rfl | exact nSl rfl | exact nIv rfl | exact nRow rfl | exact nNil rfl | exact nPtr rfl | exact nBsh rfl | exact nBsl rfl | exact nAny rfl | exact nIIm rfl | exact nISl rfl | exact rfl)))) | (apply s_bslice; exact rfl; exact rfl; exact rfl; exact rfl; exact rfl; (apply n_some; exact rfl; (focus repeat' (first | exact nl_nil rfl | (apply nl_cons; exact rfl) | exact nIm rfl | exact nSl rfl | exact nIv rfl | exact nRow rfl | exact nNil rfl | exact nPtr rfl | exact nBsh rfl | exact nBsl rfl | exact nAny rfl | exact nIIm rfl | exact nISl rfl | exact rfl))); (apply n_some; exact rfl; (focus repeat' (first | exact nl_nil rfl | (apply nl_cons; exact rfl) | exact nIm rfl | exact nSl rfl | exact nIv rfl | exact nRow rfl | exact nNil rfl | exact nPtr rfl | exact nBsh rfl | exact nBsl rfl | exact nAny rfl | exact nIIm rfl | exact nISl rfl | exact rfl))); exact rfl; (focus repeat' (first | exact nl_nil rfl | (apply nl_cons; exact rfl) | exact nIm rfl | exact nSl rfl | exact nIv rfl | exact nRow rfl | exact nNil rfl | exact nPtr rfl | exact nBsh rfl | exact nBsl rfl | exact nAny rfl | exact nIIm rfl | exact nISl rfl | exact rfl)); exact rfl) | (apply s_store; exact rfl; exact rfl; exact rfl; exact rfl; exact rfl; exact rfl; (focus repeat' (first | exact nl_nil rfl | (apply nl_cons; exact rfl) | exact nIm rfl | exact nSl rfl | exact nIv rfl | exact nRow rfl | exact nNil rfl | exact nPtr rfl | exact nBsh rfl | exact nBsl rfl | exact nAny rfl | exact nIIm rfl | exact nISl rfl | exact rfl))) | (apply s_subI; exact rfl; exact rfl; exact rfl; (first | omega | decide | (dsimp only; omega)); (first | omega | decide | (dsimp only; omega))) | (apply s_convU8; exact rfl; exact rfl) | (apply s_append; exact rfl; exact rfl; exact rfl; exact rfl; (focus repeat' (first | exact len_nil | apply len_app | (refine len_map (fun x => rfl)) | (refine len_cons rfl ?_) | exact len_chunks rfl | assumption)); (focus repeat' (first | exact len_nil | apply len_app | (refine len_map (fun x => rfl)) | (refine len_cons rfl ?_) | exact len_chunks rfl | assumption)); (first | (simp [maxLen, chunks_length]; done) | (simp [maxLen, chunks_length]; omega)); (first | (simp [maxLen, chunks_length]; done) | (simp [maxLen, chunks_length]; omega)); exact rfl; exact rfl)) | (refine c_seq ?_) | (refine L.block ?_) | (refine s_region ?_) | (refine L.thenN ?_) | (refine L.inN ?_) | (refine L.skip ?_) | (apply c_condT; exact rfl; (first | exact rfl | assumption)) | (apply c_condF; exact rfl; (first | exact rfl | assumption))))
      · refine L.only [4, 0] ?_
        refine L.retok 4 79 4 rfl rfl rfl rfl ?_
        refine hK _ (acc ++ [⟨0, 0, []⟩], r) ⟨step_some hi hv hg, by simp <;> omega⟩ (by simp <;> omega) (Wk.mk' (by intro id h; cases h) (.cons rfl (Sub.of_eq (congrArg (AV.row 4) ?_)) (.cons rfl (Sub.refl _) .nil)) .nil (.cons rfl .nil))
        simp [chunks, Val.c]
    by_cases h2 : b = 2
    · subst h2
      by_cases hr : r.length < 4
      · have hv : valOne (2 :: r) = none := by simp [valOne, hr]
        have hlt : decide ((r.length : Int) < 4) = true := by simp; omega
        (repeat' (first | (refine LW.is ?_; first | ((apply s_indexS; exact rfl; exact rfl; exact rfl; decide; exact rfl)) | ((apply s_sliceSl; exact rfl; exact rfl; exact rfl; decide; (simp <;> omega); (show _ = r; exact rfl))) | (refine s_nil ?_) | (apply s_mvIv; exact rfl; exact rfl) | (apply s_asIv; exact rfl; exact rfl) | (apply s_asNil; exact rfl; exact rfl) | (apply s_fieldP; exact rfl; exact rfl; exact rfl) | (apply s_load1P; exact rfl; exact rfl; exact rfl; (apply n_some; exact rfl; (first | exact nIm rfl | exact nSl rfl | exact nIv rfl | exact nRow rfl | exact nNil rfl | exact nPtr rfl | exact nBsh rfl | exact nBsl rfl | exact nAny rfl | exact rfl))) | (apply s_lenS; exact rfl; exact rfl) | (apply s_eqlI; exact rfl; exact rfl; exact rfl) | (apply s_lssI; exact rfl; exact rfl; exact rfl) | (apply s_neqS; exact rfl; exact rfl; exact rfl) | (apply s_alloc; exact rfl; exact rfl; (focus repeat' (first | exact nl_nil rfl | (apply nl_cons; exact rfl) | exact nIm rfl | exact nSl rfl | exact nIv rfl | exact nRow rfl | exact nNil rfl | exact nPtr rfl | exact nBsh rfl | exact nBsl rfl | exact nAny rfl | exact nIIm rfl | exact nISl rfl | exact rfl)); exact rfl; exact rfl) | (apply s_build; exact rfl; exact rfl; (apply n_some; exact rfl; (focus repeat' (first | exact nl_nil rfl | (apply nl_cons; exact rfl) | exact nIm rfl | exact nSl rfl | exact nIv rfl | exact nRow rfl | exact nNil rfl | exact nPtr rfl | exact nBsh rfl | exact nBsl rfl | exact nAny rfl | exact nIIm rfl | exact nISl rfl | exact rfl)))) | (apply s_store; exact rfl; exact rfl; exact rfl; exact rfl; exact rfl; exact rfl; (focus repeat' (first | exact nl_nil rfl | (apply nl_cons; exact rfl) | exact nIm rfl | exact nSl rfl | exact nIv rfl | exact nRow rfl | exact nNil rfl | exact nPtr rfl | exact nBsh rfl | exact nBsl rfl | exact nAny rfl | exact nIIm rfl | exact nISl rfl | exact rfl))) | (apply s_subI; exact rfl; exact rfl; exact rfl; (first | omega | decide | (dsimp only; omega)); (first | omega | decide | (dsimp only; omega))) | (apply s_convU8; exact rfl; exact rfl)) | (refine c_seq ?_) | (refine L.block ?_) | (refine s_region ?_) | (refine L.thenN ?_) | (refine L.thenR ?_) | (refine L.inR ?_) | (refine L.ret ?_) | (refine L.skip ?_) | (apply c_condT; exact rfl; (first | exact rfl | assumption)) | (apply c_condF; exact rfl; (first | exact rfl | assumption))))
        all_goals (first | (apply L.ends1; exact rfl; exact rfl; exact rfl) | (apply L.ends2; exact rfl; exact rfl; exact rfl) | (apply L.ends3; exact rfl; exact rfl; exact rfl) | (apply L.ends1A; exact rfl; exact rfl; exact rfl) | (apply L.ends2A; exact rfl; exact rfl; exact rfl))
        rw [step_none hi hv]; rfl
      · have hlt : decide ((r.length : Int) < 4) = false := by simp; omega
        obtain ⟨c0, c1, c2, c3, t, rfl⟩ : ∃ c0 c1 c2 c3 t, r = c0 :: c1 :: c2 :: c3 :: t := by
          match r, hr with
          | [], h => simp at h
          | [_], h => simp at h
          | [_, _], h => simp at h
          | [_, _, _], h => simp at h
          | c0 :: c1 :: c2 :: c3 :: t, _ => exact ⟨c0, c1, c2, c3, t, rfl⟩
        have k0 := c0.toNat_lt
        have k1 := c1.toNat_lt
        have k2 := c2.toNat_lt
        have k3 := c3.toNat_lt
        have hv : valOne (2 :: c0 :: c1 :: c2 :: c3 :: t) = some (⟨1, dec4 (c0 :: c1 :: c2 :: c3 :: t), []⟩, t) := by simp [valOne]
        cases hg : goodM ⟨1, dec4 (c0 :: c1 :: c2 :: c3 :: t), []⟩ with
        | false =>
          have hng : (!goodM ⟨1, dec4 (c0 :: c1 :: c2 :: c3 :: t), []⟩) = true := by rw [hg]; rfl
          (repeat' (first | (refine LW.is ?_; first | ((apply s_indexS; exact rfl; exact rfl; exact rfl; decide; exact rfl)) | ((apply s_sliceSl; exact rfl; exact rfl; exact rfl; decide; (simp <;> omega); (first | (show _ = c0 :: c1 :: c2 :: c3 :: t; exact rfl) | (show _ = t; exact rfl)))) | ((apply s_call0; exact rfl; rotate_left; exact rfl; rotate_left 3; exact good_any ⟨1, dec4 (c0 :: c1 :: c2 :: c3 :: t), []⟩; exact rfl)) | (refine s_nil ?_) | (apply s_mvIv; exact rfl; exact rfl) | (apply s_asIv; exact rfl; exact rfl) | (apply s_asNil; exact rfl; exact rfl) | (apply s_fieldP; exact rfl; exact rfl; exact rfl) | (apply s_load1P; exact rfl; exact rfl; exact rfl; (apply n_some; exact rfl; (first | exact nIm rfl | exact nSl rfl | exact nIv rfl | exact nRow rfl | exact nNil rfl | exact nPtr rfl | exact nBsh rfl | exact nBsl rfl | exact nAny rfl | exact rfl))) | (apply s_loadAP; exact rfl; exact rfl; exact rfl; (focus repeat' (first | exact nl_nil rfl | (apply nl_cons; exact rfl) | exact nIm rfl | exact nSl rfl | exact nIv rfl | exact nRow rfl | exact nNil rfl | exact nPtr rfl | exact nBsh rfl | exact nBsl rfl | exact nAny rfl | exact nIIm rfl | exact nISl rfl | exact rfl)); exact rfl) | (apply s_lenS; exact rfl; exact rfl) | (apply s_eqlI; exact rfl; exact rfl; exact rfl) | (apply s_lssI; exact rfl; exact rfl; exact rfl) | (apply s_neqS; exact rfl; exact rfl; exact rfl) | (apply s_not; exact rfl; exact rfl) | (apply s_alloc; exact rfl; exact rfl; (focus repeat' (first | exact nl_nil rfl | (apply nl_cons; exact rfl) | exact nIm rfl | exact nSl rfl | exact nIv rfl | exact nRow rfl | exact nNil rfl | exact nPtr rfl | exact nBsh rfl | exact nBsl rfl | exact nAny rfl | exact nIIm rfl | exact nISl rfl | exact rfl)); exact rfl; exact rfl) | (apply s_build; exact rfl; exact rfl; (apply n_some; exact rfl; (focus repeat' (first | exact nl_nil rfl | (apply nl_cons; exact rfl) | exact nIm rfl | exact nSl rfl | exact nIv rfl | exact nRow rfl | exact nNil rfl | exact nPtr rfl | exact nBsh rfl | exact nBsl rfl | exact nAny rfl | exact nIIm rfl | exact nISl rfl | exact rfl)))) | (apply s_store; exact rfl; exact rfl; exact rfl; exact rfl; exact rfl; exact rfl; (focus repeat' (first | exact nl_nil rfl | (apply nl_cons; exact rfl) | exact nIm rfl | exact nSl rfl | exact nIv rfl | exact nRow rfl | exact nNil rfl | exact nPtr rfl | exact nBsh rfl | exact nBsl rfl | exact nAny rfl | exact nIIm rfl | exact nISl rfl | exact rfl))) | (apply s_subI; exact rfl; exact rfl; exact rfl; (first | omega | decide | (dsimp only; omega)); (first | omega | decide | (dsimp only; omega))) | (apply s_convU8; exact rfl; exact rfl)) | (refine DR.is ?_; first | ((apply d_indexS; exact rfl; exact rfl; exact rfl; decide; exact rfl)) | ((apply d_shlA (p := 16777216); exact rfl; exact rfl; exact rfl; decide; decide; omega; omega)) | ((apply d_shlA (p := 65536); exact rfl; exact rfl; exact rfl; decide; decide; omega; omega)) | ((apply d_shlA (p := 256); exact rfl; exact rfl; exact rfl; decide; decide; omega; omega)) | ((apply d_orA (a := (c0.toNat : Int)) (p := 16777216) 24; exact rfl; exact rfl; exact rfl; decide; omega; omega; omega; omega; omega)) | ((apply d_orA (a := (c0.toNat : Int) * 256 + c1.toNat) (p := 65536) 16; exact rfl; exact rfl; exact rfl; decide; omega; omega; omega; omega; omega)) | ((apply d_orA (a := (c0.toNat : Int) * 65536 + c1.toNat * 256 + c2.toNat) (p := 256) 8; exact rfl; exact rfl; exact rfl; decide; omega; omega; omega; omega; omega)) | (apply d_nil; kernel_rfl) | (apply d_mvIv; exact rfl; exact rfl) | (apply d_fieldP; exact rfl; exact rfl; exact rfl) | (apply d_store; exact rfl; exact rfl; exact rfl; exact rfl; exact rfl; exact rfl; (focus repeat' (first | exact nl_nil rfl | (apply nl_cons; exact rfl) | exact nIm rfl | exact nSl rfl | exact nIv rfl | exact nRow rfl | exact nNil rfl | exact nPtr rfl | exact nBsh rfl | exact nBsl rfl | exact nAny rfl | exact nIIm rfl | exact nISl rfl | exact rfl))) | (apply d_subI; exact rfl; exact rfl; exact rfl; (first | omega | decide | (dsimp only; omega)); (first | omega | decide | (dsimp only; omega))) | (apply d_convU8; exact rfl; exact rfl)) | (refine c_seq ?_) | (refine L.block ?_) | (refine s_region ?_) | (refine d_region ?_) | (refine L.thenN ?_) | (refine L.thenR ?_) | (refine L.inN ?_) | (refine L.inR ?_) | (refine L.ret ?_) | (refine L.skip ?_) | (apply c_condT; exact rfl; (first | exact rfl | assumption)) | (apply c_condF; exact rfl; (first | exact rfl | assumption))))
          all_goals (first | (apply L.ends1; exact rfl; exact rfl; exact rfl) | (apply L.ends2; exact rfl; exact rfl; exact rfl) | (apply L.ends3; exact rfl; exact rfl; exact rfl) | (apply L.ends1A; exact rfl; exact rfl; exact rfl) | (apply L.ends2A; exact rfl; exact rfl; exact rfl))
          rw [step_bad hi hv hg]; rfl
        | true =>
          have hng : (!goodM ⟨1, dec4 (c0 :: c1 :: c2 :: c3 :: t), []⟩) = false := by rw [hg]; rfl
          (repeat' (first | (refine LW.is ?_; first | ((apply s_indexS; exact rfl; exact rfl; exact rfl; decide; exact rfl)) | ((apply s_sliceSl; exact rfl; exact rfl; exact rfl; decide; (simp <;> omega); (first | (show _ = c0 :: c1 :: c2 :: c3 :: t; exact rfl) | (show _ = t; exact rfl)))) | ((apply s_call0; exact rfl; rotate_left; exact rfl; rotate_left 3; exact good_any ⟨1, dec4 (c0 :: c1 :: c2 :: c3 :: t), []⟩; exact rfl)) | (refine s_nil ?_) | (apply s_mvIv; exact rfl; exact rfl) | (apply s_mvRow; exact rfl; exact rfl) | (apply s_asIv; exact rfl; exact rfl) | (apply s_asRow; exact rfl; exact rfl) | (apply s_fieldP; exact rfl; exact rfl; exact rfl) | (apply s_load1P; exact rfl; exact rfl; exact rfl; (apply n_some; exact rfl; (first | exact nIm rfl | exact nSl rfl | exact nIv rfl | exact nRow rfl | exact nNil rfl | exact nPtr rfl | exact nBsh rfl | exact nBsl rfl | exact nAny rfl | exact rfl))) | (apply s_loadAP; exact rfl; exact rfl; exact rfl; (focus repeat' (first | exact nl_nil rfl | (apply nl_cons; exact rfl) | exact nIm rfl | exact nSl rfl | exact nIv rfl | exact nRow rfl | exact nNil rfl | exact nPtr rfl | exact nBsh rfl | exact nBsl rfl | exact nAny rfl | exact nIIm rfl | exact nISl rfl | exact rfl)); exact rfl) | (apply s_lenS; exact rfl; exact rfl) | (apply s_eqlI; exact rfl; exact rfl; exact rfl) | (apply s_lssI; exact rfl; exact rfl; exact rfl) | (apply s_neqS; exact rfl; exact rfl; exact rfl) | (apply s_not; exact rfl; exact rfl) | (apply s_alloc; exact rfl; exact rfl; (focus repeat' (first | exact nl_nil rfl | (apply nl_cons; exact rfl) | exact nIm rfl | exact nSl rfl | exact nIv rfl | exact nRow rfl | exact nNil rfl | exact nPtr rfl | exact nBsh rfl | exact nBsl rfl | exact nAny rfl | exact nIIm rfl | exact nISl rfl | exact rfl)); exact rfl; exact rfl) | (apply s_build; exact rfl; exact rfl; (apply n_some; exact rfl; (focus repeat' (first | exact nl_nil rfl | (apply nl_cons; exact rfl) | exact nIm rfl | exact nSl rfl | exact nIv rfl | exact nRow rfl | exact nNil rfl | exact nPtr rfl | exact nBsh rfl | exact nBsl rfl | exact nAny rfl | exact nIIm rfl | exact nISl rfl | exact rfl)))) | (apply s_bslice; exact rfl; exact rfl; exact rfl; exact rfl; exact rfl; (apply n_some; exact rfl; (focus repeat' (first | exact nl_nil rfl | (apply nl_cons; exact rfl) | exact nIm rfl | exact nSl rfl | exact nIv rfl | exact nRow rfl | exact nNil rfl | exact nPtr rfl | exact nBsh rfl | exact nBsl rfl | exact nAny rfl | exact nIIm rfl | exact nISl rfl | exact rfl))); (apply n_some; exact rfl; (focus repeat' (first | exact nl_nil rfl | (apply nl_cons; exact rfl) | exact nIm rfl | exact nSl rfl | exact nIv rfl | exact nRow rfl | exact nNil rfl | exact nPtr rfl | exact nBsh rfl | exact nBsl rfl | exact nAny rfl | exact nIIm rfl | exact nISl rfl | exact rfl))); exact rfl; (focus repeat' (first | exact nl_nil rfl | (apply nl_cons; exact rfl) | exact nIm rfl | exact nSl rfl | exact nIv rfl | exact nRow rfl | exact nNil rfl | exact nPtr rfl | exact nBsh rfl | exact nBsl rfl | exact nAny rfl | exact nIIm rfl | exact nISl rfl | exact rfl)); exact rfl) | (apply s_store; exact rfl; exact rfl; exact rfl; exact rfl; exact rfl; exact rfl; (focus repeat' (first | exact nl_nil rfl | (apply nl_cons; exact rfl) | exact nIm rfl | exact nSl rfl | exact nIv rfl | exact nRow rfl | exact nNil rfl | exact nPtr rfl | exact nBsh rfl | exact nBsl rfl | exact nAny rfl | exact nIIm rfl | exact nISl rfl | exact rfl))) | (apply s_subI; exact rfl; exact rfl; exact rfl; (first | omega | decide | (dsimp only; omega)); (first | omega | decide | (dsimp only; omega))) | (apply s_convU8; exact rfl; exact rfl) | (apply s_append; exact rfl; exact rfl; exact rfl; exact rfl; (focus repeat' (first | exact len_nil | apply len_app | (refine len_map (fun x => rfl)) | (refine len_cons rfl ?_) | exact len_chunks rfl | assumption)); (focus repeat' (first | exact len_nil | apply len_app | (refine len_map (fun x => rfl)) | (refine len_cons rfl ?_) | exact len_chunks rfl | assumption)); (first | (simp [maxLen, chunks_length]; done) | (simp [maxLen, chunks_length]; omega)); (first | (simp [maxLen, chunks_length]; done) | (simp [maxLen, chunks_length]; omega)); exact rfl; exact rfl)) | (refine DR.is ?_; first | ((apply d_indexS; exact rfl; exact rfl; exact rfl; decide; exact rfl)) | ((apply d_shlA (p := 16777216); exact rfl; exact rfl; exact rfl; decide; decide; omega; omega)) | ((apply d_shlA (p := 65536); exact rfl; exact rfl; exact rfl; decide; decide; omega; omega)) | ((apply d_shlA (p := 256); exact rfl; exact rfl; exact rfl; decide; decide; omega; omega)) | ((apply d_orA (a := (c0.toNat : Int)) (p := 16777216) 24; exact rfl; exact rfl; exact rfl; decide; omega; omega; omega; omega; omega)) | ((apply d_orA (a := (c0.toNat : Int) * 256 + c1.toNat) (p := 65536) 16; exact rfl; exact rfl; exact rfl; decide; omega; omega; omega; omega; omega)) | ((apply d_orA (a := (c0.toNat : Int) * 65536 + c1.toNat * 256 + c2.toNat) (p := 256) 8; exact rfl; exact rfl; exact rfl; decide; omega; omega; omega; omega; omega)) | (apply d_nil; kernel_rfl) | (apply d_mvIv; exact rfl; exact rfl) | (apply d_fieldP; exact rfl; exact rfl; exact rfl) | (apply d_store; exact rfl; exact rfl; exact rfl; exact rfl; exact rfl; exact rfl; (focus repeat' (first | exact nl_nil rfl | (apply nl_cons; exact rfl) | exact nIm rfl | exact nSl rfl | exact nIv rfl | exact nRow rfl | exact nNil rfl | exact nPtr rfl | exact nBsh rfl | exact nBsl rfl | exact nAny rfl | exact nIIm rfl | exact nISl rfl | exact rfl))) | (apply d_subI; exact rfl; exact rfl; exact rfl; (first | omega | decide | (dsimp only; omega)); (first | omega | decide | (dsimp only; omega))) | (apply d_convU8; exact rfl; exact rfl)) | (refine c_seq ?_) | (refine L.block ?_) | (refine s_region ?_) | (refine d_region ?_) | (refine L.thenN ?_) | (refine L.inN ?_) | (refine L.skip ?_) | (apply c_condT; exact rfl; (first | exact rfl | assumption)) | (apply c_condF; exact rfl; (first | exact rfl | assumption))))
          refine L.only [4, 0] ?_
          refine L.retok 4 79 4 rfl rfl rfl rfl ?_
          refine hK _ (acc ++ [⟨1, dec4 (c0 :: c1 :: c2 :: c3 :: t), []⟩], t) ⟨step_some hi hv hg, by simp at hl ⊢ <;> omega⟩ (by simp <;> omega) (Wk.mk' (by intro id h; cases h) (.cons rfl (Sub.of_eq (congrArg (AV.row 4) ?_)) (.cons rfl (Sub.refl _) .nil)) .nil (.cons rfl .nil))
          simp [chunks, Val.c, dec4]
    by_cases h3 : b = 3
    · subst h3
      (repeat' (first | (refine LW.is ?_; first | ((apply s_indexS; exact rfl; exact rfl; exact rfl; decide; exact rfl)) | ((apply s_sliceSl; exact rfl; exact rfl; exact rfl; decide; (simp <;> omega); (show _ = r; exact rfl))) | (refine s_nil ?_) | (apply s_mvIv; exact rfl; exact rfl) | (apply s_asIv; exact rfl; exact rfl) | (apply s_fieldP; exact rfl; exact rfl; exact rfl) | (apply s_load1P; exact rfl; exact rfl; exact rfl; (apply n_some; exact rfl; (first | exact nIm rfl | exact nSl rfl | exact nIv rfl | exact nRow rfl | exact nNil rfl | exact nPtr rfl | exact nBsh rfl | exact nBsl rfl | exact nAny rfl | exact rfl))) | (apply s_eqlI; exact rfl; exact rfl; exact rfl) | (apply s_neqS; exact rfl; exact rfl; exact rfl) | (apply s_alloc; exact rfl; exact rfl; (focus repeat' (first | exact nl_nil rfl | (apply nl_cons; exact rfl) | exact nIm rfl | exact nSl rfl | exact nIv rfl | exact nRow rfl | exact nNil rfl | exact nPtr rfl | exact nBsh rfl | exact nBsl rfl | exact nAny rfl | exact nIIm rfl | exact nISl rfl | exact rfl)); exact rfl; exact rfl) | (apply s_build; exact rfl; exact rfl; (apply n_some; exact rfl; (focus repeat' (first | exact nl_nil rfl | (apply nl_cons; exact rfl) | exact nIm rfl | exact nSl rfl | exact nIv rfl | exact nRow rfl | exact nNil rfl | exact nPtr rfl | exact nBsh rfl | exact nBsl rfl | exact nAny rfl | exact nIIm rfl | exact nISl rfl | exact rfl)))) | (apply s_store; exact rfl; exact rfl; exact rfl; exact rfl; exact rfl; exact rfl; (focus repeat' (first | exact nl_nil rfl | (apply nl_cons; exact rfl) | exact nIm rfl | exact nSl rfl | exact nIv rfl | exact nRow rfl | exact nNil rfl | exact nPtr rfl | exact nBsh rfl | exact nBsl rfl | exact nAny rfl | exact nIIm rfl | exact nISl rfl | exact rfl))) | (apply s_subI; exact rfl; exact rfl; exact rfl; (first | omega | decide | (dsimp only; omega)); (first | omega | decide | (dsimp only; omega))) | (apply s_convU8; exact rfl; exact rfl)) | (refine c_seq ?_) | (refine L.block ?_) | (refine s_region ?_) | (refine L.thenN ?_) | (refine L.skip ?_) | (apply c_condT; exact rfl; (first | exact rfl | assumption)) | (apply c_condF; exact rfl; (first | exact rfl | assumption))))
      have hule := upto0_le r
      refine L.loopP (ι := Nat) (fun j => ⟨[(6, aI (j : Int)), (5, .ptr 5 0), (4, .row 4 (acc.map Val.c)), (0, aS r)], [(5, ⟨32, .l [.iv (I 2), .iv (I 0), .iv (S [])]⟩)], [(4, ⟨32, 3⟩)]⟩) (fun j => r.length - j) (fun j => j ≤ (upto0 r).length) (i0 := 0) ?_ (Nat.zero_le _) ?_
      · (refine Wk.mk' (by intro id h; cases h) ?_ ?_ ?_ <;> repeat' (first | exact WkF.nil | exact WkB.nil | exact WkT.nil | (refine WkF.cons rfl (Sub.refl _) ?_) | (refine WkB.cons rfl rfl (Subs.refl _) ?_) | (refine WkT.cons rfl ?_)))
      intro j hj K2 hK2
      cases hc : r[j]? with
      | none =>
        have hlt := ltF hc
        have hjl : r.length ≤ j := List.getElem?_eq_none_iff.1 hc
        have hju : (upto0 r).length = r.length := by omega
        have hv : valOne (3 :: r) = none := by simp [valOne, hju]
        have hjr : ((j : Int) == (r.length : Int)) = true := by simp; omega
        (repeat' (first | (refine LW.is ?_; first | (refine s_nil ?_) | (apply s_mvIv; exact rfl; exact rfl) | (apply s_asIv; exact rfl; exact rfl) | (apply s_asNil; exact rfl; exact rfl) | (apply s_lenS; exact rfl; exact rfl) | (apply s_eqlI; exact rfl; exact rfl; exact rfl) | (apply s_lssI; exact rfl; exact rfl; exact rfl) | (apply s_gskipT; exact rfl; exact rfl; exact rfl; (first | exact rfl | assumption)) | (apply s_pickFIv; exact rfl; exact rfl; (first | exact rfl | assumption); exact rfl)) | (refine c_seq ?_) | (refine s_region ?_) | (refine L.thenN ?_) | (refine L.thenE ?_) | (refine L.thenR ?_) | (refine L.inR ?_) | (refine L.inE ?_) | (refine L.ret ?_) | (refine L.exit ?_) | (apply c_condT; exact rfl; (first | exact rfl | assumption)) | (apply c_condF; exact rfl; (first | exact rfl | assumption))))
        all_goals (first | (apply L.ends1; exact rfl; exact rfl; exact rfl) | (apply L.ends2; exact rfl; exact rfl; exact rfl) | (apply L.ends3; exact rfl; exact rfl; exact rfl) | (apply L.ends1A; exact rfl; exact rfl; exact rfl) | (apply L.ends2A; exact rfl; exact rfl; exact rfl))
        rw [step_none hi hv]; rfl
      | some c =>
        have hlt := ltT hc
        have hjl := ltN hc
        by_cases hz : c = 0
        · subst hz
          have hju := upto0_zero hc hj
          have htk : r.take j = upto0 r := by rw [← hju]; exact upto0_take r
          have hjr : ((j : Int) == (r.length : Int)) = false := by simp; omega
          have hv : valOne (3 :: r) = some (⟨2, 0, r.take j⟩, r.drop (j + 1)) := by
            have : ¬ (upto0 r).length = r.length := by omega
            simp only [valOne]
            rw [if_neg (by decide), if_neg (by decide), if_pos (by decide), if_neg this, hju, htk]
          cases hg : goodM ⟨2, 0, r.take j⟩ with
          | false =>
            have hng : (!goodM ⟨2, 0, r.take j⟩) = true := by rw [hg]; rfl
            (repeat' (first | (refine LW.is ?_; first | ((apply s_call0; exact rfl; rotate_left; exact rfl; rotate_left 3; exact good_any ⟨2, 0, r.take j⟩; exact rfl)) | (refine s_nil ?_) | (apply s_mvIv; exact rfl; exact rfl) | (apply s_asIv; exact rfl; exact rfl) | (apply s_asNil; exact rfl; exact rfl) | (apply s_loadAP; exact rfl; exact rfl; exact rfl; (focus repeat' (first | exact nl_nil rfl | (apply nl_cons; exact rfl) | exact nIm rfl | exact nSl rfl | exact nIv rfl | exact nRow rfl | exact nNil rfl | exact nPtr rfl | exact nBsh rfl | exact nBsl rfl | exact nAny rfl | exact nIIm rfl | exact nISl rfl | exact rfl)); exact rfl) | (apply s_lenS; exact rfl; exact rfl) | (apply s_eqlI; exact rfl; exact rfl; exact rfl) | (apply s_neqI; exact rfl; exact rfl; exact rfl) | (apply s_lssI; exact rfl; exact rfl; exact rfl) | (apply s_not; exact rfl; exact rfl) | (apply s_indexS; exact rfl; exact rfl; exact rfl; (first | omega | decide | (dsimp only; omega)); (exact getS (by assumption))) | (apply s_gdo; exact rfl; exact rfl; (first | exact rfl | assumption)) | (apply s_pickTIv; exact rfl; exact rfl; (first | exact rfl | assumption); exact rfl)) | (refine DR.is ?_; first | ((apply d_sliceSh; exact rfl; exact rfl; exact rfl; omega; omega; (show _ = r.take j; exact rfl))) | ((apply d_sliceSl; exact rfl; exact rfl; exact rfl; omega; omega; (show _ = r.drop (j + 1); exact rfl))) | (apply d_nil; kernel_rfl) | (apply d_mvIv; exact rfl; exact rfl) | (apply d_asIv; exact rfl; exact rfl) | (apply d_fieldP; exact rfl; exact rfl; exact rfl) | (apply d_store; exact rfl; exact rfl; exact rfl; exact rfl; exact rfl; exact rfl; (focus repeat' (first | exact nl_nil rfl | (apply nl_cons; exact rfl) | exact nIm rfl | exact nSl rfl | exact nIv rfl | exact nRow rfl | exact nNil rfl | exact nPtr rfl | exact nBsh rfl | exact nBsl rfl | exact nAny rfl | exact nIIm rfl | exact nISl rfl | exact rfl))) | (apply d_addI; exact rfl; exact rfl; exact rfl; (first | omega | decide | (dsimp only; omega)); (first | omega | decide | (dsimp only; omega)))) | (refine c_seq ?_) | (refine s_region ?_) | (refine d_region ?_) | (refine L.thenN ?_) | (refine L.thenE ?_) | (refine L.thenR ?_) | (refine L.inN ?_) | (refine L.inR ?_) | (refine L.inE ?_) | (refine L.ret ?_) | (refine L.exit ?_) | (refine L.skip ?_) | (apply c_condT; exact rfl; (first | exact rfl | assumption)) | (apply c_condF; exact rfl; (first | exact rfl | assumption))))
            all_goals (first | (apply L.ends1; exact rfl; exact rfl; exact rfl) | (apply L.ends2; exact rfl; exact rfl; exact rfl) | (apply L.ends3; exact rfl; exact rfl; exact rfl) | (apply L.ends1A; exact rfl; exact rfl; exact rfl) | (apply L.ends2A; exact rfl; exact rfl; exact rfl))
            rw [step_bad hi hv hg]; rfl
          | true =>
            have hng : (!goodM ⟨2, 0, r.take j⟩) = false := by rw [hg]; rfl
            (repeat' (first | (refine LW.is ?_; first | ((apply s_call0; exact rfl; rotate_left; exact rfl; rotate_left 3; exact good_any ⟨2, 0, r.take j⟩; exact rfl)) | (refine s_nil ?_) | (apply s_mvIv; exact rfl; exact rfl) | (apply s_mvRow; exact rfl; exact rfl) | (apply s_asRow; exact rfl; exact rfl) | (apply s_loadAP; exact rfl; exact rfl; exact rfl; (focus repeat' (first | exact nl_nil rfl | (apply nl_cons; exact rfl) | exact nIm rfl | exact nSl rfl | exact nIv rfl | exact nRow rfl | exact nNil rfl | exact nPtr rfl | exact nBsh rfl | exact nBsl rfl | exact nAny rfl | exact nIIm rfl | exact nISl rfl | exact rfl)); exact rfl) | (apply s_lenS; exact rfl; exact rfl) | (apply s_eqlI; exact rfl; exact rfl; exact rfl) | (apply s_neqI; exact rfl; exact rfl; exact rfl) | (apply s_lssI; exact rfl; exact rfl; exact rfl) | (apply s_not; exact rfl; exact rfl) | (apply s_bslice; exact rfl; exact rfl; exact rfl; exact rfl; exact rfl; (apply n_some; exact rfl; (focus repeat' (first | exact nl_nil rfl | (apply nl_cons; exact rfl) | exact nIm rfl | exact nSl rfl | exact nIv rfl | exact nRow rfl | exact nNil rfl | exact nPtr rfl | exact nBsh rfl | exact nBsl rfl | exact nAny rfl | exact nIIm rfl | exact nISl rfl | exact rfl))); (apply n_some; exact rfl; (focus repeat' (first | exact nl_nil rfl | (apply nl_cons; exact rfl) | exact nIm rfl | exact nSl rfl | exact nIv rfl | exact nRow rfl | exact nNil rfl | exact nPtr rfl | exact nBsh rfl | exact nBsl rfl | exact nAny rfl | exact nIIm rfl | exact nISl rfl | exact rfl))); exact rfl; (focus repeat' (first | exact nl_nil rfl | (apply nl_cons; exact rfl) | exact nIm rfl | exact nSl rfl | exact nIv rfl | exact nRow rfl | exact nNil rfl | exact nPtr rfl | exact nBsh rfl | exact nBsl rfl | exact nAny rfl | exact nIIm rfl | exact nISl rfl | exact rfl)); exact rfl) | (apply s_indexS; exact rfl; exact rfl; exact rfl; (first | omega | decide | (dsimp only; omega)); (exact getS (by assumption))) | (apply s_append; exact rfl; exact rfl; exact rfl; exact rfl; (focus repeat' (first | exact len_nil | apply len_app | (refine len_map (fun x => rfl)) | (refine len_cons rfl ?_) | exact len_chunks rfl | assumption)); (focus repeat' (first | exact len_nil | apply len_app | (refine len_map (fun x => rfl)) | (refine len_cons rfl ?_) | exact len_chunks rfl | assumption)); (first | (simp [maxLen, chunks_length]; done) | (simp [maxLen, chunks_length]; omega)); (first | (simp [maxLen, chunks_length]; done) | (simp [maxLen, chunks_length]; omega)); exact rfl; exact rfl) | (apply s_gdo; exact rfl; exact rfl; (first | exact rfl | assumption)) | (apply s_pickTIv; exact rfl; exact rfl; (first | exact rfl | assumption); exact rfl)) | (refine DR.is ?_; first | ((apply d_sliceSh; exact rfl; exact rfl; exact rfl; omega; omega; (show _ = r.take j; exact rfl))) | ((apply d_sliceSl; exact rfl; exact rfl; exact rfl; omega; omega; (show _ = r.drop (j + 1); exact rfl))) | (apply d_nil; kernel_rfl) | (apply d_mvIv; exact rfl; exact rfl) | (apply d_asIv; exact rfl; exact rfl) | (apply d_fieldP; exact rfl; exact rfl; exact rfl) | (apply d_store; exact rfl; exact rfl; exact rfl; exact rfl; exact rfl; exact rfl; (focus repeat' (first | exact nl_nil rfl | (apply nl_cons; exact rfl) | exact nIm rfl | exact nSl rfl | exact nIv rfl | exact nRow rfl | exact nNil rfl | exact nPtr rfl | exact nBsh rfl | exact nBsl rfl | exact nAny rfl | exact nIIm rfl | exact nISl rfl | exact rfl))) | (apply d_addI; exact rfl; exact rfl; exact rfl; (first | omega | decide | (dsimp only; omega)); (first | omega | decide | (dsimp only; omega)))) | (refine c_seq ?_) | (refine s_region ?_) | (refine d_region ?_) | (refine L.thenN ?_) | (refine L.thenE ?_) | (refine L.inN ?_) | (refine L.inE ?_) | (refine L.exit ?_) | (refine L.skip ?_) | (apply c_condF; exact rfl; (first | exact rfl | assumption))))
            refine L.only [4, 0] ?_
            refine L.retok 4 79 4 rfl rfl rfl rfl ?_
            refine hK _ (acc ++ [⟨2, 0, r.take j⟩], r.drop (j + 1)) ⟨step_some hi hv hg, by simp at hl ⊢ <;> omega⟩ (by simp <;> omega) (Wk.mk' (by intro id h; cases h) (.cons rfl (Sub.of_eq (congrArg (AV.row 4) ?_)) (.cons rfl (Sub.refl _) .nil)) .nil (.cons rfl .nil))
            simp [chunks, Val.c]
        · have hnz : ((c.toNat : Int) != 0) = true := by
            have : c.toNat ≠ 0 := fun h => hz (UInt8.toNat_inj.1 h)
            simpa using this
          have hnx := upto0_next hc hz hj
          (repeat' (first | (refine LW.is ?_; first | (refine s_nil ?_) | (apply s_mvIv; exact rfl; exact rfl) | (apply s_asIv; exact rfl; exact rfl) | (apply s_lenS; exact rfl; exact rfl) | (apply s_neqI; exact rfl; exact rfl; exact rfl) | (apply s_lssI; exact rfl; exact rfl; exact rfl) | (apply s_addI; exact rfl; exact rfl; exact rfl; (first | omega | decide | (dsimp only; omega)); (first | omega | decide | (dsimp only; omega))) | (apply s_indexS; exact rfl; exact rfl; exact rfl; (first | omega | decide | (dsimp only; omega)); (exact getS (by assumption))) | (apply s_gdo; exact rfl; exact rfl; (first | exact rfl | assumption)) | (apply s_pickTIv; exact rfl; exact rfl; (first | exact rfl | assumption); exact rfl)) | (refine c_seq ?_) | (refine L.block ?_) | (refine s_region ?_) | (refine L.thenN ?_) | (refine L.inN ?_) | (refine L.skip ?_) | (apply c_condT; exact rfl; (first | exact rfl | assumption))))
          refine hK2 _ (j + 1) hnx (by omega) ?_
          (refine Wk.mk' (by intro id h; cases h) ?_ ?_ ?_ <;> repeat' (first | exact WkF.nil | exact WkB.nil | exact WkT.nil | (refine WkF.cons rfl (Sub.refl _) ?_) | (refine WkB.cons rfl rfl (Subs.refl _) ?_) | (refine WkT.cons rfl ?_)))
    · have hb := b.toNat_lt
      have n1 : b.toNat ≠ 1 := fun h => h1 (UInt8.toNat_inj.1 h)
      have n2 : b.toNat ≠ 2 := fun h => h2 (UInt8.toNat_inj.1 h)
      have n3 : b.toNat ≠ 3 := fun h => h3 (UInt8.toNat_inj.1 h)
      have hv : valOne (b :: r) = none := by simp [valOne, n1, n2, n3]
      have q1 : ((b.toNat : Int) - 1 == 0) = false := by simp; omega
      have q2 : ((b.toNat : Int) - 1 == 1) = false := by simp; omega
      have q3 : ((b.toNat : Int) - 1 == 2) = false := by simp; omega
      have hg : goodM ⟨(b.toNat : Int) - 1, 0, []⟩ = false := by
        unfold goodM
        rw [if_neg (by simpa using q1), if_neg (by simpa using q2), if_neg (by simpa using q3)]
      have hng : (!goodM ⟨(b.toNat : Int) - 1, 0, []⟩) = true := by rw [hg]; rfl
      (repeat' (first | (refine LW.is ?_; first | ((apply s_indexS; exact rfl; exact rfl; exact rfl; decide; exact rfl)) | ((apply s_sliceSl; exact rfl; exact rfl; exact rfl; decide; (simp <;> omega); (show _ = r; exact rfl))) | ((apply s_call0; exact rfl; rotate_left; exact rfl; rotate_left 3; exact good_any ⟨(b.toNat : Int) - 1, 0, []⟩; exact rfl)) | (refine s_nil ?_) | (apply s_mvIv; exact rfl; exact rfl) | (apply s_asIv; exact rfl; exact rfl) | (apply s_asNil; exact rfl; exact rfl) | (apply s_fieldP; exact rfl; exact rfl; exact rfl) | (apply s_load1P; exact rfl; exact rfl; exact rfl; (apply n_some; exact rfl; (first | exact nIm rfl | exact nSl rfl | exact nIv rfl | exact nRow rfl | exact nNil rfl | exact nPtr rfl | exact nBsh rfl | exact nBsl rfl | exact nAny rfl | exact rfl))) | (apply s_loadAP; exact rfl; exact rfl; exact rfl; (focus repeat' (first | exact nl_nil rfl | (apply nl_cons; exact rfl) | exact nIm rfl | exact nSl rfl | exact nIv rfl | exact nRow rfl | exact nNil rfl | exact nPtr rfl | exact nBsh rfl | exact nBsl rfl | exact nAny rfl | exact nIIm rfl | exact nISl rfl | exact rfl)); exact rfl) | (apply s_eqlI; exact rfl; exact rfl; exact rfl) | (apply s_neqS; exact rfl; exact rfl; exact rfl) | (apply s_not; exact rfl; exact rfl) | (apply s_alloc; exact rfl; exact rfl; (focus repeat' (first | exact nl_nil rfl | (apply nl_cons; exact rfl) | exact nIm rfl | exact nSl rfl | exact nIv rfl | exact nRow rfl | exact nNil rfl | exact nPtr rfl | exact nBsh rfl | exact nBsl rfl | exact nAny rfl | exact nIIm rfl | exact nISl rfl | exact rfl)); exact rfl; exact rfl) | (apply s_build; exact rfl; exact rfl; (apply n_some; exact rfl; (focus repeat' (first | exact nl_nil rfl | (apply nl_cons; exact rfl) | exact nIm rfl | exact nSl rfl | exact nIv rfl | exact nRow rfl | exact nNil rfl | exact nPtr rfl | exact nBsh rfl | exact nBsl rfl | exact nAny rfl | exact nIIm rfl | exact nISl rfl | exact rfl)))) | (apply s_store; exact rfl; exact rfl; exact rfl; exact rfl; exact rfl; exact rfl; (focus repeat' (first | exact nl_nil rfl | (apply nl_cons; exact rfl) | exact nIm rfl | exact nSl rfl | exact nIv rfl | exact nRow rfl | exact nNil rfl | exact nPtr rfl | exact nBsh rfl | exact nBsl rfl | exact nAny rfl | exact nIIm rfl | exact nISl rfl | exact rfl))) | (apply s_subI; exact rfl; exact rfl; exact rfl; (first | omega | decide | (dsimp only; omega)); (first | omega | decide | (dsimp only; omega))) | (apply s_convU8; exact rfl; exact rfl)) | (refine c_seq ?_) | (refine L.block ?_) | (refine s_region ?_) | (refine L.thenN ?_) | (refine L.thenR ?_) | (refine L.inN ?_) | (refine L.inR ?_) | (refine L.ret ?_) | (refine L.skip ?_) | (apply c_condT; exact rfl; (first | exact rfl | assumption)) | (apply c_condF; exact rfl; (first | exact rfl | assumption))))
      all_goals (first | (apply L.ends1; exact rfl; exact rfl; exact rfl) | (apply L.ends2; exact rfl; exact rfl; exact rfl) | (apply L.ends3; exact rfl; exact rfl; exact rfl) | (apply L.ends1A; exact rfl; exact rfl; exact rfl) | (apply L.ends2A; exact rfl; exact rfl; exact rfl))
      rw [step_none hi hv]; rfl
end Go.Proofs.YthkobnpogigkiaaDoor
/- Values: 'values' answers true; the law ValueTruths answers true. Conditions: none. -/
namespace Go.Proofs.YthkobnpogigkiaaDoor
open Go.Abs
attribute [local irreducible] L Code.wp bodyPost Exit.then Exit.inBlock
set_option linter.unusedVariables false
set_option linter.unusedSimpArgs false
end Go.Proofs.YthkobnpogigkiaaDoor
/- Values, plain laws: a key leads back to its values, and values to their key. Conditions: none. -/
namespace Go.Proofs.YthkobnpogigkiaaDoor
open Go.Abs
set_option linter.unusedVariables false
set_option linter.unusedSimpArgs false
theorem charOk_ne {b : UInt8} (h : charOk b = true) : b ≠ 0 := by
  intro e; subst e; simp [charOk] at h
theorem upto0_app {s r : List UInt8} (h : s.all charOk = true) : upto0 (s ++ 0 :: r) = s := by
  induction s with
  | nil => simp [upto0]
  | cons b s ih =>
    simp only [List.all_cons, Bool.and_eq_true] at h
    have := charOk_ne h.1
    have ih := ih h.2
    unfold upto0 at ih ⊢
    simp [this, ih]
theorem u8_nat {n : Int} (h0 : 0 ≤ n) : ((u8 n).toNat : Int) = n % 256 := by rw [u8_wrap, IntKind.wrap_u8]
theorem dec4_be4 {x : Int} (h0 : 0 ≤ x) (h1 : x < 4294967296) (r : List UInt8) : dec4 (be4 x ++ r) = x - 1073741824 := by
  have e0 := u8_nat (n := x / 16777216) (by omega)
  have e1 := u8_nat (n := x / 65536) (by omega)
  have e2 := u8_nat (n := x / 256) (by omega)
  have e3 := u8_nat (n := x) (by omega)
  simp only [dec4, be4, List.cons_append, List.getD_cons_zero, List.getD_cons_succ]
  omega
theorem good_cases {v : Val} (h : goodM v = true) : v = ⟨0, 0, []⟩ ∨ (∃ n : Int, v = ⟨1, n, []⟩ ∧ -1000000 ≤ n ∧ n ≤ 1000000) ∨ ∃ s, v = ⟨2, 0, s⟩ ∧ s.length ≤ 8 ∧ s.all charOk = true := by
  obtain ⟨k, n, s⟩ := v
  unfold goodM at h
  split at h
  · rename_i h0
    simp at h h0
    left; simp [h, h0]
  · split at h
    · rename_i h0
      simp at h h0
      right; left; exact ⟨n, by simp [h, h0], h.2⟩
    · split at h
      · rename_i h0
        simp only [Bool.and_eq_true, beq_iff_eq, decide_eq_true_eq] at h
        simp only at h0
        right; right; exact ⟨s, by simp [h.1, h0], h.2⟩
      · cases h
theorem keyOne0 : keyOne ⟨0, 0, []⟩ = [1] := by simp [keyOne, u8, IntKind.wrap_u8]
theorem keyOne1 (n : Int) : keyOne ⟨1, n, []⟩ = 2 :: be4 (n + 1073741824) := by simp [keyOne, u8, IntKind.wrap_u8]
theorem keyOne2 (s : List UInt8) : keyOne ⟨2, 0, s⟩ = 3 :: (s ++ [0]) := by simp [keyOne, u8, IntKind.wrap_u8]
theorem valOne2 (s : List UInt8) : valOne (2 :: s) = if s.length < 4 then none else some (⟨1, dec4 s, []⟩, s.drop 4) := by
  simp only [valOne]; rw [if_neg (by decide), if_pos (by decide)]
theorem valOne3 (s : List UInt8) : valOne (3 :: s) = if (upto0 s).length = s.length then none else some (⟨2, 0, upto0 s⟩, s.drop ((upto0 s).length + 1)) := by
  simp only [valOne]; rw [if_neg (by decide), if_neg (by decide), if_pos (by decide)]
theorem valOne_key {v : Val} (h : goodM v = true) (r : List UInt8) : valOne (keyOne v ++ r) = some (v, r) := by
  rcases good_cases h with rfl | ⟨n, rfl, h0, h1⟩ | ⟨s, rfl, hl, hs⟩
  · rw [keyOne0]; rfl
  · rw [keyOne1]
    have hl : ¬ (be4 (n + 1073741824) ++ r).length < 4 := by simp [be4]
    have e : dec4 (be4 (n + 1073741824) ++ r) = n := by rw [dec4_be4 (by omega) (by omega)]; omega
    have ed : (be4 (n + 1073741824) ++ r).drop 4 = r := by simp [be4]
    show valOne (2 :: (be4 (n + 1073741824) ++ r)) = _
    rw [valOne2, if_neg hl, e, ed]
  · rw [keyOne2]
    have hu : upto0 ((s ++ [0]) ++ r) = s := by
      have := upto0_app (r := r) hs
      simpa using this
    have hl : ¬ (upto0 ((s ++ [0]) ++ r)).length = ((s ++ [0]) ++ r).length := by rw [hu]; simp
    have ed : ((s ++ [0]) ++ r).drop (s.length + 1) = r := by
      rw [List.drop_append_of_le_length (by simp)]; simp
    show valOne (3 :: ((s ++ [0]) ++ r)) = _
    rw [valOne3, if_neg hl, hu, ed]
theorem valsM_key : ∀ {vs : List Val}, vs.all goodM = true → valsM (vs.flatMap keyOne) = some vs
  | [], _ => valsM_nil
  | v :: vs, h => by
    simp only [List.all_cons, Bool.and_eq_true] at h
    rw [List.flatMap_cons, valsM_some (valOne_key h.1 _), if_pos h.1, valsM_key h.2]; rfl
end Go.Proofs.YthkobnpogigkiaaDoor
/- Values: what 'same' computes; the law ValueBack answers true. Conditions: how much there is of what comes in. -/
namespace Go.Proofs.YthkobnpogigkiaaDoor
open Go.Abs
attribute [local irreducible] L Code.wp bodyPost Exit.then Exit.inBlock
set_option linter.unusedVariables false
set_option linter.unusedSimpArgs false
end Go.Proofs.YthkobnpogigkiaaDoor
/- Values: what Compare computes. Conditions: none. -/
namespace Go.Proofs.YthkobnpogigkiaaDoor
open Go.Abs
attribute [local irreducible] L Code.wp bodyPost Exit.then Exit.inBlock
set_option linter.unusedVariables false
set_option linter.unusedSimpArgs false
def cmpI (a b : Int) : Int := if a < b then -1 else if b < a then 1 else 0
def cmpS (a b : List UInt8) : Int := if Op.bytesLess a b then -1 else if Op.bytesLess b a then 1 else 0
def orL : List Int → Int
  | [] => 0
  | x :: l => if x = 0 then orL l else x
def cmpM (v w : Val) : Int := orL [cmpI v.k w.k, cmpI v.n w.n, cmpS v.s w.s]
theorem less_lt : ∀ (x y : List UInt8), Op.bytesLess x y = decide (x < y) := by
  intro x
  induction x with
  | nil => intro y; cases y <;> simp [Op.bytesLess]
  | cons a x ih =>
    intro y
    cases y with
    | nil => simp [Op.bytesLess]
    | cons b y =>
      unfold Op.bytesLess
      rw [ih y, Bool.eq_iff_iff]
      simp [List.cons_lt_cons_iff]
end Go.Proofs.YthkobnpogigkiaaDoor
/- Expressions: what Of, Truth, num and two compute. Conditions: none. -/
namespace Go.Proofs.YthkobnpogigkiaaDoor
open Go.Abs
attribute [local irreducible] L Code.wp bodyPost Exit.then Exit.inBlock
set_option linter.unusedVariables false
set_option linter.unusedSimpArgs false
def nilV : Val := ⟨0, 0, []⟩
end Go.Proofs.YthkobnpogigkiaaDoor
/- Expressions: what two computes. Conditions: none. -/
namespace Go.Proofs.YthkobnpogigkiaaDoor
open Go.Abs
attribute [local irreducible] L Code.wp bodyPost Exit.then Exit.inBlock
set_option linter.unusedVariables false
set_option linter.unusedSimpArgs false
end Go.Proofs.YthkobnpogigkiaaDoor
/- Expressions: what Eval computes. Conditions: how much there is of what comes in. -/
namespace Go.Proofs.YthkobnpogigkiaaDoor
open Go.Abs
attribute [local irreducible] L Code.wp bodyPost Exit.then Exit.inBlock
set_option linter.unusedVariables false
set_option linter.unusedSimpArgs false
end Go.Proofs.YthkobnpogigkiaaDoor
/- The laid variables that the walks read, as published cells. Conditions: none. -/
namespace Go.Proofs.YthkobnpogigkiaaDoor
open Go.Abs
def words : List (List UInt8) := [[97, 110, 100], [98, 121], [99, 114, 101, 97, 116, 101], [100, 101, 108, 101, 116, 101], [100, 101, 115, 99], [100, 114, 111, 112], [102, 114, 111, 109], [105, 110, 100, 101, 120], [105, 110, 115, 101, 114, 116], [105, 110, 116], [105, 110, 116, 111], [105, 115], [108, 105, 109, 105, 116], [109, 117, 115, 116], [110, 111, 116], [110, 117, 108, 108], [111, 110], [111, 114], [111, 114, 100, 101, 114], [115, 101, 108, 101, 99, 116], [115, 101, 116], [116, 97, 98, 108, 101], [116, 101, 120, 116], [117, 112, 100, 97, 116, 101], [118, 97, 108, 117, 101, 115], [119, 104, 101, 114, 101]]
def maxG (m : Int) : Nat × List IV := (1, [I m])
attribute [irreducible] words
end Go.Proofs.YthkobnpogigkiaaDoor
/- Trees: what isNaN, Less, Good and Size compute. Conditions: how much there is of what comes in. -/
namespace Go.Proofs.YthkobnpogigkiaaDoor
open Go.Abs
attribute [local irreducible] L Code.wp bodyPost Exit.then Exit.inBlock
set_option linter.unusedVariables false
set_option linter.unusedSimpArgs false
abbrev Str := List UInt8
def Str.c (s : Str) : List IV := [S s]
structure Pg where
  ks : List Str
  vs : List Str
def Pg.c (p : Pg) : List IV := [.sl (p.ks.map Str.c), .sl (p.vs.map Str.c)]
theorem ltS {x y : Str} : Op.bytesLess x y = decide (x < y) := by
  induction x generalizing y with
  | nil => cases y <;> simp [Op.bytesLess]
  | cons a x ih =>
    cases y with
    | nil => simp [Op.bytesLess]
    | cons b y =>
      unfold Op.bytesLess
      rw [ih, Bool.eq_iff_iff]
      simp [List.cons_lt_cons_iff]
theorem leS {x y : Str} : (Op.bytesLess x y || x == y) = decide (x ≤ y) := by
  rw [ltS, Bool.eq_iff_iff]
  simp only [Bool.or_eq_true, decide_eq_true_eq, beq_iff_eq]
  constructor
  · rintro (h | rfl)
    · exact List.not_lt.1 (List.lt_asymm h)
    · exact List.not_lt.1 (List.lt_irrefl _)
  · intro h
    by_cases h1 : x < y
    · exact .inl h1
    · exact .inr (List.le_antisymm h (List.not_lt.1 h1))
def risesM : Option Str → List Str → Bool
  | _, [] => true
  | some a, s :: l => decide (a < s) && risesM (some s) l
  | none, s :: l => risesM (some s) l
def lastM : Option Str → List Str → Option Str
  | o, [] => o
  | _, s :: l => lastM (some s) l
def goodT : Option Str → List Pg → Bool
  | _, [] => true
  | o, p :: ps => decide (1 ≤ p.ks.length) && (decide (p.ks.length ≤ 4) && (decide (p.vs.length = p.ks.length) && (risesM o p.ks && goodT (lastM o p.ks) ps)))
def goodTree (ps : List Pg) : Bool := goodT none ps
theorem nanS2_any (a : Str) : CallA Tryd.prog 106 [aS a] [] [] [] (aB false) := by
  refine CallA.intro _ Tryd.func106 rfl Tryd.ntmps106 rfl (fun w0 E0 => ?_)
  (repeat' (first | (refine LW.is ?_; first | (refine s_nil ?_) | (apply s_mvIv; exact rfl; exact rfl) | (apply s_asIv; exact rfl; exact rfl) | (apply s_neqS; exact rfl; exact rfl; exact rfl)) | (refine c_seq ?_) | (refine s_region ?_) | (refine L.thenN ?_) | (refine L.ret ?_)))
  all_goals (first | (apply L.ends1; exact rfl; exact rfl; exact rfl) | (apply L.ends2; exact rfl; exact rfl; exact rfl) | (apply L.ends3; exact rfl; exact rfl; exact rfl) | (apply L.ends1A; exact rfl; exact rfl; exact rfl) | (apply L.ends2A; exact rfl; exact rfl; exact rfl))
  all_goals simp [resOf]
theorem nanS3_any (a : Str) : CallA Tryd.prog 146 [aS a] [] [] [] (aB false) := by
  refine CallA.intro _ Tryd.func146 rfl Tryd.ntmps146 rfl (fun w0 E0 => ?_)
  (repeat' (first | (refine LW.is ?_; first | (refine s_nil ?_) | (apply s_mvIv; exact rfl; exact rfl) | (apply s_asIv; exact rfl; exact rfl) | (apply s_neqS; exact rfl; exact rfl; exact rfl)) | (refine c_seq ?_) | (refine s_region ?_) | (refine L.thenN ?_) | (refine L.ret ?_)))
  all_goals (first | (apply L.ends1; exact rfl; exact rfl; exact rfl) | (apply L.ends2; exact rfl; exact rfl; exact rfl) | (apply L.ends3; exact rfl; exact rfl; exact rfl) | (apply L.ends1A; exact rfl; exact rfl; exact rfl) | (apply L.ends2A; exact rfl; exact rfl; exact rfl))
  all_goals simp [resOf]
theorem less_any (a b : Str) : CallA Tryd.prog 145 [aS a, aS b] [] [] [] (aB (decide (a < b))) := by
  refine CallA.intro _ Tryd.func145 rfl Tryd.ntmps145 rfl (fun w0 E0 => ?_)
  (repeat' (first | (refine LW.is ?_; first | ((apply s_call0; exact rfl; rotate_left; exact rfl; rotate_left 3; exact nanS2_any _; exact rfl)) | (refine s_nil ?_) | (apply s_mvIv; exact rfl; exact rfl) | (apply s_asIv; exact rfl; exact rfl) | (apply s_lssS; exact rfl; exact rfl; exact rfl) | (apply s_gdo; exact rfl; exact rfl; (first | exact rfl | assumption)) | (apply s_gskipT; exact rfl; exact rfl; exact rfl; (first | exact rfl | assumption)) | (apply s_pickFIv; exact rfl; exact rfl; (first | exact rfl | assumption); exact rfl)) | (refine c_seq ?_) | (refine s_region ?_) | (refine L.thenN ?_) | (refine L.ret ?_)))
  all_goals (first | (apply L.ends1; exact rfl; exact rfl; exact rfl) | (apply L.ends2; exact rfl; exact rfl; exact rfl) | (apply L.ends3; exact rfl; exact rfl; exact rfl) | (apply L.ends1A; exact rfl; exact rfl; exact rfl) | (apply L.ends2A; exact rfl; exact rfl; exact rfl))
  all_goals simp [resOf, ltS]
def sizeM : List Pg → Nat
  | [] => 0
  | p :: ps => p.ks.length + sizeM ps
end Go.Proofs.YthkobnpogigkiaaDoor
/- Trees: what Good and Size compute. Conditions: how much there is of what comes in. -/
namespace Go.Proofs.YthkobnpogigkiaaDoor
open Go.Abs
attribute [local irreducible] L Code.wp bodyPost Exit.then Exit.inBlock
set_option linter.unusedVariables false
set_option linter.unusedSimpArgs false
theorem goodT_cons (o : Option Str) (p : Pg) (ps : List Pg) : goodT o (p :: ps) = (decide (1 ≤ p.ks.length) && (decide (p.ks.length ≤ 4) && (decide (p.vs.length = p.ks.length) && (risesM o p.ks && goodT (lastM o p.ks) ps)))) := rfl
theorem rises_step {o : Option Str} {s : Str} {l : List Str} : risesM o (s :: l) = ((match o with | some a => decide (a < s) | none => true) && risesM (some s) l) := by
  cases o <;> simp [risesM]
set_option maxRecDepth 100000 in
set_option maxHeartbeats 4000000 in
theorem goodtree_any (ps : List Pg) (hl : ps.length ≤ 140737488355328) : CallA Tryd.prog 21 [.agg [.iv (.sl (ps.map Pg.c))]] [] [] [] (aB (goodTree ps)) := by
  refine CallA.intro _ Tryd.func21 rfl Tryd.ntmps21 rfl (fun w0 E0 => ?_)
  (repeat' (first | (refine LW.is ?_; first | (refine s_nil ?_) | (apply s_mvIv; exact rfl; exact rfl) | (apply s_asIv; exact rfl; exact rfl) | (apply s_fieldP; exact rfl; exact rfl; exact rfl) | (apply s_load1P; exact rfl; exact rfl; exact rfl; (apply n_some; exact rfl; (first | exact nIm rfl | exact nSl rfl | exact nIv rfl | exact nRow rfl | exact nNil rfl | exact nPtr rfl | exact nBsh rfl | exact nBsl rfl | exact nAny rfl | exact rfl))) | (apply s_lenSl; exact rfl; exact rfl) | (apply s_box; exact rfl; exact rfl; exact rfl; (focus repeat' (first | exact nl_nil rfl | (apply nl_cons; exact rfl) | exact nIm rfl | exact nSl rfl | exact nIv rfl | exact nRow rfl | exact nNil rfl | exact nPtr rfl | exact nBsh rfl | exact nBsl rfl | exact nAny rfl | exact nIIm rfl | exact nISl rfl | exact rfl)); exact rfl; exact rfl)) | (refine c_seq ?_) | (refine L.block ?_) | (refine s_region ?_) | (refine L.thenN ?_)))
  refine L.loopP (ι := Nat × Option Str) (fun i => ⟨[(11, aI (i.1 : Int)), (10, aI ((ps.map Pg.c).length : Int)), (9, .iv (.sl (ps.map Pg.c))), (3, aS (i.2.getD []))], [], []⟩) (fun i => ps.length - i.1) (fun i => goodTree ps = goodT i.2 (ps.drop i.1) ∧ (i.2 = none ↔ i.1 = 0)) (i0 := (0, none)) ?_ ⟨rfl, by simp⟩ ?_
  · (refine Wk.mk' (by intro id h; cases h) ?_ ?_ ?_ <;> repeat' (first | exact WkF.nil | exact WkB.nil | exact WkT.nil | (refine WkF.cons rfl (Sub.refl _) ?_) | (refine WkB.cons rfl rfl (Subs.refl _) ?_) | (refine WkT.cons rfl ?_)))
  rintro ⟨i, o⟩ ⟨hi, ho⟩ K hK
  dsimp only at hi ho ⊢
  cases hv : ps[i]? with
  | none =>
    have hlt := ltF (l := ps.map Pg.c) (getFN hv)
    rw [dropN hv] at hi
    (repeat' (first | (refine LW.is ?_; first | (refine s_nil ?_) | (apply s_asIv; exact rfl; exact rfl) | (apply s_lssI; exact rfl; exact rfl; exact rfl)) | (refine c_seq ?_) | (refine s_region ?_) | (refine L.thenN ?_) | (refine L.thenE ?_) | (refine L.inE ?_) | (refine L.ret ?_) | (refine L.exit ?_) | (apply c_condF; exact rfl; (first | exact rfl | assumption))))
    all_goals (first | (apply L.ends1; exact rfl; exact rfl; exact rfl) | (apply L.ends2; exact rfl; exact rfl; exact rfl) | (apply L.ends3; exact rfl; exact rfl; exact rfl) | (apply L.ends1A; exact rfl; exact rfl; exact rfl) | (apply L.ends2A; exact rfl; exact rfl; exact rfl))
    rw [hi]; rfl
  | some p =>
    have hlt := ltT (l := ps.map Pg.c) (getF hv)
    have hlt' := ltN hv
    rw [dropC hv, goodT_cons] at hi
    obtain ⟨ks, vs⟩ := p
    dsimp only at hi
    cases c1 : decide (((ks.map Str.c).length : Int) < 1) with
    | true =>
      have e : decide (1 ≤ ks.length) = false := by
        simp only [decide_eq_true_eq, decide_eq_false_iff_not, List.length_map] at c1 ⊢; omega
      rw [e] at hi
      (repeat' (first | (refine LW.is ?_; first | (refine s_nil ?_) | (apply s_mvIv; exact rfl; exact rfl) | (apply s_asIv; exact rfl; exact rfl) | (apply s_fieldP; exact rfl; exact rfl; exact rfl) | (apply s_load1P; exact rfl; exact rfl; exact rfl; (apply n_some; exact rfl; (first | exact nIm rfl | exact nSl rfl | exact nIv rfl | exact nRow rfl | exact nNil rfl | exact nPtr rfl | exact nBsh rfl | exact nBsl rfl | exact nAny rfl | exact rfl))) | (apply s_loadAE; exact rfl; exact rfl; (focus repeat' (first | exact nl_nil rfl | (apply nl_cons; exact rfl) | exact nIm rfl | exact nSl rfl | exact nIv rfl | exact nRow rfl | exact nNil rfl | exact nPtr rfl | exact nBsh rfl | exact nBsl rfl | exact nAny rfl | exact nIIm rfl | exact nISl rfl | exact rfl)); exact rfl) | (apply s_lenSl; exact rfl; exact rfl) | (apply s_lssI; exact rfl; exact rfl; exact rfl) | (apply s_alloc; exact rfl; exact rfl; (focus repeat' (first | exact nl_nil rfl | (apply nl_cons; exact rfl) | exact nIm rfl | exact nSl rfl | exact nIv rfl | exact nRow rfl | exact nNil rfl | exact nPtr rfl | exact nBsh rfl | exact nBsl rfl | exact nAny rfl | exact nIIm rfl | exact nISl rfl | exact rfl)); exact rfl; exact rfl) | (apply s_store; exact rfl; exact rfl; exact rfl; exact rfl; exact rfl; exact rfl; (focus repeat' (first | exact nl_nil rfl | (apply nl_cons; exact rfl) | exact nIm rfl | exact nSl rfl | exact nIv rfl | exact nRow rfl | exact nNil rfl | exact nPtr rfl | exact nBsh rfl | exact nBsl rfl | exact nAny rfl | exact nIIm rfl | exact nISl rfl | exact rfl))) | (apply s_indexA; exact rfl; exact rfl; exact rfl; (first | omega | decide | (dsimp only; omega)); (exact Go.Abs.getM (by assumption)); exact rfl) | (apply s_gskipF; exact rfl; exact rfl; exact rfl; (first | exact rfl | assumption)) | (apply s_pickTIv; exact rfl; exact rfl; (first | exact rfl | assumption); exact rfl)) | (refine c_seq ?_) | (refine L.block ?_) | (refine s_region ?_) | (refine L.thenN ?_) | (refine L.thenR ?_) | (refine L.inR ?_) | (refine L.ret ?_) | (refine L.skip ?_) | (apply c_condT; exact rfl; (first | exact rfl | assumption))))
      all_goals (first | (apply L.ends1; exact rfl; exact rfl; exact rfl) | (apply L.ends2; exact rfl; exact rfl; exact rfl) | (apply L.ends3; exact rfl; exact rfl; exact rfl) | (apply L.ends1A; exact rfl; exact rfl; exact rfl) | (apply L.ends2A; exact rfl; exact rfl; exact rfl))
      rw [hi]; rfl
    | false =>
    have e1 : decide (1 ≤ ks.length) = true := by
      simp only [decide_eq_true_eq, decide_eq_false_iff_not, List.length_map] at c1 ⊢; omega
    cases c2 : decide ((4 : Int) < ((ks.map Str.c).length : Int)) with
    | true =>
      have e : decide (ks.length ≤ 4) = false := by simp at c2 ⊢; omega
      rw [e1, e] at hi
      (repeat' (first | (refine LW.is ?_; first | (refine s_nil ?_) | (apply s_mvIv; exact rfl; exact rfl) | (apply s_asIv; exact rfl; exact rfl) | (apply s_fieldP; exact rfl; exact rfl; exact rfl) | (apply s_load1P; exact rfl; exact rfl; exact rfl; (apply n_some; exact rfl; (first | exact nIm rfl | exact nSl rfl | exact nIv rfl | exact nRow rfl | exact nNil rfl | exact nPtr rfl | exact nBsh rfl | exact nBsl rfl | exact nAny rfl | exact rfl))) | (apply s_loadAE; exact rfl; exact rfl; (focus repeat' (first | exact nl_nil rfl | (apply nl_cons; exact rfl) | exact nIm rfl | exact nSl rfl | exact nIv rfl | exact nRow rfl | exact nNil rfl | exact nPtr rfl | exact nBsh rfl | exact nBsl rfl | exact nAny rfl | exact nIIm rfl | exact nISl rfl | exact rfl)); exact rfl) | (apply s_lenSl; exact rfl; exact rfl) | (apply s_lssI; exact rfl; exact rfl; exact rfl) | (apply s_gtrI; exact rfl; exact rfl; exact rfl) | (apply s_alloc; exact rfl; exact rfl; (focus repeat' (first | exact nl_nil rfl | (apply nl_cons; exact rfl) | exact nIm rfl | exact nSl rfl | exact nIv rfl | exact nRow rfl | exact nNil rfl | exact nPtr rfl | exact nBsh rfl | exact nBsl rfl | exact nAny rfl | exact nIIm rfl | exact nISl rfl | exact rfl)); exact rfl; exact rfl) | (apply s_store; exact rfl; exact rfl; exact rfl; exact rfl; exact rfl; exact rfl; (focus repeat' (first | exact nl_nil rfl | (apply nl_cons; exact rfl) | exact nIm rfl | exact nSl rfl | exact nIv rfl | exact nRow rfl | exact nNil rfl | exact nPtr rfl | exact nBsh rfl | exact nBsl rfl | exact nAny rfl | exact nIIm rfl | exact nISl rfl | exact rfl))) | (apply s_indexA; exact rfl; exact rfl; exact rfl; (first | omega | decide | (dsimp only; omega)); (exact Go.Abs.getM (by assumption)); exact rfl) | (apply s_gdo; exact rfl; exact rfl; (first | exact rfl | assumption)) | (apply s_gskipF; exact rfl; exact rfl; exact rfl; (first | exact rfl | assumption)) | (apply s_pickTIv; exact rfl; exact rfl; (first | exact rfl | assumption); exact rfl) | (apply s_pickFIv; exact rfl; exact rfl; (first | exact rfl | assumption); exact rfl)) | (refine c_seq ?_) | (refine L.block ?_) | (refine s_region ?_) | (refine L.thenN ?_) | (refine L.thenR ?_) | (refine L.inR ?_) | (refine L.ret ?_) | (refine L.skip ?_) | (apply c_condT; exact rfl; (first | exact rfl | assumption))))
      all_goals (first | (apply L.ends1; exact rfl; exact rfl; exact rfl) | (apply L.ends2; exact rfl; exact rfl; exact rfl) | (apply L.ends3; exact rfl; exact rfl; exact rfl) | (apply L.ends1A; exact rfl; exact rfl; exact rfl) | (apply L.ends2A; exact rfl; exact rfl; exact rfl))
      rw [hi]; rfl
    | false =>
    have e2 : decide (ks.length ≤ 4) = true := by simp at c2 ⊢; omega
    cases c3 : (((vs.map Str.c).length : Int) != ((ks.map Str.c).length : Int)) with
    | true =>
      have e : decide (vs.length = ks.length) = false := by simp at c3 ⊢; omega
      rw [e1, e2, e] at hi
      (repeat' (first | (refine LW.is ?_; first | (refine s_nil ?_) | (apply s_mvIv; exact rfl; exact rfl) | (apply s_asIv; exact rfl; exact rfl) | (apply s_fieldP; exact rfl; exact rfl; exact rfl) | (apply s_load1P; exact rfl; exact rfl; exact rfl; (apply n_some; exact rfl; (first | exact nIm rfl | exact nSl rfl | exact nIv rfl | exact nRow rfl | exact nNil rfl | exact nPtr rfl | exact nBsh rfl | exact nBsl rfl | exact nAny rfl | exact rfl))) | (apply s_loadAE; exact rfl; exact rfl; (focus repeat' (first | exact nl_nil rfl | (apply nl_cons; exact rfl) | exact nIm rfl | exact nSl rfl | exact nIv rfl | exact nRow rfl | exact nNil rfl | exact nPtr rfl | exact nBsh rfl | exact nBsl rfl | exact nAny rfl | exact nIIm rfl | exact nISl rfl | exact rfl)); exact rfl) | (apply s_lenSl; exact rfl; exact rfl) | (apply s_neqI; exact rfl; exact rfl; exact rfl) | (apply s_lssI; exact rfl; exact rfl; exact rfl) | (apply s_gtrI; exact rfl; exact rfl; exact rfl) | (apply s_alloc; exact rfl; exact rfl; (focus repeat' (first | exact nl_nil rfl | (apply nl_cons; exact rfl) | exact nIm rfl | exact nSl rfl | exact nIv rfl | exact nRow rfl | exact nNil rfl | exact nPtr rfl | exact nBsh rfl | exact nBsl rfl | exact nAny rfl | exact nIIm rfl | exact nISl rfl | exact rfl)); exact rfl; exact rfl) | (apply s_store; exact rfl; exact rfl; exact rfl; exact rfl; exact rfl; exact rfl; (focus repeat' (first | exact nl_nil rfl | (apply nl_cons; exact rfl) | exact nIm rfl | exact nSl rfl | exact nIv rfl | exact nRow rfl | exact nNil rfl | exact nPtr rfl | exact nBsh rfl | exact nBsl rfl | exact nAny rfl | exact nIIm rfl | exact nISl rfl | exact rfl))) | (apply s_indexA; exact rfl; exact rfl; exact rfl; (first | omega | decide | (dsimp only; omega)); (exact Go.Abs.getM (by assumption)); exact rfl) | (apply s_gdo; exact rfl; exact rfl; (first | exact rfl | assumption)) | (apply s_pickFIv; exact rfl; exact rfl; (first | exact rfl | assumption); exact rfl)) | (refine c_seq ?_) | (refine L.block ?_) | (refine s_region ?_) | (refine L.thenN ?_) | (refine L.thenR ?_) | (refine L.inR ?_) | (refine L.ret ?_) | (refine L.skip ?_) | (apply c_condT; exact rfl; (first | exact rfl | assumption))))
      all_goals (first | (apply L.ends1; exact rfl; exact rfl; exact rfl) | (apply L.ends2; exact rfl; exact rfl; exact rfl) | (apply L.ends3; exact rfl; exact rfl; exact rfl) | (apply L.ends1A; exact rfl; exact rfl; exact rfl) | (apply L.ends2A; exact rfl; exact rfl; exact rfl))
      rw [hi]; rfl
    | false =>
    have e3 : decide (vs.length = ks.length) = true := by simp at c3 ⊢; omega
    rw [e1, e2, e3] at hi
    simp only [Bool.true_and] at hi
    have hk4 : ks.length ≤ 4 := by simpa using e2
    (repeat' (first | (refine LW.is ?_; first | (refine s_nil ?_) | (apply s_mvIv; exact rfl; exact rfl) | (apply s_asIv; exact rfl; exact rfl) | (apply s_fieldP; exact rfl; exact rfl; exact rfl) | (apply s_load1P; exact rfl; exact rfl; exact rfl; (apply n_some; exact rfl; (first | exact nIm rfl | exact nSl rfl | exact nIv rfl | exact nRow rfl | exact nNil rfl | exact nPtr rfl | exact nBsh rfl | exact nBsl rfl | exact nAny rfl | exact rfl))) | (apply s_loadAE; exact rfl; exact rfl; (focus repeat' (first | exact nl_nil rfl | (apply nl_cons; exact rfl) | exact nIm rfl | exact nSl rfl | exact nIv rfl | exact nRow rfl | exact nNil rfl | exact nPtr rfl | exact nBsh rfl | exact nBsl rfl | exact nAny rfl | exact nIIm rfl | exact nISl rfl | exact rfl)); exact rfl) | (apply s_lenSl; exact rfl; exact rfl) | (apply s_neqI; exact rfl; exact rfl; exact rfl) | (apply s_lssI; exact rfl; exact rfl; exact rfl) | (apply s_gtrI; exact rfl; exact rfl; exact rfl) | (apply s_alloc; exact rfl; exact rfl; (focus repeat' (first | exact nl_nil rfl | (apply nl_cons; exact rfl) | exact nIm rfl | exact nSl rfl | exact nIv rfl | exact nRow rfl | exact nNil rfl | exact nPtr rfl | exact nBsh rfl | exact nBsl rfl | exact nAny rfl | exact nIIm rfl | exact nISl rfl | exact rfl)); exact rfl; exact rfl) | (apply s_store; exact rfl; exact rfl; exact rfl; exact rfl; exact rfl; exact rfl; (focus repeat' (first | exact nl_nil rfl | (apply nl_cons; exact rfl) | exact nIm rfl | exact nSl rfl | exact nIv rfl | exact nRow rfl | exact nNil rfl | exact nPtr rfl | exact nBsh rfl | exact nBsl rfl | exact nAny rfl | exact nIIm rfl | exact nISl rfl | exact rfl))) | (apply s_indexA; exact rfl; exact rfl; exact rfl; (first | omega | decide | (dsimp only; omega)); (exact Go.Abs.getM (by assumption)); exact rfl) | (apply s_gdo; exact rfl; exact rfl; (first | exact rfl | assumption)) | (apply s_pickFIv; exact rfl; exact rfl; (first | exact rfl | assumption); exact rfl)) | (refine c_seq ?_) | (refine L.block ?_) | (refine s_region ?_) | (refine L.thenN ?_) | (refine L.skip ?_) | (apply c_condT; exact rfl; (first | exact rfl | assumption)) | (apply c_condF; exact rfl; (first | exact rfl | assumption))))
    refine L.loopP (ι := Nat × Option Str) (fun k => ⟨[(38, aI (k.1 : Int)), (37, aI ((ks.map Str.c).length : Int)), (36, .iv (.sl (ks.map Str.c))), (4, aI (i : Int)), (3, aS (k.2.getD [])), (11, aI (i : Int)), (10, aI ((ps.map Pg.c).length : Int)), (9, .iv (.sl (ps.map Pg.c)))], [], []⟩) (fun k => ks.length - k.1)
      (fun k => goodTree ps = (risesM k.2 (ks.drop k.1) && goodT (lastM k.2 (ks.drop k.1)) (ps.drop (i + 1))) ∧ (k.2 = none ↔ (i = 0 ∧ k.1 = 0))) (i0 := (0, o)) ?_ ⟨hi, by simp [ho]⟩ ?_
    · (refine Wk.mk' (by intro id h; cases h) ?_ ?_ ?_ <;> repeat' (first | exact WkF.nil | exact WkB.nil | exact WkT.nil | (refine WkF.cons rfl (Sub.refl _) ?_) | (refine WkB.cons rfl rfl (Subs.refl _) ?_) | (refine WkT.cons rfl ?_)))
    rintro ⟨k, o'⟩ ⟨hi', ho'⟩ K2 hK2
    dsimp only at hi' ho' ⊢
    cases hw : ks[k]? with
    | none =>
      have hlt2 := ltF (l := ks.map Str.c) (getFN hw)
      have hlk : ks.length ≤ k := List.getElem?_eq_none_iff.1 hw
      rw [dropN hw] at hi'
      (repeat' (first | (refine LW.is ?_; first | (refine s_nil ?_) | (apply s_mvIv; exact rfl; exact rfl) | (apply s_lssI; exact rfl; exact rfl; exact rfl) | (apply s_addI; exact rfl; exact rfl; exact rfl; (first | omega | decide | (dsimp only; omega)); (first | omega | decide | (dsimp only; omega)))) | (refine c_seq ?_) | (refine s_region ?_) | (refine L.thenN ?_) | (refine L.thenE ?_) | (refine L.inN ?_) | (refine L.inE ?_) | (refine L.exit ?_) | (apply c_condF; exact rfl; (first | exact rfl | assumption))))
      refine hK _ (i + 1, o') ⟨by rw [hi']; rfl, by dsimp only; rw [ho']; simp at e1; omega⟩ (by dsimp only; omega) ?_
      (refine Wk.mk' (by intro id h; cases h) ?_ ?_ ?_ <;> repeat' (first | exact WkF.nil | exact WkB.nil | exact WkT.nil | (refine WkF.cons rfl (Sub.refl _) ?_) | (refine WkB.cons rfl rfl (Subs.refl _) ?_) | (refine WkT.cons rfl ?_)))
    | some s =>
      have hlt2 := ltT (l := ks.map Str.c) (getF hw)
      have hlt2' := ltN hw
      rw [dropC hw, rises_step] at hi'
      cases o' with
      | none =>
        obtain ⟨rfl, rfl⟩ := ho'.1 rfl
        (repeat' (first | (refine LW.is ?_; first | (refine s_nil ?_) | (apply s_mvIv; exact rfl; exact rfl) | (apply s_asIv; exact rfl; exact rfl) | (apply s_load1E; exact rfl; exact rfl; exact rfl) | (apply s_lssI; exact rfl; exact rfl; exact rfl) | (apply s_gtrI; exact rfl; exact rfl; exact rfl) | (apply s_addI; exact rfl; exact rfl; exact rfl; (first | omega | decide | (dsimp only; omega)); (first | omega | decide | (dsimp only; omega))) | (apply s_indexA; exact rfl; exact rfl; exact rfl; (first | omega | decide | (dsimp only; omega)); (exact Go.Abs.getM (by assumption)); exact rfl) | (apply s_gdo; exact rfl; exact rfl; (first | exact rfl | assumption)) | (apply s_gskipT; exact rfl; exact rfl; exact rfl; (first | exact rfl | assumption)) | (apply s_pickFIv; exact rfl; exact rfl; (first | exact rfl | assumption); exact rfl)) | (refine c_seq ?_) | (refine L.block ?_) | (refine s_region ?_) | (refine L.thenN ?_) | (refine L.inN ?_) | (refine L.skip ?_) | (apply c_condT; exact rfl; (first | exact rfl | assumption)) | (apply c_condF; exact rfl; (first | exact rfl | assumption))))
        refine hK2 _ (1, some s) ⟨by rw [hi']; rfl, by simp⟩ (by dsimp only; omega) ?_
        (refine Wk.mk' (by intro id h; cases h) ?_ ?_ ?_ <;> repeat' (first | exact WkF.nil | exact WkB.nil | exact WkT.nil | (refine WkF.cons rfl (Sub.refl _) ?_) | (refine WkB.cons rfl rfl (Subs.refl _) ?_) | (refine WkT.cons rfl ?_)))
      | some a =>
        have hik : ¬ (i = 0 ∧ k = 0) := fun h => by have := ho'.2 h; cases this
        have hle : (Op.bytesLess s a || s == a) = decide (s ≤ a) := leS
        cases q0 : decide ((0 : Int) < (i : Int)) with
        | true =>
          cases q2 : decide (a < s) with
          | true =>
            have hle' : (Op.bytesLess s a || s == a) = false := by rw [hle]; simpa using q2
            (repeat' (first | (refine LW.is ?_; first | (refine s_nil ?_) | (apply s_mvIv; exact rfl; exact rfl) | (apply s_asIv; exact rfl; exact rfl) | (apply s_load1E; exact rfl; exact rfl; exact rfl) | (apply s_lssI; exact rfl; exact rfl; exact rfl) | (apply s_gtrI; exact rfl; exact rfl; exact rfl) | (apply s_leqS; exact rfl; exact rfl; exact rfl) | (apply s_addI; exact rfl; exact rfl; exact rfl; (first | omega | decide | (dsimp only; omega)); (first | omega | decide | (dsimp only; omega))) | (apply s_indexA; exact rfl; exact rfl; exact rfl; (first | omega | decide | (dsimp only; omega)); (exact Go.Abs.getM (by assumption)); exact rfl) | (apply s_gdo; exact rfl; exact rfl; (first | exact rfl | assumption)) | (apply s_gskipF; exact rfl; exact rfl; exact rfl; (first | exact rfl | assumption)) | (apply s_pickTIv; exact rfl; exact rfl; (first | exact rfl | assumption); exact rfl)) | (refine c_seq ?_) | (refine L.block ?_) | (refine s_region ?_) | (refine L.thenN ?_) | (refine L.inN ?_) | (refine L.skip ?_) | (apply c_condT; exact rfl; (first | exact rfl | assumption)) | (apply c_condF; exact rfl; (first | exact rfl | assumption))))
            refine hK2 _ (k + 1, some s) ⟨by rw [hi']; simp [lastM, q2], by simp⟩ (by dsimp only; omega) ?_
            (refine Wk.mk' (by intro id h; cases h) ?_ ?_ ?_ <;> repeat' (first | exact WkF.nil | exact WkB.nil | exact WkT.nil | (refine WkF.cons rfl (Sub.refl _) ?_) | (refine WkB.cons rfl rfl (Subs.refl _) ?_) | (refine WkT.cons rfl ?_)))
          | false =>
            have hle' : (Op.bytesLess s a || s == a) = true := by rw [hle]; simpa using q2
            (repeat' (first | (refine LW.is ?_; first | (refine s_nil ?_) | (apply s_mvIv; exact rfl; exact rfl) | (apply s_asIv; exact rfl; exact rfl) | (apply s_load1E; exact rfl; exact rfl; exact rfl) | (apply s_lssI; exact rfl; exact rfl; exact rfl) | (apply s_gtrI; exact rfl; exact rfl; exact rfl) | (apply s_leqS; exact rfl; exact rfl; exact rfl) | (apply s_indexA; exact rfl; exact rfl; exact rfl; (first | omega | decide | (dsimp only; omega)); (exact Go.Abs.getM (by assumption)); exact rfl) | (apply s_gdo; exact rfl; exact rfl; (first | exact rfl | assumption)) | (apply s_gskipF; exact rfl; exact rfl; exact rfl; (first | exact rfl | assumption)) | (apply s_pickTIv; exact rfl; exact rfl; (first | exact rfl | assumption); exact rfl)) | (refine c_seq ?_) | (refine L.block ?_) | (refine s_region ?_) | (refine L.thenN ?_) | (refine L.thenR ?_) | (refine L.inR ?_) | (refine L.ret ?_) | (refine L.skip ?_) | (apply c_condT; exact rfl; (first | exact rfl | assumption))))
            all_goals (first | (apply L.ends1; exact rfl; exact rfl; exact rfl) | (apply L.ends2; exact rfl; exact rfl; exact rfl) | (apply L.ends3; exact rfl; exact rfl; exact rfl) | (apply L.ends1A; exact rfl; exact rfl; exact rfl) | (apply L.ends2A; exact rfl; exact rfl; exact rfl))
            rw [hi']; simp [q2]
        | false =>
          have q1 : decide ((0 : Int) < (k : Int)) = true := by simp at q0 ⊢; omega
          cases q2 : decide (a < s) with
          | true =>
            have hle' : (Op.bytesLess s a || s == a) = false := by rw [hle]; simpa using q2
            (repeat' (first | (refine LW.is ?_; first | (refine s_nil ?_) | (apply s_mvIv; exact rfl; exact rfl) | (apply s_asIv; exact rfl; exact rfl) | (apply s_load1E; exact rfl; exact rfl; exact rfl) | (apply s_lssI; exact rfl; exact rfl; exact rfl) | (apply s_gtrI; exact rfl; exact rfl; exact rfl) | (apply s_leqS; exact rfl; exact rfl; exact rfl) | (apply s_addI; exact rfl; exact rfl; exact rfl; (first | omega | decide | (dsimp only; omega)); (first | omega | decide | (dsimp only; omega))) | (apply s_indexA; exact rfl; exact rfl; exact rfl; (first | omega | decide | (dsimp only; omega)); (exact Go.Abs.getM (by assumption)); exact rfl) | (apply s_gdo; exact rfl; exact rfl; (first | exact rfl | assumption)) | (apply s_pickTIv; exact rfl; exact rfl; (first | exact rfl | assumption); exact rfl) | (apply s_pickFIv; exact rfl; exact rfl; (first | exact rfl | assumption); exact rfl)) | (refine c_seq ?_) | (refine L.block ?_) | (refine s_region ?_) | (refine L.thenN ?_) | (refine L.inN ?_) | (refine L.skip ?_) | (apply c_condT; exact rfl; (first | exact rfl | assumption)) | (apply c_condF; exact rfl; (first | exact rfl | assumption))))
            refine hK2 _ (k + 1, some s) ⟨by rw [hi']; simp [lastM, q2], by simp⟩ (by dsimp only; omega) ?_
            (refine Wk.mk' (by intro id h; cases h) ?_ ?_ ?_ <;> repeat' (first | exact WkF.nil | exact WkB.nil | exact WkT.nil | (refine WkF.cons rfl (Sub.refl _) ?_) | (refine WkB.cons rfl rfl (Subs.refl _) ?_) | (refine WkT.cons rfl ?_)))
          | false =>
            have hle' : (Op.bytesLess s a || s == a) = true := by rw [hle]; simpa using q2
            (repeat' (first | (refine LW.is ?_; first | (refine s_nil ?_) | (apply s_mvIv; exact rfl; exact rfl) | (apply s_asIv; exact rfl; exact rfl) | (apply s_load1E; exact rfl; exact rfl; exact rfl) | (apply s_lssI; exact rfl; exact rfl; exact rfl) | (apply s_gtrI; exact rfl; exact rfl; exact rfl) | (apply s_leqS; exact rfl; exact rfl; exact rfl) | (apply s_indexA; exact rfl; exact rfl; exact rfl; (first | omega | decide | (dsimp only; omega)); (exact Go.Abs.getM (by assumption)); exact rfl) | (apply s_gdo; exact rfl; exact rfl; (first | exact rfl | assumption)) | (apply s_pickTIv; exact rfl; exact rfl; (first | exact rfl | assumption); exact rfl) | (apply s_pickFIv; exact rfl; exact rfl; (first | exact rfl | assumption); exact rfl)) | (refine c_seq ?_) | (refine L.block ?_) | (refine s_region ?_) | (refine L.thenN ?_) | (refine L.thenR ?_) | (refine L.inR ?_) | (refine L.ret ?_) | (refine L.skip ?_) | (apply c_condT; exact rfl; (first | exact rfl | assumption))))
            all_goals (first | (apply L.ends1; exact rfl; exact rfl; exact rfl) | (apply L.ends2; exact rfl; exact rfl; exact rfl) | (apply L.ends3; exact rfl; exact rfl; exact rfl) | (apply L.ends1A; exact rfl; exact rfl; exact rfl) | (apply L.ends2A; exact rfl; exact rfl; exact rfl))
            rw [hi']; simp [q2]
set_option maxRecDepth 100000 in
theorem size_any (ps : List Pg) (hl : ps.length ≤ 140737488355328) (hs : sizeM ps ≤ 140737488355328) : CallA Tryd.prog 24 [.agg [.iv (.sl (ps.map Pg.c))]] [] [] [] (aI (sizeM ps : Int)) := by
  refine CallA.intro _ Tryd.func24 rfl Tryd.ntmps24 rfl (fun w0 E0 => ?_)
  (repeat' (first | (refine LW.is ?_; first | (refine s_nil ?_) | (apply s_mvIv; exact rfl; exact rfl) | (apply s_asIv; exact rfl; exact rfl) | (apply s_fieldP; exact rfl; exact rfl; exact rfl) | (apply s_load1P; exact rfl; exact rfl; exact rfl; (apply n_some; exact rfl; (first | exact nIm rfl | exact nSl rfl | exact nIv rfl | exact nRow rfl | exact nNil rfl | exact nPtr rfl | exact nBsh rfl | exact nBsl rfl | exact nAny rfl | exact rfl))) | (apply s_lenSl; exact rfl; exact rfl) | (apply s_box; exact rfl; exact rfl; exact rfl; (focus repeat' (first | exact nl_nil rfl | (apply nl_cons; exact rfl) | exact nIm rfl | exact nSl rfl | exact nIv rfl | exact nRow rfl | exact nNil rfl | exact nPtr rfl | exact nBsh rfl | exact nBsl rfl | exact nAny rfl | exact nIIm rfl | exact nISl rfl | exact rfl)); exact rfl; exact rfl)) | (refine c_seq ?_) | (refine L.block ?_) | (refine s_region ?_) | (refine L.thenN ?_)))
  refine L.loopP (ι := Nat × Nat) (fun i => ⟨[(9, aI (i.1 : Int)), (8, aI ((ps.map Pg.c).length : Int)), (7, .iv (.sl (ps.map Pg.c))), (3, aI (i.2 : Int))], [], []⟩) (fun i => ps.length - i.1) (fun i => i.2 + sizeM (ps.drop i.1) = sizeM ps) (i0 := (0, 0)) ?_ (by simp) ?_
  · (refine Wk.mk' (by intro id h; cases h) ?_ ?_ ?_ <;> repeat' (first | exact WkF.nil | exact WkB.nil | exact WkT.nil | (refine WkF.cons rfl (Sub.refl _) ?_) | (refine WkB.cons rfl rfl (Subs.refl _) ?_) | (refine WkT.cons rfl ?_)))
  rintro ⟨i, n⟩ hi K hK
  dsimp only at hi ⊢
  cases hv : ps[i]? with
  | none =>
    have hlt := ltF (l := ps.map Pg.c) (getFN hv)
    rw [dropN hv] at hi
    (repeat' (first | (refine LW.is ?_; first | (refine s_nil ?_) | (apply s_mvIv; exact rfl; exact rfl) | (apply s_asIv; exact rfl; exact rfl) | (apply s_lssI; exact rfl; exact rfl; exact rfl)) | (refine c_seq ?_) | (refine s_region ?_) | (refine L.thenN ?_) | (refine L.thenE ?_) | (refine L.inE ?_) | (refine L.ret ?_) | (refine L.exit ?_) | (apply c_condF; exact rfl; (first | exact rfl | assumption))))
    all_goals (first | (apply L.ends1; exact rfl; exact rfl; exact rfl) | (apply L.ends2; exact rfl; exact rfl; exact rfl) | (apply L.ends3; exact rfl; exact rfl; exact rfl) | (apply L.ends1A; exact rfl; exact rfl; exact rfl) | (apply L.ends2A; exact rfl; exact rfl; exact rfl))
    rw [← hi]; rfl
  | some p =>
    have hlt := ltT (l := ps.map Pg.c) (getF hv)
    have hlt' := ltN hv
    rw [dropC hv] at hi
    obtain ⟨ks, vs⟩ := p
    simp only [sizeM] at hi
    have hb : (n : Int) + ((ks.map Str.c).length : Int) ≤ 9223372036854775807 := by simp; omega
    have hb0 : -9223372036854775808 ≤ (n : Int) + ((ks.map Str.c).length : Int) := by omega
    (repeat' (first | (refine LW.is ?_; first | ((apply s_addI; exact rfl; exact rfl; exact rfl; exact hb0; exact hb)) | (refine s_nil ?_) | (apply s_mvIv; exact rfl; exact rfl) | (apply s_asIv; exact rfl; exact rfl) | (apply s_fieldP; exact rfl; exact rfl; exact rfl) | (apply s_load1P; exact rfl; exact rfl; exact rfl; (apply n_some; exact rfl; (first | exact nIm rfl | exact nSl rfl | exact nIv rfl | exact nRow rfl | exact nNil rfl | exact nPtr rfl | exact nBsh rfl | exact nBsl rfl | exact nAny rfl | exact rfl))) | (apply s_loadAE; exact rfl; exact rfl; (focus repeat' (first | exact nl_nil rfl | (apply nl_cons; exact rfl) | exact nIm rfl | exact nSl rfl | exact nIv rfl | exact nRow rfl | exact nNil rfl | exact nPtr rfl | exact nBsh rfl | exact nBsl rfl | exact nAny rfl | exact nIIm rfl | exact nISl rfl | exact rfl)); exact rfl) | (apply s_lenSl; exact rfl; exact rfl) | (apply s_lssI; exact rfl; exact rfl; exact rfl) | (apply s_alloc; exact rfl; exact rfl; (focus repeat' (first | exact nl_nil rfl | (apply nl_cons; exact rfl) | exact nIm rfl | exact nSl rfl | exact nIv rfl | exact nRow rfl | exact nNil rfl | exact nPtr rfl | exact nBsh rfl | exact nBsl rfl | exact nAny rfl | exact nIIm rfl | exact nISl rfl | exact rfl)); exact rfl; exact rfl) | (apply s_store; exact rfl; exact rfl; exact rfl; exact rfl; exact rfl; exact rfl; (focus repeat' (first | exact nl_nil rfl | (apply nl_cons; exact rfl) | exact nIm rfl | exact nSl rfl | exact nIv rfl | exact nRow rfl | exact nNil rfl | exact nPtr rfl | exact nBsh rfl | exact nBsl rfl | exact nAny rfl | exact nIIm rfl | exact nISl rfl | exact rfl))) | (apply s_addI; exact rfl; exact rfl; exact rfl; (first | omega | decide | (dsimp only; omega)); (first | omega | decide | (dsimp only; omega))) | (apply s_indexA; exact rfl; exact rfl; exact rfl; (first | omega | decide | (dsimp only; omega)); (exact Go.Abs.getM (by assumption)); exact rfl)) | (refine c_seq ?_) | (refine L.block ?_) | (refine s_region ?_) | (refine L.thenN ?_) | (refine L.inN ?_) | (refine L.skip ?_) | (apply c_condT; exact rfl; (first | exact rfl | assumption))))
    refine hK _ (i + 1, n + ks.length) (by dsimp only; omega) (by dsimp only; omega) (Wk.mk' (by intro id h; cases h) (.cons rfl (Sub.refl _) (.cons rfl (Sub.refl _) (.cons rfl (Sub.refl _) (.cons rfl (Sub.of_eq (congrArg (fun z => aI z) ?_)) .nil)))) .nil .nil)
    simp
end Go.Proofs.YthkobnpogigkiaaDoor
/- Trees: where a key is, by halving: what BinarySearch and place compute. Conditions: the keys rise; how much there is of what comes in. -/
namespace Go.Proofs.YthkobnpogigkiaaDoor
open Go.Abs
attribute [local irreducible] L Code.wp bodyPost Exit.then Exit.inBlock
set_option linter.unusedVariables false
set_option linter.unusedSimpArgs false
def pre {α : Type} (p : α → Bool) : List α → Nat
  | [] => 0
  | x :: l => if p x then pre p l + 1 else 0
def Falls {α : Type} (p : α → Bool) (l : List α) : Prop := ∀ (i j : Nat) (x y : α), i ≤ j → l[i]? = some x → l[j]? = some y → p y = true → p x = true
theorem pre_le {α : Type} (p : α → Bool) : ∀ l : List α, pre p l ≤ l.length
  | [] => Nat.le_refl _
  | x :: l => by
    have := pre_le p l
    simp only [pre, List.length_cons]; split <;> omega
theorem pre_lt {α : Type} {p : α → Bool} : ∀ {l : List α} {i : Nat} {x : α}, l[i]? = some x → i < pre p l → p x = true
  | [], i, x, h, _ => by simp at h
  | y :: l, 0, x, h, hi => by
    simp at h; subst h
    simp only [pre] at hi
    split at hi
    · assumption
    · omega
  | y :: l, i + 1, x, h, hi => by
    simp only [pre] at hi
    split at hi
    · exact pre_lt (l := l) (by simpa using h) (by omega)
    · omega
theorem pre_at {α : Type} {p : α → Bool} : ∀ {l : List α} {x : α}, l[pre p l]? = some x → p x = false
  | [], x, h => by simp at h
  | y :: l, x, h => by
    simp only [pre] at h
    split at h
    · exact pre_at (l := l) (by simpa using h)
    · rename_i hp; simp at h; subst h; simpa using hp
theorem Falls.le {α : Type} {p : α → Bool} {l : List α} (hf : Falls p l) {i : Nat} {x : α} (h : l[i]? = some x) (hp : p x = true) : i < pre p l := by
  refine Nat.lt_of_not_le (fun hle => ?_)
  have hlt := (List.getElem?_eq_some_iff.1 h).1
  obtain ⟨y, hy⟩ : ∃ y, l[pre p l]? = some y := ⟨_, List.getElem?_eq_getElem (by omega)⟩
  have := hf _ _ y x hle hy h hp
  rw [pre_at hy] at this; cases this
theorem Falls.ge {α : Type} {p : α → Bool} {l : List α} {i : Nat} {x : α} (h : l[i]? = some x) (hp : p x = false) : pre p l ≤ i := by
  refine Nat.le_of_not_lt (fun hlt => ?_)
  rw [pre_lt h hlt] at hp; cases hp
def lbM (ks : List Str) (key : Str) : Nat := pre (fun s => decide (s < key)) ks
def foundM (ks : List Str) (key : Str) : Bool := ks[lbM ks key]? == some key
theorem half (i j : Nat) (h : i + j < 4611686018427387904) : IntKind.i64.wrap ((IntKind.u64.wrap ((i : Int) + (j : Int))).fdiv (2 ^ min (Int.toNat 1) IntKind.u64.bits)) = (((i + j) / 2 : Nat) : Int) := by
  have h1 : IntKind.u64.wrap ((i : Int) + (j : Int)) = (i : Int) + j := by rw [IntKind.wrap_u64]; omega
  rw [h1]
  have h2 : ((i : Int) + (j : Int)).fdiv (2 ^ min (Int.toNat 1) IntKind.u64.bits) = ((i : Int) + j) / 2 := Int.fdiv_eq_ediv_of_nonneg _ (by decide)
  rw [h2, IntKind.wrap_i64]
  omega
set_option maxRecDepth 100000 in
set_option maxHeartbeats 4000000 in
theorem bsearch_any (ks : List Str) (key : Str) (hl : ks.length ≤ 140737488355328) (hf : Falls (fun s => decide (s < key)) ks) :
    CallA Tryd.prog 128 [.iv (.sl (ks.map Str.c)), aS key] [] [] [] (.tup [.iv (I (lbM ks key : Int)), .iv (B (foundM ks key))]) := by
  refine CallA.intro _ Tryd.func128 rfl Tryd.ntmps128 rfl (fun w0 E0 => ?_)
  have hle := pre_le (fun s => decide (s < key)) ks
  (repeat' (first | (refine LW.is ?_; first | (refine s_nil ?_) | (apply s_mvIv; exact rfl; exact rfl) | (apply s_asIv; exact rfl; exact rfl) | (apply s_lenSl; exact rfl; exact rfl)) | (refine c_seq ?_) | (refine L.block ?_) | (refine s_region ?_) | (refine L.thenN ?_)))
  refine L.loopP (ι := Nat × Nat) (fun i => ⟨[(7, aI (i.1 : Int)), (8, aI (i.2 : Int)), (6, aI ((ks.map Str.c).length : Int)), (0, .iv (.sl (ks.map Str.c))), (1, aS key)], [], []⟩) (fun i => i.2 - i.1) (fun i => i.1 ≤ lbM ks key ∧ lbM ks key ≤ i.2 ∧ i.2 ≤ ks.length) (i0 := (0, ks.length)) ?_ ⟨Nat.zero_le _, hle, Nat.le_refl _⟩ ?_
  · refine Wk.mk' (by intro id h; cases h) (.cons rfl (Sub.refl _) (.cons rfl (Sub.of_eq ?_) (.cons rfl (Sub.refl _) (.cons rfl (Sub.refl _) (.cons rfl (Sub.refl _) .nil))))) .nil .nil
    simp
  rintro ⟨i, j⟩ ⟨h1, h2, h3⟩ K hK
  dsimp only at h1 h2 h3 ⊢
  cases hlt : decide ((i : Int) < (j : Int)) with
  | true =>
    have hij : i < j := by simpa using hlt
    have hh := half i j (by omega)
    have hm : (i + j) / 2 < ks.length := by omega
    obtain ⟨s, hs⟩ : ∃ s, ks[(i + j) / 2]? = some s := ⟨_, List.getElem?_eq_getElem hm⟩
    have g0 : 0 ≤ IntKind.i64.wrap ((IntKind.u64.wrap ((i : Int) + (j : Int))).fdiv (2 ^ min (Int.toNat 1) IntKind.u64.bits)) := by rw [hh]; omega
    have g1 : (ks.map Str.c)[(IntKind.i64.wrap ((IntKind.u64.wrap ((i : Int) + (j : Int))).fdiv (2 ^ min (Int.toNat 1) IntKind.u64.bits))).toNat]? = some [S s] := by rw [hh, Int.toNat_natCast, List.getElem?_map, hs]; rfl
    have g2 : -9223372036854775808 ≤ IntKind.i64.wrap ((IntKind.u64.wrap ((i : Int) + (j : Int))).fdiv (2 ^ min (Int.toNat 1) IntKind.u64.bits)) + 1 := by omega
    have g3 : IntKind.i64.wrap ((IntKind.u64.wrap ((i : Int) + (j : Int))).fdiv (2 ^ min (Int.toNat 1) IntKind.u64.bits)) + 1 ≤ 9223372036854775807 := by rw [hh]; omega
    cases hp : decide (s < key) with
    | true =>
      have := hf.le hs (by simpa using hp)
      (repeat' (first | (refine LW.is ?_; first | ((apply s_indexA; exact rfl; exact rfl; exact rfl; exact g0; exact g1; exact rfl)) | ((apply s_addI; exact rfl; exact rfl; exact rfl; exact g2; exact g3)) | ((apply s_call0; exact rfl; rotate_left; exact rfl; rotate_left 3; exact less_any s key; exact rfl)) | (refine s_nil ?_) | (apply s_mvIv; exact rfl; exact rfl) | (apply s_asIv; exact rfl; exact rfl) | (apply s_load1E; exact rfl; exact rfl; exact rfl) | (apply s_lssI; exact rfl; exact rfl; exact rfl) | (apply s_addI; exact rfl; exact rfl; exact rfl; (first | omega | decide | (dsimp only; omega)); (first | omega | decide | (dsimp only; omega))) | (apply s_conv; exact rfl; exact rfl) | (apply s_shrI; exact rfl; exact rfl; exact rfl; (first | decide | omega | (dsimp only; omega)))) | (refine c_seq ?_) | (refine L.block ?_) | (refine s_region ?_) | (refine L.thenN ?_) | (refine L.inN ?_) | (refine L.skip ?_) | (apply c_condT; exact rfl; (first | exact rfl | assumption))))
      refine hK _ ((i + j) / 2 + 1, j) ⟨by unfold lbM; omega, h2, h3⟩ (by dsimp only; omega) (Wk.mk' (by intro id h; cases h) (.cons rfl (Sub.of_eq (congrArg (fun z => aI z) ?_)) (.cons rfl (Sub.refl _) (.cons rfl (Sub.refl _) (.cons rfl (Sub.refl _) (.cons rfl (Sub.refl _) .nil))))) .nil .nil)
      rw [hh]; rfl
    | false =>
      have := Falls.ge (p := fun s => decide (s < key)) hs (by simpa using hp)
      (repeat' (first | (refine LW.is ?_; first | ((apply s_indexA; exact rfl; exact rfl; exact rfl; exact g0; exact g1; exact rfl)) | ((apply s_call0; exact rfl; rotate_left; exact rfl; rotate_left 3; exact less_any s key; exact rfl)) | (refine s_nil ?_) | (apply s_mvIv; exact rfl; exact rfl) | (apply s_asIv; exact rfl; exact rfl) | (apply s_load1E; exact rfl; exact rfl; exact rfl) | (apply s_lssI; exact rfl; exact rfl; exact rfl) | (apply s_addI; exact rfl; exact rfl; exact rfl; (first | omega | decide | (dsimp only; omega)); (first | omega | decide | (dsimp only; omega))) | (apply s_conv; exact rfl; exact rfl) | (apply s_shrI; exact rfl; exact rfl; exact rfl; (first | decide | omega | (dsimp only; omega)))) | (refine c_seq ?_) | (refine L.block ?_) | (refine s_region ?_) | (refine L.thenN ?_) | (refine L.inN ?_) | (refine L.skip ?_) | (apply c_condT; exact rfl; (first | exact rfl | assumption)) | (apply c_condF; exact rfl; (first | exact rfl | assumption))))
      refine hK _ (i, (i + j) / 2) ⟨h1, by unfold lbM; omega, by dsimp only; omega⟩ (by dsimp only; omega) (Wk.mk' (by intro id h; cases h) (.cons rfl (Sub.refl _) (.cons rfl (Sub.of_eq (congrArg (fun z => aI z) ?_)) (.cons rfl (Sub.refl _) (.cons rfl (Sub.refl _) (.cons rfl (Sub.refl _) .nil))))) .nil .nil)
      rw [hh]
  | false =>
    have hij : ¬ i < j := by simpa using hlt
    obtain rfl : i = lbM ks key := by omega
    cases hs : ks[lbM ks key]? with
    | none =>
      have hlt2 := ltF (l := ks.map Str.c) (getFN hs)
      (repeat' (first | (refine LW.is ?_; first | (refine s_nil ?_) | (apply s_mvIv; exact rfl; exact rfl) | (apply s_asIv; exact rfl; exact rfl) | (apply s_lssI; exact rfl; exact rfl; exact rfl) | (apply s_gskipT; exact rfl; exact rfl; exact rfl; (first | exact rfl | assumption)) | (apply s_gskipU; exact rfl; exact rfl; exact rfl) | (apply s_pickFIv; exact rfl; exact rfl; (first | exact rfl | assumption); exact rfl)) | (refine c_seq ?_) | (refine s_region ?_) | (refine L.thenN ?_) | (refine L.thenE ?_) | (refine L.inE ?_) | (refine L.ret ?_) | (refine L.exit ?_) | (apply c_condF; exact rfl; (first | exact rfl | assumption))))
      all_goals (first | (apply L.ends1; exact rfl; exact rfl; exact rfl) | (apply L.ends2; exact rfl; exact rfl; exact rfl) | (apply L.ends3; exact rfl; exact rfl; exact rfl) | (apply L.ends1A; exact rfl; exact rfl; exact rfl) | (apply L.ends2A; exact rfl; exact rfl; exact rfl))
      simp [foundM, hs]
    | some s =>
      have hlt2 := ltT (l := ks.map Str.c) (getF hs)
      have g1 : (ks.map Str.c)[((lbM ks key : Nat) : Int).toNat]? = some [S s] := by simp [hs, Str.c]
      cases hq : s == key with
      | true =>
        (repeat' (first | (refine LW.is ?_; first | ((apply s_indexA; exact rfl; exact rfl; exact rfl; omega; exact g1; exact rfl)) | (refine s_nil ?_) | (apply s_mvIv; exact rfl; exact rfl) | (apply s_asIv; exact rfl; exact rfl) | (apply s_load1E; exact rfl; exact rfl; exact rfl) | (apply s_lssI; exact rfl; exact rfl; exact rfl) | (apply s_eqlS; exact rfl; exact rfl; exact rfl) | (apply s_gdo; exact rfl; exact rfl; (first | exact rfl | assumption)) | (apply s_gskipF; exact rfl; exact rfl; exact rfl; (first | exact rfl | assumption)) | (apply s_gskipU; exact rfl; exact rfl; exact rfl) | (apply s_pickTIv; exact rfl; exact rfl; (first | exact rfl | assumption); exact rfl)) | (refine c_seq ?_) | (refine s_region ?_) | (refine L.thenN ?_) | (refine L.thenE ?_) | (refine L.inE ?_) | (refine L.ret ?_) | (refine L.exit ?_) | (apply c_condF; exact rfl; (first | exact rfl | assumption))))
        all_goals (first | (apply L.ends1; exact rfl; exact rfl; exact rfl) | (apply L.ends2; exact rfl; exact rfl; exact rfl) | (apply L.ends3; exact rfl; exact rfl; exact rfl) | (apply L.ends1A; exact rfl; exact rfl; exact rfl) | (apply L.ends2A; exact rfl; exact rfl; exact rfl))
        simp at hq
        simp [foundM, hs, hq]
      | false =>
        (repeat' (first | (refine LW.is ?_; first | ((apply s_indexA; exact rfl; exact rfl; exact rfl; omega; exact g1; exact rfl)) | ((apply s_call0; exact rfl; rotate_left; exact rfl; rotate_left 3; exact nanS3_any s; exact rfl)) | (refine s_nil ?_) | (apply s_mvIv; exact rfl; exact rfl) | (apply s_asIv; exact rfl; exact rfl) | (apply s_load1E; exact rfl; exact rfl; exact rfl) | (apply s_lssI; exact rfl; exact rfl; exact rfl) | (apply s_eqlS; exact rfl; exact rfl; exact rfl) | (apply s_gdo; exact rfl; exact rfl; (first | exact rfl | assumption)) | (apply s_gskipT; exact rfl; exact rfl; exact rfl; (first | exact rfl | assumption)) | (apply s_pickTIv; exact rfl; exact rfl; (first | exact rfl | assumption); exact rfl) | (apply s_pickFIv; exact rfl; exact rfl; (first | exact rfl | assumption); exact rfl)) | (refine c_seq ?_) | (refine s_region ?_) | (refine L.thenN ?_) | (refine L.thenE ?_) | (refine L.inE ?_) | (refine L.ret ?_) | (refine L.exit ?_) | (apply c_condF; exact rfl; (first | exact rfl | assumption))))
        all_goals (first | (apply L.ends1; exact rfl; exact rfl; exact rfl) | (apply L.ends2; exact rfl; exact rfl; exact rfl) | (apply L.ends3; exact rfl; exact rfl; exact rfl) | (apply L.ends1A; exact rfl; exact rfl; exact rfl) | (apply L.ends2A; exact rfl; exact rfl; exact rfl))
        simp at hq
        simp [foundM, hs, hq]
end Go.Proofs.YthkobnpogigkiaaDoor
