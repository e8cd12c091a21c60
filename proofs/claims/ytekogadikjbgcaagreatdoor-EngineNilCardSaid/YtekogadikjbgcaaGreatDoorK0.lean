/- What comes in, as the model's values: the book of the seat's types, and sizes. Conditions: none. -/
import Derived.Test.YtekogadikjbgcaaGreatDoorRows
import Derived.Test.YtekogadikjbgcaaGreatDoorO2
import Derived.Test.YtekogadikjbgcaaGreatDoorT
namespace Go.Proofs.YtekogadikjbgcaaGreatDoor
open Go.Abs
set_option linter.unusedVariables false
set_option maxRecDepth 100000

theorem bulk_all {H : Type} : ∀ (ds : List (DataW H)), bulkAll Rows.uptoBulk ds = Rows.uptoBulkAll ds
  | [] => rfl
  | d :: ds => by
    have := bulk_all ds
    simp only [bulkAll, List.map_cons, List.foldr_cons, Rows.uptoBulkAll] at this ⊢
    omega
theorem bulk {H : Type} : Bulk (H := H) Rows.uptoBulk where
  str s := by simp [Rows.uptoBulk]
  lit l := by cases l <;> simp [Rows.uptoBulk]
  nil := by simp [Rows.uptoBulk]
  slice es sp := by rw [bulk_all]; simp only [Rows.uptoBulk]; omega
  agg es := by rw [bulk_all]; simp only [Rows.uptoBulk]; omega

def book : Book := [(3, 8, [.int .i64]), (5, 1, [.int .u8]), (9, 16, [.str]), (50, 24, [.sl 9]), (51, 24, [.sl 55]), (53, 32, [.int .i64, .int .i64, .str]), (55, 104, [.int .i64, .int .i64, .int .i64, .str, .str, .str, .int .i64, .sl 55]), (57, 320, [.int .i64, .str, .str, .str, .sl 69, .sl 51, .sl 113, .sl 9, .sl 55, .int .i64, .int .i64, .int .i64, .str, .str, .str, .int .i64, .sl 55, .sl 55, .bool, .int .i64]), (64, 48, [.str, .str, .str]), (66, 40, [.str, .sl 69]), (69, 32, [.str, .int .i64, .bool]), (71, 48, [.sl 9, .sl 9]), (74, 24, [.sl 53]), (113, 120, [.str, .int .i64, .int .i64, .int .i64, .str, .str, .str, .int .i64, .sl 55])]
theorem book_ok : book.ok Tryz.prog = true := by kernel_rfl

theorem sz_pos (x : IV) : 1 ≤ x.sz := by
  cases x with
  | im v => cases v <;> simp [IV.sz]
  | sl es => simp [IV.sz]
theorem szs_pos {e : List IV} (h : 0 < e.length) : 1 ≤ szs e := by
  cases e with
  | nil => simp at h
  | cons x e => have := sz_pos x; simp only [szs]; omega
theorem szss_len : ∀ {es : List (List IV)}, (∀ e ∈ es, 0 < e.length) → es.length ≤ szss es
  | [], _ => by simp [szss]
  | e :: es, h => by
    have := szs_pos (h e (by simp))
    have := szss_len (es := es) (fun e he => h e (by simp [he]))
    simp only [szss, List.length_cons]; omega
theorem sz_S (s : List UInt8) : (S s).sz = s.length + 1 := by simp [IV.sz, ByteArray.size]

end Go.Proofs.YtekogadikjbgcaaGreatDoor
