/- What comes in, as the model's values: the book of the seat's types, and sizes. Conditions: none. -/
import Derived.Test.YtanlhpdjgelehaaRows
import Derived.Test.YtanlhpdjgelehaaO2
import Derived.Test.YtanlhpdjgelehaaT
namespace Go.Proofs.Ytanlhpdjgelehaa
open Go.Abs
set_option linter.unusedVariables false
set_option maxRecDepth 100000

theorem bulk_all {H : Type} : ∀ (ds : List (DataW H)), bulkAll Rows.uptoBulk ds = Rows.uptoBulkAll ds
  | [] => rfl
  | d :: ds => by
    have := bulk_all ds
    simp only [bulkAll, List.map_cons, List.foldr_cons, Rows.uptoBulkAll] at this ⊢
    omega
theorem bulk {H : Type} : Bulk (H := H) Rows.uptoBulk where
  str s := by simp [Rows.uptoBulk]
  lit l := by cases l <;> simp [Rows.uptoBulk]
  nil := by simp [Rows.uptoBulk]
  slice es sp := by rw [bulk_all]; simp only [Rows.uptoBulk]; omega
  agg es := by rw [bulk_all]; simp only [Rows.uptoBulk]; omega

def book : Book := [(3, 8, [.int .i64]), (5, 1, [.int .u8]), (9, 16, [.str]), (36, 32, [.int .i64, .int .i64, .str]), (39, 104, [.int .i64, .int .i64, .int .i64, .str, .str, .str, .int .i64, .sl 39]), (46, 24, [.sl 9]), (62, 32, [.str, .str]), (79, 48, [.sl 9, .sl 9])]
theorem book_ok : book.ok Try.prog = true := by kernel_rfl

theorem sz_pos (x : IV) : 1 ≤ x.sz := by
  cases x with
  | im v => cases v <;> simp [IV.sz]
  | sl es => simp [IV.sz]
theorem szs_pos {e : List IV} (h : 0 < e.length) : 1 ≤ szs e := by
  cases e with
  | nil => simp at h
  | cons x e => have := sz_pos x; simp only [szs]; omega
theorem szss_len : ∀ {es : List (List IV)}, (∀ e ∈ es, 0 < e.length) → es.length ≤ szss es
  | [], _ => by simp [szss]
  | e :: es, h => by
    have := szs_pos (h e (by simp))
    have := szss_len (es := es) (fun e he => h e (by simp [he]))
    simp only [szss, List.length_cons]; omega
theorem sz_S (s : List UInt8) : (S s).sz = s.length + 1 := by simp [IV.sz, ByteArray.size]

end Go.Proofs.Ytanlhpdjgelehaa
