/- What comes in, as the model's values: values, and lists of them. Conditions: none. -/
import Derived.Test.YtanlhpdjgelehaaDoorRows
import Derived.Test.YtanlhpdjgelehaaDoorO2
import Derived.Test.YtanlhpdjgelehaaDoorV2
namespace Go.Proofs.YtanlhpdjgelehaaDoor
open Go.Abs
set_option linter.unusedVariables false
set_option maxRecDepth 100000

theorem bulk_all {H : Type} : ∀ (ds : List (DataW H)), bulkAll Rows.uptoBulk ds = Rows.uptoBulkAll ds
  | [] => rfl
  | d :: ds => by
    have := bulk_all ds
    simp only [bulkAll, List.map_cons, List.foldr_cons, Rows.uptoBulkAll] at this ⊢
    omega
theorem bulk {H : Type} : Bulk (H := H) Rows.uptoBulk where
  str s := by simp [Rows.uptoBulk]
  lit l := by cases l <;> simp [Rows.uptoBulk]
  nil := by simp [Rows.uptoBulk]
  slice es sp := by rw [bulk_all]; simp only [Rows.uptoBulk]; omega
  agg es := by rw [bulk_all]; simp only [Rows.uptoBulk]; omega

def book : Book := [(3, 8, [.int .i64]), (5, 1, [.int .u8]), (23, 32, [.int .i64, .int .i64, .str]), (32, 104, [.int .i64, .int .i64, .int .i64, .str, .str, .str, .int .i64, .sl 32])]
theorem book_ok : book.ok Tryd.prog = true := by kernel_rfl

theorem sz_pos (x : IV) : 1 ≤ x.sz := by
  cases x with
  | im v => cases v <;> simp [IV.sz]
  | sl es => simp [IV.sz]
theorem szs_pos {e : List IV} (h : 0 < e.length) : 1 ≤ szs e := by
  cases e with
  | nil => simp at h
  | cons x e => have := sz_pos x; simp only [szs]; omega
theorem szss_len : ∀ {es : List (List IV)}, (∀ e ∈ es, 0 < e.length) → es.length ≤ szss es
  | [], _ => by simp [szss]
  | e :: es, h => by
    have := szs_pos (h e (by simp))
    have := szss_len (es := es) (fun e he => h e (by simp [he]))
    simp only [szss, List.length_cons]; omega
theorem sz_S (s : List UInt8) : (S s).sz = s.length + 1 := by simp [IV.sz, ByteArray.size]

def isI64 (n : Int) : Prop := -9223372036854775808 ≤ n ∧ n ≤ 9223372036854775807
/-- a value that came in -/
structure wfV (v : Val) : Prop where
  k : isI64 v.k
  n : isI64 v.n
  s : v.s.length ≤ reachBytes
theorem fit_val {xs : List IV} (h : Fits book [.int .i64, .int .i64, .str] xs) : ∃ v : Val, xs = v.c ∧ wfV v := by
  obtain ⟨x, xs, rfl, h1, h⟩ := h.cons_inv
  obtain ⟨y, xs, rfl, h2, h⟩ := h.cons_inv
  obtain ⟨z, xs, rfl, h3, h⟩ := h.cons_inv
  obtain rfl := h.nil_inv
  obtain ⟨k, rfl, a1, a2⟩ := h1.int_inv
  obtain ⟨n, rfl, b1, b2⟩ := h2.int_inv
  obtain ⟨s, rfl, c⟩ := h3.str_inv
  exact ⟨⟨k, n, s⟩, rfl, ⟨a1, a2⟩, ⟨b1, b2⟩, c⟩
theorem fit_vals {x : IV} (h : Fit book (.sl 23) x) : ∃ vs : List Val, x = .sl (vs.map Val.c) ∧ vs.length * 32 ≤ reachBytes ∧ vs.length ≤ x.sz ∧ ∀ v ∈ vs, wfV v := by
  obtain ⟨es, rfl, hl, he⟩ := h.sl_inv (n := 32) (cts := [.int .i64, .int .i64, .str]) rfl
  obtain ⟨vs, rfl, hv⟩ := map_of (f := Val.c) (Q := fun _ v => wfV v) (fun e h => fit_val (he e h))
  refine ⟨vs, rfl, by simpa using hl, ?_, hv⟩
  have := szss_len (es := vs.map Val.c) (fun e he => by
    obtain ⟨v, _, rfl⟩ := List.mem_map.1 he
    simp [Val.c])
  simp only [IV.sz, List.length_map] at this ⊢; omega
end Go.Proofs.YtanlhpdjgelehaaDoor
