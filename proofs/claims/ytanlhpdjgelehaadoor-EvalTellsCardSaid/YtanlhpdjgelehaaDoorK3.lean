/- What comes in, as the model's values: expressions. Conditions: none. -/
import Derived.Test.YtanlhpdjgelehaaDoorK
import Derived.Test.YtanlhpdjgelehaaDoorW3
namespace Go.Proofs.YtanlhpdjgelehaaDoor
open Go.Abs
set_option linter.unusedVariables false

theorem szs_mem {es : List (List IV)} {e : List IV} (h : e ∈ es) : szs e ≤ szss es := by
  induction es with
  | nil => cases h
  | cons x es ih =>
    simp only [szss]
    rcases List.mem_cons.1 h with rfl | h
    · omega
    · have := ih h; omega
theorem fit_ex : ∀ (n : Nat) {xs : List IV}, szs xs ≤ n → Fits book [.int .i64, .int .i64, .int .i64, .str, .str, .str, .int .i64, .sl 32] xs → ∃ e : Ex, xs = e.c ∧ e.Ok ∧ e.Str := by
  intro n
  induction n with
  | zero =>
    intro xs hn h
    obtain ⟨x1, xs, rfl, h1, h⟩ := h.cons_inv
    have := sz_pos x1
    simp only [szs] at hn; omega
  | succ n ih =>
    intro xs hn h
    obtain ⟨x1, xs, rfl, h1, h⟩ := h.cons_inv
    obtain ⟨x2, xs, rfl, h2, h⟩ := h.cons_inv
    obtain ⟨x3, xs, rfl, h3, h⟩ := h.cons_inv
    obtain ⟨x4, xs, rfl, h4, h⟩ := h.cons_inv
    obtain ⟨x5, xs, rfl, h5, h⟩ := h.cons_inv
    obtain ⟨x6, xs, rfl, h6, h⟩ := h.cons_inv
    obtain ⟨x7, xs, rfl, h7, h⟩ := h.cons_inv
    obtain ⟨x8, xs, rfl, h8, h⟩ := h.cons_inv
    obtain rfl := h.nil_inv
    obtain ⟨es, rfl, hl, he⟩ := h8.sl_inv (n := 104) (cts := [.int .i64, .int .i64, .int .i64, .str, .str, .str, .int .i64, .sl 32]) rfl
    have hsz : szss es ≤ n := by
      have := sz_pos x1
      simp only [szs, IV.sz] at hn; omega
    obtain ⟨l, rfl, hok⟩ := map_of (f := Ex.c) (Q := fun _ e => e.Ok ∧ e.Str) (fun e h => ih (Nat.le_trans (szs_mem h) hsz) (he e h))
    obtain ⟨op, rfl, _⟩ := h1.int_inv
    obtain ⟨k, rfl, _⟩ := h2.int_inv
    obtain ⟨m, rfl, _⟩ := h3.int_inv
    obtain ⟨s1, rfl, hs1⟩ := h4.str_inv
    obtain ⟨s2, rfl, _⟩ := h5.str_inv
    obtain ⟨s3, rfl, _⟩ := h6.str_inv
    obtain ⟨q, rfl, _⟩ := h7.int_inv
    have hr : reachBytes = 140737488351232 := rfl
    refine ⟨.mk op ⟨k, m, s1⟩ s2 s3 q l, by rw [Ex.c_eq], .mk (by simp only [List.length_map] at hl; omega) (fun x hx => (hok x hx).1), .mk (by dsimp only; omega) (fun x hx => (hok x hx).2)⟩
end Go.Proofs.YtanlhpdjgelehaaDoor
