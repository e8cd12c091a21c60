/- What comes in, as the model's values: pages. Conditions: none. -/
import Derived.Test.YtanlhpdjgelehaaK0
import Derived.Test.YtanlhpdjgelehaaR1
namespace Go.Proofs.Ytanlhpdjgelehaa
open Go.Abs
set_option linter.unusedVariables false
set_option maxRecDepth 100000

theorem fit_strs {x : IV} (h : Fit book (.sl 9) x) : ∃ l : List Str, x = .sl (l.map Str.c) ∧ l.length * 16 ≤ reachBytes ∧ ∀ s ∈ l, s.length ≤ reachBytes := by
  obtain ⟨es, rfl, hl, he⟩ := h.sl_inv (n := 16) (cts := [.str]) rfl
  obtain ⟨vs, rfl, hv⟩ := map_of (f := Str.c) (Q := fun _ v => v.length ≤ reachBytes) (fun e h => by
    obtain ⟨y, ys, rfl, h1, h2⟩ := (he e h).cons_inv
    obtain rfl := h2.nil_inv
    obtain ⟨s, rfl, hs⟩ := h1.str_inv
    exact ⟨s, rfl, hs⟩)
  exact ⟨vs, rfl, by simpa using hl, hv⟩
structure wfP (p : Pg) : Prop where
  ks : p.ks.length * 16 ≤ reachBytes
  vs : p.vs.length * 16 ≤ reachBytes
theorem fit_page {xs : List IV} (h : Fits book [.sl 9, .sl 9] xs) : ∃ p : Pg, xs = p.c ∧ wfP p := by
  obtain ⟨x, xs, rfl, h1, h⟩ := h.cons_inv
  obtain ⟨y, xs, rfl, h2, h⟩ := h.cons_inv
  obtain rfl := h.nil_inv
  obtain ⟨ks, rfl, a, _⟩ := fit_strs h1
  obtain ⟨vs, rfl, b, _⟩ := fit_strs h2
  exact ⟨⟨ks, vs⟩, rfl, a, b⟩
theorem fit_tree {xs : List IV} (h : Fits book [.sl 79] xs) : ∃ ps : List Pg, xs = [.sl (ps.map Pg.c)] ∧ ps.length * 48 ≤ reachBytes ∧ ∀ p ∈ ps, wfP p := by
  obtain ⟨x, xs, rfl, h1, h⟩ := h.cons_inv
  obtain rfl := h.nil_inv
  obtain ⟨es, rfl, hl, he⟩ := h1.sl_inv (n := 48) (cts := [.sl 9, .sl 9]) rfl
  obtain ⟨ps, rfl, hv⟩ := map_of (f := Pg.c) (Q := fun _ v => wfP v) (fun e h => fit_page (he e h))
  exact ⟨ps, rfl, by simpa using hl, hv⟩
end Go.Proofs.Ytanlhpdjgelehaa
