/- Trees, plain laws: a good tree's keys rise. Conditions: none. -/
import Derived.Test.YtanlhpdjgelehaaR4
namespace Go.Proofs.Ytanlhpdjgelehaa
open Go.Abs
set_option linter.unusedVariables false
set_option linter.unusedSimpArgs false

theorem lt_trans' {a b c : Str} (h : a < b) (k : b < c) : a < c := List.lt_trans h k
theorem rises_some : ∀ (l : List Str) (a : Str), risesM (some a) l = true ↔ (a :: l).Pairwise (· < ·)
  | [], a => by simp [risesM]
  | s :: l, a => by
    rw [risesM, Bool.and_eq_true, rises_some l s, decide_eq_true_eq]
    constructor
    · rintro ⟨h1, h2⟩
      refine List.pairwise_cons.2 ⟨fun x hx => ?_, h2⟩
      rcases List.mem_cons.1 hx with rfl | hx
      · exact h1
      · exact lt_trans' h1 ((List.pairwise_cons.1 h2).1 x hx)
    · intro h
      have := List.pairwise_cons.1 h
      exact ⟨this.1 s (by simp), this.2⟩
theorem rises_none : ∀ (l : List Str), risesM none l = true ↔ l.Pairwise (· < ·)
  | [] => by simp [risesM]
  | s :: l => by rw [risesM, rises_some]
def okP (p : Pg) : Prop := 1 ≤ p.ks.length ∧ p.ks.length ≤ 4 ∧ p.vs.length = p.ks.length
def keysT (ps : List Pg) : List Str := ps.flatMap Pg.ks
theorem last_some : ∀ (l : List Str) (a : Str), ∃ b, lastM (some a) l = some b ∧ (a :: l).getLast? = some b
  | [], a => ⟨a, rfl, rfl⟩
  | s :: l, a => by
    obtain ⟨b, h1, h2⟩ := last_some l s
    exact ⟨b, h1, by rw [List.getLast?_cons_cons]; exact h2⟩
theorem risesM_append : ∀ (l m : List Str) (o : Option Str), risesM o (l ++ m) = (risesM o l && risesM (lastM o l) m)
  | [], m, o => by simp [risesM, lastM]
  | s :: l, m, none => by simp [risesM, lastM, risesM_append l m]
  | s :: l, m, some a => by simp [risesM, lastM, risesM_append l m, Bool.and_assoc]
theorem lastM_append : ∀ (l m : List Str) (o : Option Str), lastM o (l ++ m) = lastM (lastM o l) m
  | [], m, o => rfl
  | s :: l, m, o => by simp [lastM, lastM_append l m]
theorem goodT_iff : ∀ (ps : List Pg) (o : Option Str), goodT o ps = true ↔ (∀ p ∈ ps, okP p) ∧ risesM o (keysT ps) = true
  | [], o => by cases o <;> simp [goodT, keysT, risesM]
  | p :: ps, o => by
    rw [goodT]
    simp only [Bool.and_eq_true, decide_eq_true_eq, goodT_iff ps, keysT, List.flatMap_cons, risesM_append, List.mem_cons, forall_eq_or_imp, okP]
    constructor
    · rintro ⟨a, b, c, d, e, f⟩; exact ⟨⟨⟨a, b, c⟩, e⟩, d, f⟩
    · rintro ⟨⟨⟨a, b, c⟩, e⟩, d, f⟩; exact ⟨a, b, c, d, e, f⟩
theorem good_iff (ps : List Pg) : goodTree ps = true ↔ (∀ p ∈ ps, okP p) ∧ (keysT ps).Pairwise (· < ·) := by
  rw [goodTree, goodT_iff, rises_none]

theorem falls_keys {ks : List Str} (key : Str) (h : ks.Pairwise (· < ·)) : Falls (fun s => decide (s < key)) ks := by
  intro i j x y hij hx hy hp
  simp only [decide_eq_true_eq] at hp ⊢
  rcases Nat.lt_or_eq_of_le hij with h1 | rfl
  · obtain ⟨hi', ex⟩ := List.getElem?_eq_some_iff.1 hx
    obtain ⟨hj', ey⟩ := List.getElem?_eq_some_iff.1 hy
    have := List.pairwise_iff_getElem.1 h i j hi' hj' h1
    rw [ex, ey] at this
    exact lt_trans' this hp
  · rw [hx] at hy; cases hy; exact hp
theorem keys_page {ps : List Pg} (h : (keysT ps).Pairwise (· < ·)) {p : Pg} (hp : p ∈ ps) : p.ks.Pairwise (· < ·) := by
  obtain ⟨a, b, rfl⟩ := List.append_of_mem hp
  simp only [keysT, List.flatMap_append, List.flatMap_cons] at h
  exact (List.pairwise_append.1 (List.pairwise_append.1 h).2.1).1
theorem sorted_of_good {ps : List Pg} (key : Str) (h : goodTree ps = true) : Sorted ps key := by
  obtain ⟨h1, h2⟩ := (good_iff ps).1 h
  refine ⟨fun p hp e => ?_, fun p hp => (h1 p hp).2.1, fun p hp => (h1 p hp).2.2, ?_, fun p hp => falls_keys key (keys_page h2 hp)⟩
  · have := (h1 p hp).1; rw [e] at this; simp at this
  · intro i j x y hij hx hy hpy
    simp only [fstLe, decide_eq_true_eq] at hpy ⊢
    rcases Nat.lt_or_eq_of_le hij with hlt | rfl
    · obtain ⟨hi', ex⟩ := List.getElem?_eq_some_iff.1 hx
      obtain ⟨hj', ey⟩ := List.getElem?_eq_some_iff.1 hy
      have hx1 := (h1 x (List.mem_of_getElem? hx)).1
      have hy1 := (h1 y (List.mem_of_getElem? hy)).1
      obtain ⟨kx, vx⟩ := x
      obtain ⟨ky, vy⟩ := y
      cases kx with
      | nil => simp at hx1
      | cons a kx =>
        cases ky with
        | nil => simp at hy1
        | cons b ky =>
          have hab : a < b := by
            have hsp : ps = ps.take j ++ ps.drop j := (List.take_append_drop j ps).symm
            rw [hsp, keysT, List.flatMap_append] at h2
            have h3 := (List.pairwise_append.1 h2).2.2
            refine h3 a (List.mem_flatMap.2 ⟨⟨a :: kx, vx⟩, ?_, by simp⟩) b (List.mem_flatMap.2 ⟨⟨b :: ky, vy⟩, ?_, by simp⟩)
            · rw [← ex]; exact List.mem_take_iff_getElem.2 ⟨i, by omega, rfl⟩
            · rw [← ey]; exact List.mem_of_getElem? (i := 0) (by rw [List.getElem?_drop, Nat.add_zero]; exact List.getElem?_eq_getElem hj')
          simp only [List.headD_cons] at hpy ⊢
          exact List.not_lt.1 (fun hc => (List.not_lt.2 hpy) (lt_trans' hc hab))
    · rw [hx] at hy; cases hy; exact hpy
end Go.Proofs.Ytanlhpdjgelehaa
