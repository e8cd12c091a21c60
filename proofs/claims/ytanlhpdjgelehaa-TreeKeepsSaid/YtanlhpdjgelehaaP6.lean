/- Trees, plain laws: what is put is there, what is dropped is not, all else is as it was. Conditions: none. -/
import Derived.Test.YtanlhpdjgelehaaP5
namespace Go.Proofs.Ytanlhpdjgelehaa
open Go.Abs
set_option linter.unusedVariables false
set_option linter.unusedSimpArgs false

def SortF (l : List Pr) : Prop := (l.map Prod.fst).Pairwise (· < ·)
theorem lt_tri (a b : Str) : a < b ∨ a = b ∨ b < a := by
  by_cases h : a < b
  · exact .inl h
  · by_cases h2 : b < a
    · exact .inr (.inr h2)
    · exact .inr (.inl (List.le_antisymm (List.not_lt.1 h2) (List.not_lt.1 h)))
theorem cut_sorted (k : Str) : ∀ {l : List Pr}, SortF l → ∃ a b : List Pr, (∀ x ∈ a, x.1 < k) ∧ (∀ x ∈ b, k < x.1) ∧ (l = a ++ b ∨ ∃ w, l = a ++ (k, w) :: b)
  | [], _ => ⟨[], [], by simp, by simp, .inl rfl⟩
  | (s, u) :: l, h => by
    have hp := List.pairwise_cons.1 h
    rcases lt_tri s k with h1 | rfl | h1
    · obtain ⟨a, b, ha, hb, hc⟩ := cut_sorted k (l := l) hp.2
      refine ⟨(s, u) :: a, b, fun x hx => ?_, hb, ?_⟩
      · rcases List.mem_cons.1 hx with rfl | hx
        · exact h1
        · exact ha x hx
      · rcases hc with rfl | ⟨w, rfl⟩
        · exact .inl rfl
        · exact .inr ⟨w, rfl⟩
    · exact ⟨[], l, by simp, fun x hx => hp.1 _ (List.mem_map.2 ⟨x, hx, rfl⟩), .inr ⟨u, rfl⟩⟩
    · refine ⟨[], (s, u) :: l, by simp, fun x hx => ?_, .inl rfl⟩
      rcases List.mem_cons.1 hx with rfl | hx
      · exact h1
      · exact lt_trans' h1 (hp.1 _ (List.mem_map.2 ⟨x, hx, rfl⟩))
theorem put_find {l : List Pr} {k v : Str} (h : SortF l) : findF (putF l k v) k = (v, true) := by
  obtain ⟨a, b, ha, hb, rfl | ⟨w, rfl⟩⟩ := cut_sorted k h
  · rw [put_new ha hb, find_old ha]
  · rw [put_old ha hb, find_old ha]
theorem drop_find {l : List Pr} {k : Str} (h : SortF l) : findF (dropF l k) k = ([], false) := by
  obtain ⟨a, b, ha, hb, rfl | ⟨w, rfl⟩⟩ := cut_sorted k h
  · rw [drop_new ha hb, find_new ha hb]
  · rw [drop_old ha hb, find_new ha hb]
theorem put_size {l : List Pr} {k v : Str} (h : SortF l) : (putF l k v).length = if (findF l k).2 then l.length else l.length + 1 := by
  obtain ⟨a, b, ha, hb, rfl | ⟨w, rfl⟩⟩ := cut_sorted k h
  · rw [put_new ha hb, find_new ha hb]; simp; omega
  · rw [put_old ha hb, find_old ha]; simp
theorem drop_size {l : List Pr} {k : Str} (h : SortF l) : (dropF l k).length = if (findF l k).2 then l.length - 1 else l.length := by
  obtain ⟨a, b, ha, hb, rfl | ⟨w, rfl⟩⟩ := cut_sorted k h
  · rw [drop_new ha hb, find_new ha hb]; simp
  · rw [drop_old ha hb, find_old ha]; simp
theorem find_has {l : List Pr} {k : Str} (h : (findF l k).2 = true) : 0 < l.length := by
  cases l with
  | nil => simp [findF] at h
  | cons a l => simp
theorem sort_inj {l : List Pr} (h : SortF l) {o a b : Str} (ha : (o, a) ∈ l) (hb : (o, b) ∈ l) : a = b := by
  induction l with
  | nil => simp at ha
  | cons x l ih =>
    have hp := List.pairwise_cons.1 h
    rcases List.mem_cons.1 ha with ea | ha' <;> rcases List.mem_cons.1 hb with eb | hb'
    · rw [← ea] at eb; exact (Prod.mk.inj eb).2.symm
    · subst ea; exact absurd (hp.1 o (List.mem_map.2 ⟨_, hb', rfl⟩)) (List.lt_irrefl o)
    · subst eb; exact absurd (hp.1 o (List.mem_map.2 ⟨_, ha', rfl⟩)) (List.lt_irrefl o)
    · exact ih hp.2 ha' hb'
theorem find_some {l : List Pr} {o w : Str} (hs : SortF l) (h : (o, w) ∈ l) : findF l o = (w, true) := by
  unfold findF
  cases hf : l.find? (fun x => x.1 == o) with
  | none => have := List.find?_eq_none.1 hf _ h; simp at this
  | some y =>
    have h1 := List.mem_of_find?_eq_some hf
    have h2 := List.find?_some hf
    obtain ⟨y1, y2⟩ := y
    have h2 : y1 = o := eq_of_beq h2
    subst h2
    simp only [sort_inj hs h1 h]
theorem find_no {l : List Pr} {o : Str} (h : ∀ w, (o, w) ∉ l) : findF l o = ([], false) := by
  rw [findF, find_none (fun x hx => ?_)]
  cases e : x.1 == o with
  | false => rfl
  | true => have e := eq_of_beq e; subst e; exact absurd hx (h x.2)
theorem find_eq {l m : List Pr} {o : Str} (hl : SortF l) (hm : SortF m) (h : ∀ w, (o, w) ∈ l ↔ (o, w) ∈ m) : findF l o = findF m o := by
  by_cases hx : ∃ w, (o, w) ∈ l
  · obtain ⟨w, hw⟩ := hx
    rw [find_some hl hw, find_some hm ((h w).1 hw)]
  · have hx : ∀ w, (o, w) ∉ l := fun w hw => hx ⟨w, hw⟩
    rw [find_no hx, find_no (fun w hw => hx w ((h w).2 hw))]
theorem put_other {l : List Pr} {k v o : Str} (h : SortF l) (ho : o ≠ k) : findF (putF l k v) o = findF l o := by
  refine find_eq (put_sorted h) h (fun w => ?_)
  simp only [putF, List.mem_append, List.mem_cons, List.mem_filter, decide_eq_true_eq, Prod.mk.injEq]
  constructor
  · rintro (⟨h, _⟩ | ⟨h, _⟩ | ⟨h, _⟩)
    · exact h
    · exact absurd h ho
    · exact h
  · intro h
    rcases lt_tri o k with h1 | h1 | h1
    · exact .inl ⟨h, h1⟩
    · exact absurd h1 ho
    · exact .inr (.inr ⟨h, h1⟩)
theorem drop_other {l : List Pr} {k o : Str} (h : SortF l) (ho : o ≠ k) : findF (dropF l k) o = findF l o := by
  refine find_eq (drop_sorted h) h (fun w => ?_)
  simp only [dropF, List.mem_filter]
  constructor
  · exact fun h => h.1
  · exact fun h => ⟨h, by simpa using ho⟩
theorem size_le {ps : List Pg} (h : ∀ p ∈ ps, okP p) : sizeM ps ≤ 4 * ps.length := by
  rw [size_flat h]; exact flatP_len (fun p hp => (h p hp).2.1)
end Go.Proofs.Ytanlhpdjgelehaa
