/- Trees, plain laws: what a range holds. Conditions: none. -/
import Derived.Test.YtanlhpdjgelehaaR5
namespace Go.Proofs.Ytanlhpdjgelehaa
open Go.Abs
set_option linter.unusedVariables false
set_option linter.unusedSimpArgs false

theorem prs_key {p : Pg} {x : Pr} (h : x ∈ p.prs) : x.1 ∈ p.ks := (List.of_mem_zip h).1
theorem fst_prs {p : Pg} (h : p.vs.length = p.ks.length) : p.prs.map Prod.fst = p.ks := by
  unfold Pg.prs; rw [List.map_fst_zip (by omega)]
theorem keys_flat {ps : List Pg} (h : ∀ p ∈ ps, okP p) : (flatP ps).map Prod.fst = keysT ps := by
  induction ps with
  | nil => rfl
  | cons p ps ih =>
    have e : flatP (p :: ps) = p.prs ++ flatP ps := rfl
    rw [e, List.map_append, fst_prs (h p (by simp)).2.2, ih (fun q hq => h q (by simp [hq]))]; rfl
theorem flatP_append (a b : List Pg) : flatP (a ++ b) = flatP a ++ flatP b := by simp [flatP]
theorem keysT_append (a b : List Pg) : keysT (a ++ b) = keysT a ++ keysT b := by simp [keysT]
theorem mem_flat_key {ps : List Pg} {x : Pr} (h : x ∈ flatP ps) : x.1 ∈ keysT ps := by
  obtain ⟨p, hp, hx⟩ := List.mem_flatMap.1 h
  exact List.mem_flatMap.2 ⟨p, hp, prs_key hx⟩
theorem pre_drop {key : Str} : ∀ (p : Pg), p.ks.Pairwise (· < ·) → p.prs.drop (lbM p.ks key) = p.prs.filter (fun x => !decide (x.1 < key)) := by
  rintro ⟨ks, vs⟩ h
  induction ks generalizing vs with
  | nil => simp [Pg.prs]
  | cons s ks ih =>
    cases vs with
    | nil => simp [Pg.prs]
    | cons v vs =>
      have hp := List.pairwise_cons.1 h
      have ih := ih vs hp.2
      simp only [Pg.prs, lbM, pre] at ih ⊢
      by_cases hs : s < key
      · simp only [hs, decide_true, if_true, List.zip_cons_cons, List.drop_succ_cons, List.filter_cons, Bool.not_true, Bool.false_eq_true, if_false]
        exact ih
      · have all : ∀ x ∈ (ks.zip vs), (!decide (x.1 < key)) = true := by
          intro x hx
          have hx1 : x.1 ∈ ks := (List.of_mem_zip (a := x.1) (b := x.2) hx).1
          have h1 := hp.1 _ hx1
          simp only [Bool.not_eq_true', decide_eq_false_iff_not]
          exact fun hc => hs (lt_trans' h1 hc)
        simp only [hs, decide_false, Bool.false_eq_true, if_false, List.zip_cons_cons, List.drop_zero, List.filter_cons, Bool.not_false, if_true]
        rw [List.filter_eq_self.2 all]
theorem le_trans' {a b c : Str} (h : a ≤ b) (k : b < c) : a < c := by
  refine List.not_le.1 (fun hc => ?_)
  exact absurd k (List.not_lt.2 (List.le_trans hc h))
theorem from_place {ps : List Pg} (lo : Str) (h : goodTree ps = true) : fromP ps (placeM ps lo).1 (placeM ps lo).2.1 = (flatP ps).filter (fun x => !decide (x.1 < lo)) := by
  obtain ⟨h1, h2⟩ := (good_iff ps).1 h
  have hs := sorted_of_good lo h
  cases hp : ps[pgOf ps lo]? with
  | none =>
    have : ps = [] := by
      cases ps with
      | nil => rfl
      | cons p t =>
        have hle := pre_le (fstLe lo) (p :: t)
        have := List.getElem?_eq_none_iff.1 hp
        simp only [pgOf, List.length_cons] at this hle; omega
    subst this
    rfl
  | some p =>
    have em : placeM ps lo = (pgOf ps lo, lbM p.ks lo, foundM p.ks lo) := by rw [placeM, hp]
    rw [em]
    dsimp only
    rw [fromP, hp]
    dsimp only
    have hmem := List.mem_of_getElem? hp
    have hi := (List.getElem?_eq_some_iff.1 hp).1
    have hsplit : ps = ps.take (pgOf ps lo) ++ p :: ps.drop (pgOf ps lo + 1) := by
      rw [← dropC hp, List.take_append_drop]
    have hk := keys_page h2 hmem
    have hkeys := h2
    rw [hsplit, keysT_append] at hkeys
    have hcons : keysT (p :: ps.drop (pgOf ps lo + 1)) = p.ks ++ keysT (ps.drop (pgOf ps lo + 1)) := rfl
    rw [hcons] at hkeys
    obtain ⟨_, hr, hcross⟩ := List.pairwise_append.1 hkeys
    obtain ⟨_, _, hcross2⟩ := List.pairwise_append.1 hr
    have hne := (h1 p hmem).1
    have before : (flatP (ps.take (pgOf ps lo))).filter (fun x => !decide (x.1 < lo)) = [] := by
      rw [List.filter_eq_nil_iff]
      intro x hx
      have hx1 := mem_flat_key hx
      have hpos : 0 < pgOf ps lo := by
        refine Nat.pos_of_ne_zero (fun e => ?_)
        rw [e] at hx; simp [flatP] at hx
      have hq : pgOf ps lo < pre (fstLe lo) ps := by unfold pgOf at hpos ⊢; omega
      have hf := pre_lt hp hq
      obtain ⟨ks, vs⟩ := p
      cases ks with
      | nil => simp at hne
      | cons s ks =>
        have hlt := hcross x.1 hx1 s (by simp)
        have hf : s ≤ lo := of_decide_eq_true hf
        have : x.1 < lo := by
          refine List.not_le.1 (fun hc => ?_)
          exact absurd hlt (List.not_lt.2 (List.le_trans hf hc))
        simp [this]
    have after : (flatP (ps.drop (pgOf ps lo + 1))).filter (fun x => !decide (x.1 < lo)) = flatP (ps.drop (pgOf ps lo + 1)) := by
      rw [List.filter_eq_self]
      intro x hx
      cases hq : ps.drop (pgOf ps lo + 1) with
      | nil => rw [hq] at hx; simp [flatP] at hx
      | cons q t =>
        have hq1 : ps[pgOf ps lo + 1]? = some q := by
          have := congrArg (fun l => l[0]?) hq
          simpa using this
        have hnot : fstLe lo q = false := by
          cases hfl : fstLe lo q with
          | false => rfl
          | true =>
            have := hs.pages.le hq1 hfl
            unfold pgOf at this; omega
        have hqmem := List.mem_of_getElem? hq1
        have hqne := (h1 q hqmem).1
        have hx1 := mem_flat_key hx
        rw [hq] at hx1
        have hsub : (keysT (q :: t)).Pairwise (· < ·) := by
          have := (List.pairwise_append.1 hr).2.1
          rwa [hq] at this
        obtain ⟨ks, vs⟩ := q
        cases ks with
        | nil => simp at hqne
        | cons s ks =>
          have hnot : ¬ s ≤ lo := of_decide_eq_false hnot
          have hlo : lo < s := List.not_le.1 hnot
          have hge : x.1 = s ∨ s < x.1 := by
            have e : keysT (⟨s :: ks, vs⟩ :: t) = s :: (ks ++ keysT t) := rfl
            rw [e] at hx1 hsub
            rcases List.mem_cons.1 hx1 with h | h
            · exact .inl h
            · exact .inr ((List.pairwise_cons.1 hsub).1 _ h)
          have : ¬ x.1 < lo := by
            rcases hge with h | h
            · rw [h]; exact List.lt_asymm hlo
            · exact List.lt_asymm (lt_trans' hlo h)
          simp [this]
    have hflat : flatP ps = flatP (ps.take (pgOf ps lo)) ++ (p.prs ++ flatP (ps.drop (pgOf ps lo + 1))) := by
      conv => lhs; rw [hsplit]
      rw [flatP_append]; rfl
    rw [hflat, List.filter_append, List.filter_append, before, after, ← pre_drop p hk]
    rfl
theorem take_filter {hi : Str} : ∀ {l : List Pr}, (l.map Prod.fst).Pairwise (· < ·) → l.takeWhile (fun x => decide (x.1 < hi)) = l.filter (fun x => decide (x.1 < hi))
  | [], _ => rfl
  | x :: l, h => by
    simp only [List.map_cons] at h
    have hp := List.pairwise_cons.1 h
    rw [List.takeWhile_cons, List.filter_cons]
    by_cases hx : x.1 < hi
    · simp only [hx, decide_true, if_true]; rw [take_filter hp.2]
    · simp only [hx, decide_false, Bool.false_eq_true, if_false]
      rw [eq_comm, List.filter_eq_nil_iff]
      intro y hy
      have := hp.1 y.1 (List.mem_map.2 ⟨y, hy, rfl⟩)
      simp only [decide_eq_true_eq]
      exact fun hc => hx (lt_trans' this hc)
/-- P2.2: a range -/
theorem range_law {ps : List Pg} (lo hi : Str) (h : goodTree ps = true) : rangeM ps lo hi = (flatP ps).filter (fun x => !decide (x.1 < lo) && decide (x.1 < hi)) := by
  obtain ⟨h1, h2⟩ := (good_iff ps).1 h
  have hk : ((flatP ps).map Prod.fst).Pairwise (· < ·) := by rw [keys_flat h1]; exact h2
  rw [rangeM, if_pos h, from_place lo h, take_filter, List.filter_filter]
  · congr 1; funext x; rw [Bool.and_comm]
  · exact hk.sublist (List.Sublist.map _ List.filter_sublist)
end Go.Proofs.Ytanlhpdjgelehaa
