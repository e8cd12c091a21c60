/- Trees, plain laws: what Put, Drop, Get and Size do to the keys and texts of a good tree: what is put is there, what is dropped is not, all else is as it was. Conditions: none. -/
import Derived.Test.YtanlhpdjgelehaaR14
import Derived.Test.YtanlhpdjgelehaaP4
namespace Go.Proofs.Ytanlhpdjgelehaa
open Go.Abs
set_option linter.unusedVariables false
set_option linter.unusedSimpArgs false

def putF (l : List Pr) (k v : Str) : List Pr := l.filter (fun x => decide (x.1 < k)) ++ (k, v) :: l.filter (fun x => decide (k < x.1))
def dropF (l : List Pr) (k : Str) : List Pr := l.filter (fun x => !(x.1 == k))
def findF (l : List Pr) (k : Str) : Str × Bool := match l.find? (fun x => x.1 == k) with
  | some x => (x.2, true)
  | none => ([], false)

theorem ltne {a b : Str} (h : a < b) : (a == b) = false := by
  cases e : a == b with
  | false => rfl
  | true => rw [eq_of_beq e] at h; exact absurd h (List.lt_irrefl b)
theorem gtne {a b : Str} (h : a < b) : (b == a) = false := by
  cases e : b == a with
  | false => rfl
  | true => rw [eq_of_beq e] at h; exact absurd h (List.lt_irrefl a)
theorem fil_all {p : Pr → Bool} {l : List Pr} (h : ∀ x ∈ l, p x = true) : l.filter p = l := List.filter_eq_self.2 h
theorem fil_none {p : Pr → Bool} {l : List Pr} (h : ∀ x ∈ l, p x = false) : l.filter p = [] := List.filter_eq_nil_iff.2 (fun x hx => by simp [h x hx])
theorem find_none {l : List Pr} {k : Str} (h : ∀ x ∈ l, (x.1 == k) = false) : l.find? (fun x => x.1 == k) = none := List.find?_eq_none.2 (fun x hx => by simp [h x hx])
section
variable {a b : List Pr} {k v w : Str} (ha : ∀ x ∈ a, x.1 < k) (hb : ∀ x ∈ b, k < x.1)
include ha hb
theorem put_new : putF (a ++ b) k v = a ++ (k, v) :: b := by
  rw [putF, List.filter_append, List.filter_append, fil_all (l := a) (fun x hx => decide_eq_true (ha x hx)), fil_none (l := b) (fun x hx => decide_eq_false (List.lt_asymm (hb x hx))), fil_none (l := a) (fun x hx => decide_eq_false (List.lt_asymm (ha x hx))), fil_all (l := b) (fun x hx => decide_eq_true (hb x hx))]
  simp
theorem put_old : putF (a ++ (k, w) :: b) k v = a ++ (k, v) :: b := by
  rw [putF, List.filter_append, List.filter_append, List.filter_cons, List.filter_cons, fil_all (l := a) (fun x hx => decide_eq_true (ha x hx)), fil_none (l := b) (fun x hx => decide_eq_false (List.lt_asymm (hb x hx))), fil_none (l := a) (fun x hx => decide_eq_false (List.lt_asymm (ha x hx))), fil_all (l := b) (fun x hx => decide_eq_true (hb x hx))]
  simp [List.lt_irrefl]
theorem drop_new : dropF (a ++ b) k = a ++ b := fil_all (fun x hx => by
  rcases List.mem_append.1 hx with h | h
  · rw [ltne (ha x h)]; rfl
  · rw [gtne (hb x h)]; rfl)
theorem drop_old : dropF (a ++ (k, w) :: b) k = a ++ b := by
  rw [dropF, List.filter_append, List.filter_cons, fil_all (l := a) (fun x hx => by rw [ltne (ha x hx)]; rfl), fil_all (l := b) (fun x hx => by rw [gtne (hb x hx)]; rfl)]
  simp
theorem find_new : findF (a ++ b) k = ([], false) := by
  rw [findF, find_none (fun x hx => ?_)]
  rcases List.mem_append.1 hx with h | h
  · exact ltne (ha x h)
  · exact gtne (hb x h)
omit hb in
theorem find_old : findF (a ++ (k, w) :: b) k = (w, true) := by
  rw [findF, List.find?_append, find_none (fun x hx => ltne (ha x hx))]; simp
end

theorem zip_take {α β : Type} : ∀ (n : Nat) (l : List α) (m : List β), (l.take n).zip (m.take n) = (l.zip m).take n
  | 0, l, m => by simp
  | n + 1, [], m => by simp
  | n + 1, a :: l, [] => by simp
  | n + 1, a :: l, b :: m => by simp [zip_take n l m]
theorem zip_drop {α β : Type} : ∀ (n : Nat) (l : List α) (m : List β), (l.drop n).zip (m.drop n) = (l.zip m).drop n
  | 0, l, m => by simp
  | n + 1, [], m => by simp
  | n + 1, a :: l, [] => by simp
  | n + 1, a :: l, b :: m => by simp [zip_drop n l m]
theorem zip_app {α β : Type} {l l' : List α} {m m' : List β} (h : l.length = m.length) : (l ++ l').zip (m ++ m') = l.zip m ++ l'.zip m' := List.zip_append h
theorem prs_ins {ks vs : List Str} {i : Nat} {k v : Str} (h : vs.length = ks.length) (hi : i ≤ ks.length) : (⟨insAt ks i k, insAt vs i v⟩ : Pg).prs = (Pg.prs ⟨ks, vs⟩).take i ++ (k, v) :: (Pg.prs ⟨ks, vs⟩).drop i := by
  simp only [Pg.prs, insAt]
  rw [zip_app (by simp; omega), List.zip_cons_cons, zip_take, zip_drop]
theorem prs_del {ks vs : List Str} {i : Nat} (h : vs.length = ks.length) (hi : i < ks.length) : (⟨delAt ks i, delAt vs i⟩ : Pg).prs = (Pg.prs ⟨ks, vs⟩).take i ++ (Pg.prs ⟨ks, vs⟩).drop (i + 1) := by
  simp only [Pg.prs, delAt]
  rw [zip_app (by simp; omega), zip_take, zip_drop]
theorem prs_two {ks vs : List Str} (i : Nat) : (⟨ks.take i, vs.take i⟩ : Pg).prs ++ (⟨ks.drop i, vs.drop i⟩ : Pg).prs = (Pg.prs ⟨ks, vs⟩) := by
  simp only [Pg.prs]
  rw [zip_take, zip_drop, List.take_append_drop]
theorem prs_join {a b : Pg} (h : a.vs.length = a.ks.length) : (⟨a.ks ++ b.ks, a.vs ++ b.vs⟩ : Pg).prs = a.prs ++ b.prs := by
  simp only [Pg.prs]; rw [zip_app (by omega)]
theorem set_split {α : Type} : ∀ {l : List α} {p : Nat} {x : α} (y : α), l[p]? = some x → l.set p y = l.take p ++ y :: l.drop (p + 1)
  | a :: l, 0, x, y, h => by simp
  | a :: l, p + 1, x, y, h => by simp [set_split y (show l[p]? = some x by simpa using h)]
theorem get_split {α : Type} {l : List α} {p : Nat} {x : α} (h : l[p]? = some x) : l = l.take p ++ x :: l.drop (p + 1) := by
  conv => lhs; rw [← List.take_append_drop p l, dropC h]
theorem flatP_cons (p : Pg) (ps : List Pg) : flatP (p :: ps) = p.prs ++ flatP ps := rfl
theorem flat_set {ps : List Pg} {p : Nat} {x : Pg} (y : Pg) (h : ps[p]? = some x) : flatP (ps.set p y) = flatP (ps.take p) ++ (y.prs ++ flatP (ps.drop (p + 1))) := by
  rw [set_split y h, flatP_append]; rfl
theorem flat_at {ps : List Pg} {p : Nat} {x : Pg} (h : ps[p]? = some x) : flatP ps = flatP (ps.take p) ++ (x.prs ++ flatP (ps.drop (p + 1))) := by
  conv => lhs; rw [get_split h]
  rw [flatP_append]; rfl

/-- what stands around a key's place -/
structure Around (ps : List Pg) (key : Str) (x : Pg) : Prop where
  a : ∀ y ∈ flatP (ps.take (pgOf ps key)), y.1 < key
  b : ∀ y ∈ flatP (ps.drop (pgOf ps key + 1)), key < y.1
  l : ∀ y ∈ x.prs.take (lbM x.ks key), y.1 < key
  r : foundM x.ks key = false → ∀ y ∈ x.prs.drop (lbM x.ks key), key < y.1
  f : foundM x.ks key = true → ∃ w, x.prs.drop (lbM x.ks key) = (key, w) :: x.prs.drop (lbM x.ks key + 1) ∧ x.vs[lbM x.ks key]? = some w ∧ ∀ y ∈ x.prs.drop (lbM x.ks key + 1), key < y.1

theorem take_pre (key : Str) : ∀ (ks vs : List Str), ∀ y ∈ (ks.zip vs).take (lbM ks key), y.1 < key
  | [], vs, y, h => by simp at h
  | s :: ks, [], y, h => by simp at h
  | s :: ks, v :: vs, y, h => by
    unfold lbM pre at h
    by_cases hs : s < key
    · simp only [hs, decide_true, if_true, List.zip_cons_cons, List.take_succ_cons, List.mem_cons] at h
      rcases h with rfl | h
      · exact hs
      · exact take_pre key ks vs y h
    · simp [hs] at h
theorem around {ps : List Pg} {key : Str} {x : Pg} (h : goodTree ps = true) (hx : ps[pgOf ps key]? = some x) : Around ps key x := by
  obtain ⟨h1, h2⟩ := (good_iff ps).1 h
  have hs := sorted_of_good key h
  have hmem := List.mem_of_getElem? hx
  have hi := (List.getElem?_eq_some_iff.1 hx).1
  have hk := keys_page h2 hmem
  have hkeys := h2
  rw [get_split hx, keysT_append] at hkeys
  have hcons : keysT (x :: ps.drop (pgOf ps key + 1)) = x.ks ++ keysT (ps.drop (pgOf ps key + 1)) := rfl
  rw [hcons] at hkeys
  obtain ⟨_, hr, hcross⟩ := List.pairwise_append.1 hkeys
  obtain ⟨_, hrb, hcross2⟩ := List.pairwise_append.1 hr
  have hne := (h1 x hmem).1
  have hvl := (h1 x hmem).2.2
  have hdrop := pre_drop (key := key) x hk
  have hfst : ∀ y ∈ x.prs.drop (lbM x.ks key), key ≤ y.1 := fun y hy => by
    rw [hdrop] at hy
    have := (List.mem_filter.1 hy).2
    simp only [Bool.not_eq_true', decide_eq_false_iff_not] at this
    exact List.not_lt.1 this
  have hks : x.prs.map Prod.fst = x.ks := fst_prs hvl
  have hsort : (x.prs.map Prod.fst).Pairwise (· < ·) := by rw [hks]; exact hk
  refine ⟨fun y hy => ?_, fun y hy => ?_, take_pre key x.ks x.vs, fun hf y hy => ?_, fun hf => ?_⟩
  · have hx1 := mem_flat_key hy
    have hpos : 0 < pgOf ps key := by
      refine Nat.pos_of_ne_zero (fun e => ?_)
      rw [e] at hy; simp [flatP] at hy
    have hq : pgOf ps key < pre (fstLe key) ps := by unfold pgOf at hpos ⊢; omega
    have hf := pre_lt hx hq
    obtain ⟨ks, vs⟩ := x
    cases ks with
    | nil => simp at hne
    | cons s ks =>
      have hlt := hcross y.1 hx1 s (by simp)
      have hf : s ≤ key := of_decide_eq_true hf
      refine List.not_le.1 (fun hc => ?_)
      exact absurd hlt (List.not_lt.2 (List.le_trans hf hc))
  · cases hq : ps.drop (pgOf ps key + 1) with
    | nil => rw [hq] at hy; simp [flatP] at hy
    | cons q t =>
      have hq1 : ps[pgOf ps key + 1]? = some q := by
        have := congrArg (fun l => l[0]?) hq
        simpa using this
      have hnot : fstLe key q = false := by
        cases hfl : fstLe key q with
        | false => rfl
        | true =>
          have := hs.pages.le hq1 hfl
          unfold pgOf at this; omega
      have hqmem := List.mem_of_getElem? hq1
      have hqne := (h1 q hqmem).1
      have hx1 := mem_flat_key hy
      rw [hq] at hx1 hrb
      obtain ⟨ks, vs⟩ := q
      cases ks with
      | nil => simp at hqne
      | cons s ks =>
        have hnot : ¬ s ≤ key := of_decide_eq_false hnot
        have hlo : key < s := List.not_le.1 hnot
        have e : keysT (⟨s :: ks, vs⟩ :: t) = s :: (ks ++ keysT t) := rfl
        rw [e] at hx1 hrb
        rcases List.mem_cons.1 hx1 with h | h
        · rw [h]; exact hlo
        · exact lt_trans' hlo ((List.pairwise_cons.1 hrb).1 _ h)
  · have hle := hfst y hy
    rcases List.mem_iff_getElem?.1 hy with ⟨j, hj⟩
    by_cases he : key < y.1
    · exact he
    · exfalso
      have hek : y.1 = key := List.le_antisymm (List.not_lt.1 he) hle
      cases hd : x.prs.drop (lbM x.ks key) with
      | nil => rw [hd] at hy; simp at hy
      | cons z t =>
        have hz : x.prs[lbM x.ks key]? = some z := by
          have := congrArg (fun l => l[0]?) hd
          simpa using this
        have hzk : x.ks[lbM x.ks key]? = some z.1 := by
          have e1 : x.ks[lbM x.ks key]? = (x.prs.map Prod.fst)[lbM x.ks key]? := by rw [hks]
          rw [e1, List.getElem?_map, hz]; rfl
        have hs2 : ((x.prs.drop (lbM x.ks key)).map Prod.fst).Pairwise (· < ·) := hsort.sublist (List.Sublist.map _ (List.drop_sublist _ _))
        rw [hd] at hs2 hy
        rw [List.map_cons] at hs2
        have hzle := hfst z (by rw [hd]; simp)
        rcases List.mem_cons.1 hy with rfl | hy
        · rw [foundM, hzk, hek] at hf; simp at hf
        · have := (List.pairwise_cons.1 hs2).1 y.1 (List.mem_map.2 ⟨y, hy, rfl⟩)
          rw [hek] at this
          exact absurd this (List.not_lt.2 hzle)
  · have hg : x.ks[lbM x.ks key]? = some key := by simpa [foundM] using hf
    have hlt := (List.getElem?_eq_some_iff.1 hg).1
    obtain ⟨w, hw⟩ : ∃ w, x.vs[lbM x.ks key]? = some w := ⟨_, List.getElem?_eq_getElem (by omega)⟩
    have hz : x.prs[lbM x.ks key]? = some (key, w) := by simp [Pg.prs, List.getElem?_zip_eq_some, hg, hw]
    have hd := dropC hz
    refine ⟨w, hd, hw, fun y hy => ?_⟩
    have hs2 : ((x.prs.drop (lbM x.ks key)).map Prod.fst).Pairwise (· < ·) := hsort.sublist (List.Sublist.map _ (List.drop_sublist _ _))
    rw [hd, List.map_cons] at hs2
    exact (List.pairwise_cons.1 hs2).1 y.1 (List.mem_map.2 ⟨y, hy, rfl⟩)

theorem pg_none {ps : List Pg} {key : Str} (h : ps[pgOf ps key]? = none) : ps = [] := by
  cases ps with
  | nil => rfl
  | cons p t => have := pgOf_lt (ps := p :: t) (key := key) (by simp); rw [List.getElem?_eq_none_iff] at h; omega

/-- P2.2: what is found -/
theorem get_flat {ps : List Pg} {key : Str} (h : goodTree ps = true) : getM ps key = findF (flatP ps) key := by
  rw [getM, if_pos h]
  cases hx : ps[pgOf ps key]? with
  | none => have := pg_none hx; subst this; rfl
  | some x =>
    have ar := around h hx
    simp only
    rw [flat_at hx]
    conv => rhs; rw [← List.take_append_drop (lbM x.ks key) x.prs]
    have ha : ∀ y ∈ flatP (ps.take (pgOf ps key)) ++ x.prs.take (lbM x.ks key), y.1 < key := fun y hy => by
      rcases List.mem_append.1 hy with h | h
      · exact ar.a y h
      · exact ar.l y h
    cases hf : foundM x.ks key with
    | false =>
      have hb : ∀ y ∈ x.prs.drop (lbM x.ks key) ++ flatP (ps.drop (pgOf ps key + 1)), key < y.1 := fun y hy => by
        rcases List.mem_append.1 hy with h | h
        · exact ar.r hf y h
        · exact ar.b y h
      have := find_new ha hb
      simp only [List.append_assoc] at this ⊢
      rw [this]; rfl
    | true =>
      obtain ⟨w, hd, hw, hr⟩ := ar.f hf
      have hb : ∀ y ∈ x.prs.drop (lbM x.ks key + 1) ++ flatP (ps.drop (pgOf ps key + 1)), key < y.1 := fun y hy => by
        rcases List.mem_append.1 hy with h | h
        · exact hr y h
        · exact ar.b y h
      rw [hd, hw]
      have := find_old (w := w) (b := x.prs.drop (lbM x.ks key + 1) ++ flatP (ps.drop (pgOf ps key + 1))) ha
      simp only [List.append_assoc, List.cons_append] at this ⊢
      rw [this]; rfl
/-- P2.2: what is put -/
theorem put_flat {ps : List Pg} {key val : Str} (h : goodTree ps = true) : flatP (putM ps key val) = putF (flatP ps) key val := by
  rw [putM, if_pos h]
  cases hx : ps[pgOf ps key]? with
  | none => have := pg_none hx; subst this; rfl
  | some x =>
    have ar := around h hx
    have hok := ((good_iff ps).1 h).1 x (List.mem_of_getElem? hx)
    have hlb : lbM x.ks key ≤ x.ks.length := pre_le _ _
    have hi := (List.getElem?_eq_some_iff.1 hx).1
    simp only
    have hfl := flat_at hx
    have hxs : x.prs = x.prs.take (lbM x.ks key) ++ x.prs.drop (lbM x.ks key) := (List.take_append_drop _ _).symm
    have ha : ∀ y ∈ flatP (ps.take (pgOf ps key)) ++ x.prs.take (lbM x.ks key), y.1 < key := fun y hy => by
      rcases List.mem_append.1 hy with h | h
      · exact ar.a y h
      · exact ar.l y h
    cases hf : foundM x.ks key with
    | true =>
      obtain ⟨w, hd, hw, hr⟩ := ar.f hf
      have hb : ∀ y ∈ x.prs.drop (lbM x.ks key + 1) ++ flatP (ps.drop (pgOf ps key + 1)), key < y.1 := fun y hy => by
        rcases List.mem_append.1 hy with h | h
        · exact hr y h
        · exact ar.b y h
      have hk : x.ks[lbM x.ks key]? = some key := by simpa [foundM] using hf
      have e : (⟨x.ks, x.vs.set (lbM x.ks key) val⟩ : Pg).prs = x.prs.take (lbM x.ks key) ++ (key, val) :: x.prs.drop (lbM x.ks key + 1) := by
        have h1 : (⟨x.ks, x.vs.set (lbM x.ks key) val⟩ : Pg).prs = x.ks.zip (x.vs.set (lbM x.ks key) val) := rfl
        rw [h1, set_split val hw]
        conv => lhs; arg 1; rw [get_split hk]
        rw [zip_app (by have := hok.2.2; simp; omega), List.zip_cons_cons, zip_take, zip_drop]; rfl
      have e1 : flatP ps = (flatP (ps.take (pgOf ps key)) ++ x.prs.take (lbM x.ks key)) ++ (key, w) :: (x.prs.drop (lbM x.ks key + 1) ++ flatP (ps.drop (pgOf ps key + 1))) := by
        rw [hfl]; conv => lhs; rw [hxs, hd]
        simp only [List.append_assoc, List.cons_append]
      rw [if_pos rfl, flat_set _ hx, e, e1, put_old ha hb]
      simp only [List.append_assoc, List.cons_append]
    | false =>
      have hb : ∀ y ∈ x.prs.drop (lbM x.ks key) ++ flatP (ps.drop (pgOf ps key + 1)), key < y.1 := fun y hy => by
        rcases List.mem_append.1 hy with h | h
        · exact ar.r hf y h
        · exact ar.b y h
      have hp := put_new (v := val) ha hb
      have hI := prs_ins (ks := x.ks) (vs := x.vs) (k := key) (v := val) hok.2.2 hlb
      have hpx : (⟨x.ks, x.vs⟩ : Pg).prs = x.prs := rfl
      rw [hpx] at hI
      have hgoal : putF (flatP ps) key val = flatP (ps.take (pgOf ps key)) ++ ((⟨insAt x.ks (lbM x.ks key) key, insAt x.vs (lbM x.ks key) val⟩ : Pg).prs ++ flatP (ps.drop (pgOf ps key + 1))) := by
        rw [hI, hfl]
        have e1 : flatP (ps.take (pgOf ps key)) ++ (x.prs ++ flatP (ps.drop (pgOf ps key + 1))) = (flatP (ps.take (pgOf ps key)) ++ x.prs.take (lbM x.ks key)) ++ (x.prs.drop (lbM x.ks key) ++ flatP (ps.drop (pgOf ps key + 1))) := by
          conv => lhs; rw [hxs]
          simp only [List.append_assoc]
        rw [e1, hp]; simp only [List.append_assoc, List.cons_append]
      rw [hgoal, if_neg (by simp)]
      by_cases hbig : 4 < x.ks.length + 1
      · rw [if_pos hbig]
        have hil : pgOf ps key + 1 ≤ ps.length := hi
        have hx' : (insAt ps (pgOf ps key + 1) ⟨(insAt x.ks (lbM x.ks key) key).drop ((x.ks.length + 1) / 2), (insAt x.vs (lbM x.ks key) val).drop ((x.ks.length + 1) / 2)⟩)[pgOf ps key]? = some x := by
          rw [insAt, List.getElem?_append_left (by simp; omega), List.getElem?_take, if_pos (by omega)]; exact hx
        rw [flat_set _ hx']
        have t1 : (insAt ps (pgOf ps key + 1) ⟨(insAt x.ks (lbM x.ks key) key).drop ((x.ks.length + 1) / 2), (insAt x.vs (lbM x.ks key) val).drop ((x.ks.length + 1) / 2)⟩).take (pgOf ps key) = ps.take (pgOf ps key) := by
          rw [insAt, List.take_append_of_le_length (by simp; omega), List.take_take, Nat.min_eq_left (by omega)]
        have t2 : (insAt ps (pgOf ps key + 1) ⟨(insAt x.ks (lbM x.ks key) key).drop ((x.ks.length + 1) / 2), (insAt x.vs (lbM x.ks key) val).drop ((x.ks.length + 1) / 2)⟩).drop (pgOf ps key + 1) = ⟨(insAt x.ks (lbM x.ks key) key).drop ((x.ks.length + 1) / 2), (insAt x.vs (lbM x.ks key) val).drop ((x.ks.length + 1) / 2)⟩ :: ps.drop (pgOf ps key + 1) := by
          rw [insAt, List.drop_append_of_le_length (by simp; omega), List.drop_eq_nil_of_le (by simp; omega)]; rfl
        rw [t1, t2, flatP_cons, ← List.append_assoc (Pg.prs _) (Pg.prs _), prs_two]
      · rw [if_neg hbig, flat_set _ hx]
/-- P2.2: what is dropped -/
theorem flat_del {ps : List Pg} {p : Nat} : flatP (delAt ps p) = flatP (ps.take p) ++ flatP (ps.drop (p + 1)) := by rw [delAt, flatP_append]
theorem flat_join {ps : List Pg} {p : Nat} {a b : Pg} (ha : ps[p]? = some a) (hb : ps[p + 1]? = some b) (hl : a.vs.length = a.ks.length) : flatP (joinM ps p a b) = flatP ps := by
  have hi := (List.getElem?_eq_some_iff.1 hb).1
  rw [joinM, flat_del]
  have h1 : (ps.set p ⟨a.ks ++ b.ks, a.vs ++ b.vs⟩).take (p + 1) = ps.take p ++ [⟨a.ks ++ b.ks, a.vs ++ b.vs⟩] := by
    rw [set_split _ ha, List.take_append, List.take_of_length_le (by simp; omega)]
    have : p + 1 - (ps.take p).length = 1 := by simp; omega
    rw [this]; rfl
  have h2 : (ps.set p ⟨a.ks ++ b.ks, a.vs ++ b.vs⟩).drop (p + 1 + 1) = ps.drop (p + 2) := by rw [List.drop_set, if_pos (by omega)]
  rw [h1, h2, flatP_append, flatP_cons, prs_join hl]
  rw [flat_at ha, dropC hb, flatP_cons]
  simp [flatP]
theorem drop_flat {ps : List Pg} {key : Str} (h : goodTree ps = true) : flatP (dropM ps key) = dropF (flatP ps) key := by
  rw [dropM, if_pos h]
  cases hx : ps[pgOf ps key]? with
  | none => have := pg_none hx; subst this; rfl
  | some x =>
    have ar := around h hx
    obtain ⟨h1, h2⟩ := (good_iff ps).1 h
    have hok := h1 x (List.mem_of_getElem? hx)
    have hi := (List.getElem?_eq_some_iff.1 hx).1
    simp only
    have hfl := flat_at hx
    have hxs : x.prs = x.prs.take (lbM x.ks key) ++ x.prs.drop (lbM x.ks key) := (List.take_append_drop _ _).symm
    have ha : ∀ y ∈ flatP (ps.take (pgOf ps key)) ++ x.prs.take (lbM x.ks key), y.1 < key := fun y hy => by
      rcases List.mem_append.1 hy with h | h
      · exact ar.a y h
      · exact ar.l y h
    cases hf : foundM x.ks key with
    | false =>
      have hb : ∀ y ∈ x.prs.drop (lbM x.ks key) ++ flatP (ps.drop (pgOf ps key + 1)), key < y.1 := fun y hy => by
        rcases List.mem_append.1 hy with h | h
        · exact ar.r hf y h
        · exact ar.b y h
      rw [if_neg (by simp)]
      have e1 : flatP ps = (flatP (ps.take (pgOf ps key)) ++ x.prs.take (lbM x.ks key)) ++ (x.prs.drop (lbM x.ks key) ++ flatP (ps.drop (pgOf ps key + 1))) := by
        rw [hfl]; conv => lhs; rw [hxs]
        simp only [List.append_assoc]
      rw [e1, drop_new ha hb]
    | true =>
      obtain ⟨w, hd, hw, hr⟩ := ar.f hf
      have hb : ∀ y ∈ x.prs.drop (lbM x.ks key + 1) ++ flatP (ps.drop (pgOf ps key + 1)), key < y.1 := fun y hy => by
        rcases List.mem_append.1 hy with h | h
        · exact hr y h
        · exact ar.b y h
      have hlt : lbM x.ks key < x.ks.length := by
        have : x.ks[lbM x.ks key]? = some key := by simpa [foundM] using hf
        exact (List.getElem?_eq_some_iff.1 this).1
      have e1 : flatP ps = (flatP (ps.take (pgOf ps key)) ++ x.prs.take (lbM x.ks key)) ++ (key, w) :: (x.prs.drop (lbM x.ks key + 1) ++ flatP (ps.drop (pgOf ps key + 1))) := by
        rw [hfl]; conv => lhs; rw [hxs, hd]
        simp only [List.append_assoc, List.cons_append]
      rw [if_pos rfl, e1, drop_old ha hb]
      have hD := prs_del (ks := x.ks) (vs := x.vs) hok.2.2 hlt
      have hpx : (⟨x.ks, x.vs⟩ : Pg).prs = x.prs := rfl
      rw [hpx] at hD
      generalize hX : (⟨delAt x.ks (lbM x.ks key), delAt x.vs (lbM x.ks key)⟩ : Pg) = X at hD ⊢
      have hgoal : flatP (ps.set (pgOf ps key) X) = flatP (ps.take (pgOf ps key)) ++ x.prs.take (lbM x.ks key) ++ (x.prs.drop (lbM x.ks key + 1) ++ flatP (ps.drop (pgOf ps key + 1))) := by
        rw [flat_set X hx, hD]; simp only [List.append_assoc]
      rw [← hgoal]
      have hXl : X.vs.length = X.ks.length := by rw [← hX]; show (delAt x.vs _).length = (delAt x.ks _).length; have := hok.2.2; rw [delAt_len hlt, delAt_len (by omega)]; omega
      generalize pgOf ps key = p at *
      have q0 : (ps.set p X)[p]? = some X := by rw [List.getElem?_set, if_pos rfl, if_pos hi]
      unfold dropAt
      split
      · rename_i h0
        rw [flat_del, flat_at q0]
        have : X.prs = [] := by
          have hz : X.ks = [] := List.length_eq_zero_iff.1 h0
          rw [Pg.prs, hz]; rfl
        rw [this]; rfl
      · split
        · rename_i hc
          refine flat_join (p := p - 1) ?_ (by rw [show p - 1 + 1 = p by omega]; exact q0) (h1 _ (atP_mem (by omega))).2.2
          rw [List.getElem?_set, if_neg (by omega), atP_some (by omega)]
        · split
          · rename_i hc
            refine flat_join q0 ?_ hXl
            rw [List.getElem?_set, if_neg (by omega), atP_some (by omega)]
          · rfl
theorem size_flat : ∀ {ps : List Pg}, (∀ p ∈ ps, okP p) → sizeM ps = (flatP ps).length
  | [], _ => rfl
  | p :: ps, h => by
    have hp := h p (by simp)
    rw [sizeM, flatP_cons, List.length_append, size_flat (fun q hq => h q (by simp [hq])), Pg.prs, List.length_zip]
    have := hp.2.2; omega
theorem good_flat {ps : List Pg} (h1 : ∀ p ∈ ps, okP p) : goodTree ps = true ↔ ((flatP ps).map Prod.fst).Pairwise (· < ·) := by
  rw [good_iff, keys_flat h1]; exact ⟨fun h => h.2, fun h => ⟨h1, h⟩⟩

theorem put_sorted {l : List Pr} {k v : Str} (h : (l.map Prod.fst).Pairwise (· < ·)) : ((putF l k v).map Prod.fst).Pairwise (· < ·) := by
  rw [putF, List.map_append, List.map_cons, List.pairwise_append]
  refine ⟨h.sublist (List.Sublist.map _ List.filter_sublist), List.pairwise_cons.2 ⟨fun a ha => ?_, h.sublist (List.Sublist.map _ List.filter_sublist)⟩, fun a ha b hb => ?_⟩
  · obtain ⟨y, hy, rfl⟩ := List.mem_map.1 ha
    simpa using (List.mem_filter.1 hy).2
  · obtain ⟨y, hy, rfl⟩ := List.mem_map.1 ha
    have hy : y.1 < k := by simpa using (List.mem_filter.1 hy).2
    rcases List.mem_cons.1 hb with rfl | hb
    · exact hy
    · obtain ⟨z, hz, rfl⟩ := List.mem_map.1 hb
      have hz : k < z.1 := by simpa using (List.mem_filter.1 hz).2
      exact lt_trans' hy hz
theorem drop_sorted {l : List Pr} {k : Str} (h : (l.map Prod.fst).Pairwise (· < ·)) : ((dropF l k).map Prod.fst).Pairwise (· < ·) := h.sublist (List.Sublist.map _ List.filter_sublist)

theorem mem_set {α : Type} {l : List α} {p : Nat} {x y : α} (h : y ∈ l.set p x) : y = x ∨ y ∈ l := by
  rcases List.mem_or_eq_of_mem_set h with h | h
  · exact .inr h
  · exact .inl h
theorem mem_delAt {α : Type} {l : List α} {p : Nat} {y : α} (h : y ∈ delAt l p) : y ∈ l := by
  rcases List.mem_append.1 h with h | h
  · exact List.mem_of_mem_take h
  · exact List.mem_of_mem_drop h
theorem mem_insAt {α : Type} {l : List α} {p : Nat} {x y : α} (h : y ∈ insAt l p x) : y = x ∨ y ∈ l := by
  rcases List.mem_append.1 h with h | h
  · exact .inr (List.mem_of_mem_take h)
  · rcases List.mem_cons.1 h with h | h
    · exact .inl h
    · exact .inr (List.mem_of_mem_drop h)
theorem put_ok {ps : List Pg} {key val : Str} (h : ∀ p ∈ ps, okP p) : ∀ p ∈ putM ps key val, okP p := by
  intro q hq
  unfold putM at hq
  split at hq
  · cases hx : ps[pgOf ps key]? with
    | none => rw [hx] at hq; simp only [List.mem_singleton] at hq; subst hq; exact ⟨by simp, by simp, rfl⟩
    | some x =>
      rw [hx] at hq
      have hok := h x (List.mem_of_getElem? hx)
      have hlb : lbM x.ks key ≤ x.ks.length := pre_le _ _
      have hKl : (insAt x.ks (lbM x.ks key) key).length = x.ks.length + 1 := insAt_len hlb
      have hVl : (insAt x.vs (lbM x.ks key) val).length = x.ks.length + 1 := by rw [insAt_len (by have := hok.2.2; omega), hok.2.2]
      obtain ⟨o1, o2, o3⟩ := hok
      simp only at hq
      split at hq
      · rcases mem_set hq with rfl | hq
        · exact ⟨o1, o2, by simpa using o3⟩
        · exact h q hq
      · split at hq
        · rcases mem_set hq with rfl | hq
          · refine ⟨?_, ?_, ?_⟩ <;> simp only [List.length_take, hKl, hVl] <;> omega
          · rcases mem_insAt hq with rfl | hq
            · refine ⟨?_, ?_, ?_⟩ <;> simp only [List.length_drop, hKl, hVl] <;> omega
            · exact h q hq
        · rcases mem_set hq with rfl | hq
          · refine ⟨?_, ?_, ?_⟩ <;> simp only [hKl, hVl] <;> omega
          · exact h q hq
  · exact h q hq
theorem drop_ok {ps : List Pg} {key : Str} (h : ∀ p ∈ ps, okP p) : ∀ p ∈ dropM ps key, okP p := by
  intro q hq
  unfold dropM at hq
  split at hq
  · cases hx : ps[pgOf ps key]? with
    | none => rw [hx] at hq; exact h q hq
    | some x =>
      rw [hx] at hq
      have hok := h x (List.mem_of_getElem? hx)
      have hi := (List.getElem?_eq_some_iff.1 hx).1
      obtain ⟨o1, o2, o3⟩ := hok
      simp only at hq
      split at hq
      · rename_i hf
        have hlt : lbM x.ks key < x.ks.length := by
          have : x.ks[lbM x.ks key]? = some key := by simpa [foundM] using hf
          exact (List.getElem?_eq_some_iff.1 this).1
        have lk := delAt_len hlt
        have lv := delAt_len (l := x.vs) (i := lbM x.ks key) (by omega)
        generalize hX : (⟨delAt x.ks (lbM x.ks key), delAt x.vs (lbM x.ks key)⟩ : Pg) = X at hq
        have eX : X.ks.length = x.ks.length - 1 := by rw [← hX]; exact lk
        have eXv : X.vs.length = x.ks.length - 1 := by rw [← hX]; show (delAt x.vs _).length = _; omega
        generalize pgOf ps key = p at *
        unfold dropAt at hq
        split at hq
        · have hq1 := mem_delAt hq
          rw [delAt] at hq
          have e1 : (ps.set p X).take p = ps.take p := List.take_set_of_le (Nat.le_refl _)
          have e2 : (ps.set p X).drop (p + 1) = ps.drop (p + 1) := by rw [List.drop_set]; simp
          rw [e1, e2] at hq
          rcases List.mem_append.1 hq with hq | hq
          · exact h q (List.mem_of_mem_take hq)
          · exact h q (List.mem_of_mem_drop hq)
        · rename_i h0
          have okX : okP X := ⟨by omega, by omega, by omega⟩
          split at hq
          · rename_i hc
            obtain ⟨a1, a2, a3⟩ := h _ (atP_mem (ps := ps) (i := p - 1) (by omega))
            rcases mem_set (mem_delAt hq) with rfl | hq
            · refine ⟨?_, ?_, ?_⟩ <;> simp only [List.length_append] <;> omega
            · rcases mem_set hq with rfl | hq
              · exact okX
              · exact h q hq
          · split at hq
            · rename_i hc
              obtain ⟨a1, a2, a3⟩ := h _ (atP_mem (ps := ps) (i := p + 1) (by omega))
              rcases mem_set (mem_delAt hq) with rfl | hq
              · refine ⟨?_, ?_, ?_⟩ <;> simp only [List.length_append] <;> omega
              · rcases mem_set hq with rfl | hq
                · exact okX
                · exact h q hq
            · rcases mem_set hq with rfl | hq
              · exact okX
              · exact h q hq
      · exact h q hq
  · exact h q hq
theorem put_good {ps : List Pg} {key val : Str} (h : goodTree ps = true) : goodTree (putM ps key val) = true := by
  have h1 := ((good_iff ps).1 h).1
  rw [good_flat (put_ok h1), put_flat h]
  exact put_sorted ((good_flat h1).1 h)
theorem drop_good {ps : List Pg} {key : Str} (h : goodTree ps = true) : goodTree (dropM ps key) = true := by
  have h1 := ((good_iff ps).1 h).1
  rw [good_flat (drop_ok h1), drop_flat h]
  exact drop_sorted ((good_flat h1).1 h)
theorem put_len {ps : List Pg} {key val : Str} : (putM ps key val).length ≤ ps.length + 1 := by
  unfold putM
  split
  · cases hx : ps[pgOf ps key]? with
    | none => simp
    | some x =>
      have hi := (List.getElem?_eq_some_iff.1 hx).1
      simp only
      split
      · simp
      · split
        · rw [List.length_set, insAt_len (by omega)]; omega
        · simp
  · omega
theorem drop_len {ps : List Pg} {key : Str} : (dropM ps key).length ≤ ps.length := by
  unfold dropM
  split
  · cases hx : ps[pgOf ps key]? with
    | none => simp
    | some x =>
      have hi := (List.getElem?_eq_some_iff.1 hx).1
      have hd : ∀ {l : List Pg} {i : Nat}, (delAt l i).length ≤ l.length := fun {l i} => by simp [delAt]; omega
      simp only
      split
      · unfold dropAt joinM
        split
        · exact Nat.le_trans hd (by simp)
        · split
          · exact Nat.le_trans hd (by simp)
          · split
            · exact Nat.le_trans hd (by simp)
            · simp
      · omega
  · omega

def SortF (l : List Pr) : Prop := (l.map Prod.fst).Pairwise (· < ·)
theorem lt_tri (a b : Str) : a < b ∨ a = b ∨ b < a := by
  by_cases h : a < b
  · exact .inl h
  · by_cases h2 : b < a
    · exact .inr (.inr h2)
    · exact .inr (.inl (List.le_antisymm (List.not_lt.1 h2) (List.not_lt.1 h)))
theorem cut_sorted (k : Str) : ∀ {l : List Pr}, SortF l → ∃ a b : List Pr, (∀ x ∈ a, x.1 < k) ∧ (∀ x ∈ b, k < x.1) ∧ (l = a ++ b ∨ ∃ w, l = a ++ (k, w) :: b)
  | [], _ => ⟨[], [], by simp, by simp, .inl rfl⟩
  | (s, u) :: l, h => by
    have hp := List.pairwise_cons.1 h
    rcases lt_tri s k with h1 | rfl | h1
    · obtain ⟨a, b, ha, hb, hc⟩ := cut_sorted k (l := l) hp.2
      refine ⟨(s, u) :: a, b, fun x hx => ?_, hb, ?_⟩
      · rcases List.mem_cons.1 hx with rfl | hx
        · exact h1
        · exact ha x hx
      · rcases hc with rfl | ⟨w, rfl⟩
        · exact .inl rfl
        · exact .inr ⟨w, rfl⟩
    · exact ⟨[], l, by simp, fun x hx => hp.1 _ (List.mem_map.2 ⟨x, hx, rfl⟩), .inr ⟨u, rfl⟩⟩
    · refine ⟨[], (s, u) :: l, by simp, fun x hx => ?_, .inl rfl⟩
      rcases List.mem_cons.1 hx with rfl | hx
      · exact h1
      · exact lt_trans' h1 (hp.1 _ (List.mem_map.2 ⟨x, hx, rfl⟩))
theorem put_find {l : List Pr} {k v : Str} (h : SortF l) : findF (putF l k v) k = (v, true) := by
  obtain ⟨a, b, ha, hb, rfl | ⟨w, rfl⟩⟩ := cut_sorted k h
  · rw [put_new ha hb, find_old ha]
  · rw [put_old ha hb, find_old ha]
theorem drop_find {l : List Pr} {k : Str} (h : SortF l) : findF (dropF l k) k = ([], false) := by
  obtain ⟨a, b, ha, hb, rfl | ⟨w, rfl⟩⟩ := cut_sorted k h
  · rw [drop_new ha hb, find_new ha hb]
  · rw [drop_old ha hb, find_new ha hb]
theorem put_size {l : List Pr} {k v : Str} (h : SortF l) : (putF l k v).length = if (findF l k).2 then l.length else l.length + 1 := by
  obtain ⟨a, b, ha, hb, rfl | ⟨w, rfl⟩⟩ := cut_sorted k h
  · rw [put_new ha hb, find_new ha hb]; simp; omega
  · rw [put_old ha hb, find_old ha]; simp
theorem drop_size {l : List Pr} {k : Str} (h : SortF l) : (dropF l k).length = if (findF l k).2 then l.length - 1 else l.length := by
  obtain ⟨a, b, ha, hb, rfl | ⟨w, rfl⟩⟩ := cut_sorted k h
  · rw [drop_new ha hb, find_new ha hb]; simp
  · rw [drop_old ha hb, find_old ha]; simp
theorem find_has {l : List Pr} {k : Str} (h : (findF l k).2 = true) : 0 < l.length := by
  cases l with
  | nil => simp [findF] at h
  | cons a l => simp
theorem sort_inj {l : List Pr} (h : SortF l) {o a b : Str} (ha : (o, a) ∈ l) (hb : (o, b) ∈ l) : a = b := by
  induction l with
  | nil => simp at ha
  | cons x l ih =>
    have hp := List.pairwise_cons.1 h
    rcases List.mem_cons.1 ha with ea | ha' <;> rcases List.mem_cons.1 hb with eb | hb'
    · rw [← ea] at eb; exact (Prod.mk.inj eb).2.symm
    · subst ea; exact absurd (hp.1 o (List.mem_map.2 ⟨_, hb', rfl⟩)) (List.lt_irrefl o)
    · subst eb; exact absurd (hp.1 o (List.mem_map.2 ⟨_, ha', rfl⟩)) (List.lt_irrefl o)
    · exact ih hp.2 ha' hb'
theorem find_some {l : List Pr} {o w : Str} (hs : SortF l) (h : (o, w) ∈ l) : findF l o = (w, true) := by
  unfold findF
  cases hf : l.find? (fun x => x.1 == o) with
  | none => have := List.find?_eq_none.1 hf _ h; simp at this
  | some y =>
    have h1 := List.mem_of_find?_eq_some hf
    have h2 := List.find?_some hf
    obtain ⟨y1, y2⟩ := y
    have h2 : y1 = o := eq_of_beq h2
    subst h2
    simp only [sort_inj hs h1 h]
theorem find_no {l : List Pr} {o : Str} (h : ∀ w, (o, w) ∉ l) : findF l o = ([], false) := by
  rw [findF, find_none (fun x hx => ?_)]
  cases e : x.1 == o with
  | false => rfl
  | true => have e := eq_of_beq e; subst e; exact absurd hx (h x.2)
theorem find_eq {l m : List Pr} {o : Str} (hl : SortF l) (hm : SortF m) (h : ∀ w, (o, w) ∈ l ↔ (o, w) ∈ m) : findF l o = findF m o := by
  by_cases hx : ∃ w, (o, w) ∈ l
  · obtain ⟨w, hw⟩ := hx
    rw [find_some hl hw, find_some hm ((h w).1 hw)]
  · have hx : ∀ w, (o, w) ∉ l := fun w hw => hx ⟨w, hw⟩
    rw [find_no hx, find_no (fun w hw => hx w ((h w).2 hw))]
theorem put_other {l : List Pr} {k v o : Str} (h : SortF l) (ho : o ≠ k) : findF (putF l k v) o = findF l o := by
  refine find_eq (put_sorted h) h (fun w => ?_)
  simp only [putF, List.mem_append, List.mem_cons, List.mem_filter, decide_eq_true_eq, Prod.mk.injEq]
  constructor
  · rintro (⟨h, _⟩ | ⟨h, _⟩ | ⟨h, _⟩)
    · exact h
    · exact absurd h ho
    · exact h
  · intro h
    rcases lt_tri o k with h1 | h1 | h1
    · exact .inl ⟨h, h1⟩
    · exact absurd h1 ho
    · exact .inr (.inr ⟨h, h1⟩)
theorem drop_other {l : List Pr} {k o : Str} (h : SortF l) (ho : o ≠ k) : findF (dropF l k) o = findF l o := by
  refine find_eq (drop_sorted h) h (fun w => ?_)
  simp only [dropF, List.mem_filter]
  constructor
  · exact fun h => h.1
  · exact fun h => ⟨h, by simpa using ho⟩
theorem size_le {ps : List Pg} (h : ∀ p ∈ ps, okP p) : sizeM ps ≤ 4 * ps.length := by
  rw [size_flat h]; exact flatP_len (fun p hp => (h p hp).2.1)
end Go.Proofs.Ytanlhpdjgelehaa
