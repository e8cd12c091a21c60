/- Several texts in one, each with its own sentence ahead of it. Conditions: each one says its own. -/
import Derived.Test.YthkobnpogigkiaaDoorZPlanKeys5
/- Trees: what place and Get compute. Conditions: the tree is good; how much there is of what comes in. -/
namespace Go.Proofs.YthkobnpogigkiaaDoor
open Go.Abs
attribute [local irreducible] L Code.wp bodyPost Exit.then Exit.inBlock
set_option linter.unusedVariables false
set_option linter.unusedSimpArgs false
def fstLe (key : Str) (p : Pg) : Bool := decide (p.ks.headD [] ≤ key)
def pgOf (ps : List Pg) (key : Str) : Nat := pre (fstLe key) ps - 1
def placeM (ps : List Pg) (key : Str) : Nat × Nat × Bool :=
  match ps[pgOf ps key]? with
  | some p => (pgOf ps key, lbM p.ks key, foundM p.ks key)
  | none => (0, 0, false)
structure Sorted (ps : List Pg) (key : Str) : Prop where
  ne : ∀ p ∈ ps, p.ks ≠ []
  len : ∀ p ∈ ps, p.ks.length ≤ 4
  vs : ∀ p ∈ ps, p.vs.length = p.ks.length
  pages : Falls (fstLe key) ps
  keys : ∀ p ∈ ps, Falls (fun s => decide (s < key)) p.ks
theorem half2 (i j : Nat) : ((i : Int) + (j : Int)).tdiv 2 = (((i + j) / 2 : Nat) : Int) := by
  rw [Int.tdiv_eq_ediv_of_nonneg (by omega)]; omega
set_option maxRecDepth 100000 in
set_option maxHeartbeats 4000000 in
theorem place_any (ps : List Pg) (key : Str) (hl : ps.length ≤ 140737488355328) (hs : Sorted ps key) :
    CallA Tryd.prog 104 [.agg [.iv (.sl (ps.map Pg.c))], aS key] [] [] [] (.tup [.iv (I ((placeM ps key).1 : Int)), .iv (I ((placeM ps key).2.1 : Int)), .iv (B (placeM ps key).2.2)]) := by
  refine CallA.intro _ Tryd.func104 rfl Tryd.ntmps104 rfl (fun w0 E0 => ?_)
  have hle := pre_le (fstLe key) ps
  generalize hq : pre (fstLe key) ps = q at hle
  (repeat' (first | (refine LW.is ?_; first | (refine s_nil ?_) | (apply s_asIv; exact rfl; exact rfl) | (apply s_box; exact rfl; exact rfl; exact rfl; (focus repeat' (first | exact nl_nil rfl | (apply nl_cons; exact rfl) | exact nIm rfl | exact nSl rfl | exact nIv rfl | exact nRow rfl | exact nNil rfl | exact nPtr rfl | exact nBsh rfl | exact nBsl rfl | exact nAny rfl | exact nIIm rfl | exact nISl rfl | exact rfl)); exact rfl; exact rfl)) | (refine DR.is ?_; first | (apply d_nil; kernel_rfl) | (apply d_asIv; exact rfl; exact rfl) | (apply d_fieldP; exact rfl; exact rfl; exact rfl) | (apply d_load1P; exact rfl; exact rfl; exact rfl; (apply n_some; exact rfl; (first | exact nIm rfl | exact nSl rfl | exact nIv rfl | exact nRow rfl | exact nNil rfl | exact nPtr rfl | exact nBsh rfl | exact nBsl rfl | exact nAny rfl | exact rfl))) | (apply d_lenSl; exact rfl; exact rfl)) | (refine c_seq ?_) | (refine L.block ?_) | (refine s_region ?_) | (refine d_region ?_) | (refine L.thenN ?_)))
  refine L.loopP (ι := Nat × Nat) (fun i => ⟨[(7, aI ((i.1 - 1 : Nat) : Int)), (8, aI (i.1 : Int)), (9, aI (i.2 : Int)), (2, .ptr 2 0), (1, aS key)], [(2, ⟨61, .l [.iv (.sl (ps.map Pg.c))]⟩)], []⟩) (fun i => i.2 - i.1) (fun i => i.1 ≤ q ∧ q ≤ i.2 ∧ i.2 ≤ ps.length) (i0 := (0, ps.length)) ?_ ⟨Nat.zero_le _, hle, Nat.le_refl _⟩ ?_
  · refine Wk.mk' (by intro id h; cases h) (.cons rfl (Sub.refl _) (.cons rfl (Sub.refl _) (.cons rfl (Sub.of_eq ?_) (.cons rfl (Sub.refl _) (.cons rfl (Sub.refl _) .nil))))) (.cons rfl rfl (Subs.refl _) .nil) .nil
    simp
  rintro ⟨i, j⟩ ⟨h1, h2, h3⟩ K hK
  dsimp only at h1 h2 h3 ⊢
  cases hlt : decide ((i : Int) < (j : Int)) with
  | true =>
    have hij : i < j := by simpa using hlt
    have hh := half2 i j
    have hm : (i + j) / 2 < ps.length := by omega
    obtain ⟨p, hp⟩ : ∃ p, ps[(i + j) / 2]? = some p := ⟨_, List.getElem?_eq_getElem hm⟩
    have hmem := List.mem_of_getElem? hp
    have hne := hs.ne p hmem
    obtain ⟨ks, vs⟩ := p
    cases ks with
    | nil => exact absurd rfl hne
    | cons s ks =>
    have g0 : 0 ≤ ((i : Int) + (j : Int)).tdiv 2 := by rw [hh]; omega
    have g1 : (ps.map Pg.c)[(((i : Int) + (j : Int)).tdiv 2).toNat]? = some [.sl ((s :: ks).map Str.c), .sl (vs.map Str.c)] := by rw [hh, Int.toNat_natCast, List.getElem?_map, hp]; rfl
    have g2 : -9223372036854775808 ≤ ((i : Int) + (j : Int)).tdiv 2 + 1 := by omega
    have g3 : ((i : Int) + (j : Int)).tdiv 2 + 1 ≤ 9223372036854775807 := by rw [hh]; omega
    have hleS : (Op.bytesLess s key || s == key) = decide (s ≤ key) := leS
    cases hp' : decide (s ≤ key) with
    | true =>
      rw [hp'] at hleS
      have hlt' : (i + j) / 2 < q := by
        rw [← hq]
        exact hs.pages.le hp (by simpa [fstLe] using hp')
      (repeat' (first | (refine LW.is ?_; first | ((apply s_indexA; exact rfl; exact rfl; exact rfl; exact g0; exact g1; exact rfl)) | ((apply s_indexA; exact rfl; exact rfl; exact rfl; decide; exact rfl; exact rfl)) | ((apply s_addI; exact rfl; exact rfl; exact rfl; exact g2; exact g3)) | (refine s_nil ?_) | (apply s_mvIv; exact rfl; exact rfl) | (apply s_asIv; exact rfl; exact rfl) | (apply s_fieldP; exact rfl; exact rfl; exact rfl) | (apply s_fieldE; exact rfl; exact rfl; exact rfl) | (apply s_load1P; exact rfl; exact rfl; exact rfl; (apply n_some; exact rfl; (first | exact nIm rfl | exact nSl rfl | exact nIv rfl | exact nRow rfl | exact nNil rfl | exact nPtr rfl | exact nBsh rfl | exact nBsl rfl | exact nAny rfl | exact rfl))) | (apply s_load1E; exact rfl; exact rfl; exact rfl) | (apply s_lssI; exact rfl; exact rfl; exact rfl) | (apply s_leqS; exact rfl; exact rfl; exact rfl) | (apply s_addI; exact rfl; exact rfl; exact rfl; (first | omega | decide | (dsimp only; omega)); (first | omega | decide | (dsimp only; omega))) | (apply s_quoI; exact rfl; exact rfl; exact rfl; (first | decide | omega | (dsimp only; omega)); (first | omega | decide | (dsimp only; omega)); (first | omega | decide | (dsimp only; omega)))) | (refine c_seq ?_) | (refine L.block ?_) | (refine s_region ?_) | (refine L.thenN ?_) | (refine L.inN ?_) | (refine L.skip ?_) | (apply c_condT; exact rfl; (first | exact rfl | assumption))))
      refine hK _ ((i + j) / 2 + 1, j) ⟨by omega, h2, h3⟩ (by dsimp only; omega) (Wk.mk' (by intro id h; cases h) (.cons rfl (Sub.of_eq (congrArg (fun z => aI z) ?_)) (.cons rfl (Sub.of_eq (congrArg (fun z => aI z) ?_)) (.cons rfl (Sub.refl _) (.cons rfl (Sub.refl _) (.cons rfl (Sub.refl _) .nil))))) (.cons rfl rfl (Subs.refl _) .nil) .nil)
      · rw [hh]; simp
      · rw [hh]; rfl
    | false =>
      rw [hp'] at hleS
      have hlt' : q ≤ (i + j) / 2 := by
        rw [← hq]
        exact Falls.ge hp (by simpa [fstLe] using hp')
      (repeat' (first | (refine LW.is ?_; first | ((apply s_indexA; exact rfl; exact rfl; exact rfl; exact g0; exact g1; exact rfl)) | ((apply s_indexA; exact rfl; exact rfl; exact rfl; decide; exact rfl; exact rfl)) | (refine s_nil ?_) | (apply s_mvIv; exact rfl; exact rfl) | (apply s_asIv; exact rfl; exact rfl) | (apply s_fieldP; exact rfl; exact rfl; exact rfl) | (apply s_fieldE; exact rfl; exact rfl; exact rfl) | (apply s_load1P; exact rfl; exact rfl; exact rfl; (apply n_some; exact rfl; (first | exact nIm rfl | exact nSl rfl | exact nIv rfl | exact nRow rfl | exact nNil rfl | exact nPtr rfl | exact nBsh rfl | exact nBsl rfl | exact nAny rfl | exact rfl))) | (apply s_load1E; exact rfl; exact rfl; exact rfl) | (apply s_lssI; exact rfl; exact rfl; exact rfl) | (apply s_leqS; exact rfl; exact rfl; exact rfl) | (apply s_addI; exact rfl; exact rfl; exact rfl; (first | omega | decide | (dsimp only; omega)); (first | omega | decide | (dsimp only; omega))) | (apply s_quoI; exact rfl; exact rfl; exact rfl; (first | decide | omega | (dsimp only; omega)); (first | omega | decide | (dsimp only; omega)); (first | omega | decide | (dsimp only; omega)))) | (refine c_seq ?_) | (refine L.block ?_) | (refine s_region ?_) | (refine L.thenN ?_) | (refine L.inN ?_) | (refine L.skip ?_) | (apply c_condT; exact rfl; (first | exact rfl | assumption)) | (apply c_condF; exact rfl; (first | exact rfl | assumption))))
      refine hK _ (i, (i + j) / 2) ⟨h1, by omega, by dsimp only; omega⟩ (by dsimp only; omega) (Wk.mk' (by intro id h; cases h) (.cons rfl (Sub.refl _) (.cons rfl (Sub.refl _) (.cons rfl (Sub.of_eq (congrArg (fun z => aI z) ?_)) (.cons rfl (Sub.refl _) (.cons rfl (Sub.refl _) .nil))))) (.cons rfl rfl (Subs.refl _) .nil) .nil)
      rw [hh]
  | false =>
    have hij : ¬ i < j := by simpa using hlt
    obtain rfl : i = q := by omega
    have hpg : pgOf ps key = i - 1 := by rw [pgOf, hq]
    cases hp : ps[i - 1]? with
    | none =>
      have hps : ps = [] := by
        cases ps with
        | nil => rfl
        | cons p ps =>
          have := List.getElem?_eq_none_iff.1 hp
          simp at this hle; omega
      subst hps
      (repeat' (first | (refine LW.is ?_; first | (refine s_nil ?_) | (apply s_mvIv; exact rfl; exact rfl) | (apply s_asIv; exact rfl; exact rfl) | (apply s_fieldP; exact rfl; exact rfl; exact rfl) | (apply s_load1P; exact rfl; exact rfl; exact rfl; (apply n_some; exact rfl; (first | exact nIm rfl | exact nSl rfl | exact nIv rfl | exact nRow rfl | exact nNil rfl | exact nPtr rfl | exact nBsh rfl | exact nBsl rfl | exact nAny rfl | exact rfl))) | (apply s_lenSl; exact rfl; exact rfl) | (apply s_eqlI; exact rfl; exact rfl; exact rfl) | (apply s_lssI; exact rfl; exact rfl; exact rfl)) | (refine c_seq ?_) | (refine s_region ?_) | (refine L.thenN ?_) | (refine L.thenE ?_) | (refine L.thenR ?_) | (refine L.inE ?_) | (refine L.ret ?_) | (refine L.exit ?_) | (apply c_condT; exact rfl; (first | exact rfl | assumption)) | (apply c_condF; exact rfl; (first | exact rfl | assumption))))
      all_goals (first | (apply L.ends1; exact rfl; exact rfl; exact rfl) | (apply L.ends2; exact rfl; exact rfl; exact rfl) | (apply L.ends3; exact rfl; exact rfl; exact rfl) | (apply L.ends1A; exact rfl; exact rfl; exact rfl) | (apply L.ends2A; exact rfl; exact rfl; exact rfl))
      all_goals simp [placeM]
    | some p =>
      have hmem := List.mem_of_getElem? hp
      have hlen := hs.len p hmem
      have kb := bsearch_any p.ks key (by omega) (hs.keys p hmem)
      have hm : placeM ps key = (i - 1, lbM p.ks key, foundM p.ks key) := by rw [placeM, hpg, hp]
      rw [hm]
      have hne : (((ps.map Pg.c).length : Int) == 0) = false := by
        cases ps with
        | nil => simp at hp
        | cons p ps => simp; omega
      obtain ⟨ks, vs⟩ := p
      have g1 : (ps.map Pg.c)[((i - 1 : Nat) : Int).toNat]? = some [.sl (ks.map Str.c), .sl (vs.map Str.c)] := by rw [Int.toNat_natCast, List.getElem?_map, hp]; rfl
      clear hij h1 h2 h3 hle hK
      (repeat' (first | (refine LW.is ?_; first | ((apply s_indexA; exact rfl; exact rfl; exact rfl; omega; exact g1; exact rfl)) | ((apply s_call0; exact rfl; exact kb; exact rfl; exact rfl)) | (refine s_nil ?_) | (apply s_mvIv; exact rfl; exact rfl) | (apply s_mvTup; exact rfl; exact rfl) | (apply s_asIv; exact rfl; exact rfl) | (apply s_fieldP; exact rfl; exact rfl; exact rfl) | (apply s_fieldE; exact rfl; exact rfl; exact rfl) | (apply s_load1P; exact rfl; exact rfl; exact rfl; (apply n_some; exact rfl; (first | exact nIm rfl | exact nSl rfl | exact nIv rfl | exact nRow rfl | exact nNil rfl | exact nPtr rfl | exact nBsh rfl | exact nBsl rfl | exact nAny rfl | exact rfl))) | (apply s_load1E; exact rfl; exact rfl; exact rfl) | (apply s_lenSl; exact rfl; exact rfl) | (apply s_eqlI; exact rfl; exact rfl; exact rfl) | (apply s_lssI; exact rfl; exact rfl; exact rfl) | (apply s_extract; exact rfl; exact rfl; (apply n_some; exact rfl; (first | exact nIm rfl | exact nSl rfl | exact nIv rfl | exact nRow rfl | exact nNil rfl | exact nPtr rfl | exact nBsh rfl | exact nBsl rfl | exact nAny rfl | exact rfl)))) | (refine c_seq ?_) | (refine s_region ?_) | (refine L.thenN ?_) | (refine L.thenE ?_) | (refine L.inE ?_) | (refine L.ret ?_) | (refine L.exit ?_) | (refine L.skip ?_) | (apply c_condF; exact rfl; (first | exact rfl | assumption))))
      all_goals (first | (apply L.ends1; exact rfl; exact rfl; exact rfl) | (apply L.ends2; exact rfl; exact rfl; exact rfl) | (apply L.ends3; exact rfl; exact rfl; exact rfl) | (apply L.ends1A; exact rfl; exact rfl; exact rfl) | (apply L.ends2A; exact rfl; exact rfl; exact rfl))
      all_goals rfl
end Go.Proofs.YthkobnpogigkiaaDoor
/- Trees, plain laws: a good tree's keys rise. Conditions: none. -/
namespace Go.Proofs.YthkobnpogigkiaaDoor
open Go.Abs
set_option linter.unusedVariables false
set_option linter.unusedSimpArgs false
theorem lt_trans' {a b c : Str} (h : a < b) (k : b < c) : a < c := List.lt_trans h k
theorem rises_some : ∀ (l : List Str) (a : Str), risesM (some a) l = true ↔ (a :: l).Pairwise (· < ·)
  | [], a => by simp [risesM]
  | s :: l, a => by
    rw [risesM, Bool.and_eq_true, rises_some l s, decide_eq_true_eq]
    constructor
    · rintro ⟨h1, h2⟩
      refine List.pairwise_cons.2 ⟨fun x hx => ?_, h2⟩
      rcases List.mem_cons.1 hx with rfl | hx
      · exact h1
      · exact lt_trans' h1 ((List.pairwise_cons.1 h2).1 x hx)
    · intro h
      have := List.pairwise_cons.1 h
      exact ⟨this.1 s (by simp), this.2⟩
theorem rises_none : ∀ (l : List Str), risesM none l = true ↔ l.Pairwise (· < ·)
  | [] => by simp [risesM]
  | s :: l => by rw [risesM, rises_some]
def okP (p : Pg) : Prop := 1 ≤ p.ks.length ∧ p.ks.length ≤ 4 ∧ p.vs.length = p.ks.length
def keysT (ps : List Pg) : List Str := ps.flatMap Pg.ks
theorem risesM_append : ∀ (l m : List Str) (o : Option Str), risesM o (l ++ m) = (risesM o l && risesM (lastM o l) m)
  | [], m, o => by simp [risesM, lastM]
  | s :: l, m, none => by simp [risesM, lastM, risesM_append l m]
  | s :: l, m, some a => by simp [risesM, lastM, risesM_append l m, Bool.and_assoc]
theorem goodT_iff : ∀ (ps : List Pg) (o : Option Str), goodT o ps = true ↔ (∀ p ∈ ps, okP p) ∧ risesM o (keysT ps) = true
  | [], o => by cases o <;> simp [goodT, keysT, risesM]
  | p :: ps, o => by
    rw [goodT]
    simp only [Bool.and_eq_true, decide_eq_true_eq, goodT_iff ps, keysT, List.flatMap_cons, risesM_append, List.mem_cons, forall_eq_or_imp, okP]
    constructor
    · rintro ⟨a, b, c, d, e, f⟩; exact ⟨⟨⟨a, b, c⟩, e⟩, d, f⟩
    · rintro ⟨⟨⟨a, b, c⟩, e⟩, d, f⟩; exact ⟨a, b, c, d, e, f⟩
theorem good_iff (ps : List Pg) : goodTree ps = true ↔ (∀ p ∈ ps, okP p) ∧ (keysT ps).Pairwise (· < ·) := by
  rw [goodTree, goodT_iff, rises_none]
theorem falls_keys {ks : List Str} (key : Str) (h : ks.Pairwise (· < ·)) : Falls (fun s => decide (s < key)) ks := by
  intro i j x y hij hx hy hp
  simp only [decide_eq_true_eq] at hp ⊢
  rcases Nat.lt_or_eq_of_le hij with h1 | rfl
  · obtain ⟨hi', ex⟩ := List.getElem?_eq_some_iff.1 hx
    obtain ⟨hj', ey⟩ := List.getElem?_eq_some_iff.1 hy
    have := List.pairwise_iff_getElem.1 h i j hi' hj' h1
    rw [ex, ey] at this
    exact lt_trans' this hp
  · rw [hx] at hy; cases hy; exact hp
theorem keys_page {ps : List Pg} (h : (keysT ps).Pairwise (· < ·)) {p : Pg} (hp : p ∈ ps) : p.ks.Pairwise (· < ·) := by
  obtain ⟨a, b, rfl⟩ := List.append_of_mem hp
  simp only [keysT, List.flatMap_append, List.flatMap_cons] at h
  exact (List.pairwise_append.1 (List.pairwise_append.1 h).2.1).1
theorem sorted_of_good {ps : List Pg} (key : Str) (h : goodTree ps = true) : Sorted ps key := by
  obtain ⟨h1, h2⟩ := (good_iff ps).1 h
  refine ⟨fun p hp e => ?_, fun p hp => (h1 p hp).2.1, fun p hp => (h1 p hp).2.2, ?_, fun p hp => falls_keys key (keys_page h2 hp)⟩
  · have := (h1 p hp).1; rw [e] at this; simp at this
  · intro i j x y hij hx hy hpy
    simp only [fstLe, decide_eq_true_eq] at hpy ⊢
    rcases Nat.lt_or_eq_of_le hij with hlt | rfl
    · obtain ⟨hi', ex⟩ := List.getElem?_eq_some_iff.1 hx
      obtain ⟨hj', ey⟩ := List.getElem?_eq_some_iff.1 hy
      have hx1 := (h1 x (List.mem_of_getElem? hx)).1
      have hy1 := (h1 y (List.mem_of_getElem? hy)).1
      obtain ⟨kx, vx⟩ := x
      obtain ⟨ky, vy⟩ := y
      cases kx with
      | nil => simp at hx1
      | cons a kx =>
        cases ky with
        | nil => simp at hy1
        | cons b ky =>
          have hab : a < b := by
            have hsp : ps = ps.take j ++ ps.drop j := (List.take_append_drop j ps).symm
            rw [hsp, keysT, List.flatMap_append] at h2
            have h3 := (List.pairwise_append.1 h2).2.2
            refine h3 a (List.mem_flatMap.2 ⟨⟨a :: kx, vx⟩, ?_, by simp⟩) b (List.mem_flatMap.2 ⟨⟨b :: ky, vy⟩, ?_, by simp⟩)
            · rw [← ex]; exact List.mem_take_iff_getElem.2 ⟨i, by omega, rfl⟩
            · rw [← ey]; exact List.mem_of_getElem? (i := 0) (by rw [List.getElem?_drop, Nat.add_zero]; exact List.getElem?_eq_getElem hj')
          simp only [List.headD_cons] at hpy ⊢
          exact List.not_lt.1 (fun hc => (List.not_lt.2 hpy) (lt_trans' hc hab))
    · rw [hx] at hy; cases hy; exact hpy
end Go.Proofs.YthkobnpogigkiaaDoor
/- Trees: what Get and Range compute. Conditions: how much there is of what comes in. -/
namespace Go.Proofs.YthkobnpogigkiaaDoor
open Go.Abs
attribute [local irreducible] L Code.wp bodyPost Exit.then Exit.inBlock
set_option linter.unusedVariables false
set_option linter.unusedSimpArgs false
def getM (ps : List Pg) (key : Str) : Str × Bool :=
  if goodTree ps then
    match ps[pgOf ps key]? with
    | some p => if foundM p.ks key then ((p.vs[lbM p.ks key]?).getD [], true) else ([], false)
    | none => ([], false)
  else ([], false)
set_option maxRecDepth 100000 in
set_option maxHeartbeats 4000000 in
theorem get_any (ps : List Pg) (key : Str) (hl : ps.length ≤ 140737488355328) :
    CallA Tryd.prog 70 [.agg [.iv (.sl (ps.map Pg.c))], aS key] [] [] [] (.tup [.iv (S (getM ps key).1), .iv (B (getM ps key).2)]) := by
  have kg := goodtree_any ps hl
  refine CallA.intro _ Tryd.func70 rfl Tryd.ntmps70 rfl (fun w0 E0 => ?_)
  cases hg : goodTree ps with
  | false =>
    rw [hg] at kg
    have e : getM ps key = ([], false) := by simp [getM, hg]
    rw [e]
    (repeat' (first | (refine LW.is ?_; first | ((apply s_call0; exact rfl; exact kg; exact rfl; exact rfl)) | (refine s_nil ?_) | (apply s_asIv; exact rfl; exact rfl) | (apply s_loadAP; exact rfl; exact rfl; exact rfl; (focus repeat' (first | exact nl_nil rfl | (apply nl_cons; exact rfl) | exact nIm rfl | exact nSl rfl | exact nIv rfl | exact nRow rfl | exact nNil rfl | exact nPtr rfl | exact nBsh rfl | exact nBsl rfl | exact nAny rfl | exact nIIm rfl | exact nISl rfl | exact rfl)); exact rfl) | (apply s_not; exact rfl; exact rfl) | (apply s_box; exact rfl; exact rfl; exact rfl; (focus repeat' (first | exact nl_nil rfl | (apply nl_cons; exact rfl) | exact nIm rfl | exact nSl rfl | exact nIv rfl | exact nRow rfl | exact nNil rfl | exact nPtr rfl | exact nBsh rfl | exact nBsl rfl | exact nAny rfl | exact nIIm rfl | exact nISl rfl | exact rfl)); exact rfl; exact rfl)) | (refine c_seq ?_) | (refine s_region ?_) | (refine L.thenN ?_) | (refine L.thenR ?_) | (refine L.ret ?_) | (apply c_condT; exact rfl; (first | exact rfl | assumption))))
    all_goals (first | (apply L.ends1; exact rfl; exact rfl; exact rfl) | (apply L.ends2; exact rfl; exact rfl; exact rfl) | (apply L.ends3; exact rfl; exact rfl; exact rfl) | (apply L.ends1A; exact rfl; exact rfl; exact rfl) | (apply L.ends2A; exact rfl; exact rfl; exact rfl))
    all_goals rfl
  | true =>
    rw [hg] at kg
    have hs := sorted_of_good key hg
    have kp := place_any ps key hl hs
    cases hp : ps[pgOf ps key]? with
    | none =>
      have e : getM ps key = ([], false) := by simp [getM, hp]
      have em : placeM ps key = (0, 0, false) := by rw [placeM, hp]
      rw [e]
      rw [em] at kp
      (repeat' (first | (refine LW.is ?_; first | ((apply s_call0; exact rfl; exact kg; exact rfl; exact rfl)) | ((apply s_call0; exact rfl; exact kp; exact rfl; exact rfl)) | (refine s_nil ?_) | (apply s_mvIv; exact rfl; exact rfl) | (apply s_mvTup; exact rfl; exact rfl) | (apply s_asIv; exact rfl; exact rfl) | (apply s_loadAP; exact rfl; exact rfl; exact rfl; (focus repeat' (first | exact nl_nil rfl | (apply nl_cons; exact rfl) | exact nIm rfl | exact nSl rfl | exact nIv rfl | exact nRow rfl | exact nNil rfl | exact nPtr rfl | exact nBsh rfl | exact nBsl rfl | exact nAny rfl | exact nIIm rfl | exact nISl rfl | exact rfl)); exact rfl) | (apply s_not; exact rfl; exact rfl) | (apply s_extract; exact rfl; exact rfl; (apply n_some; exact rfl; (first | exact nIm rfl | exact nSl rfl | exact nIv rfl | exact nRow rfl | exact nNil rfl | exact nPtr rfl | exact nBsh rfl | exact nBsl rfl | exact nAny rfl | exact rfl))) | (apply s_box; exact rfl; exact rfl; exact rfl; (focus repeat' (first | exact nl_nil rfl | (apply nl_cons; exact rfl) | exact nIm rfl | exact nSl rfl | exact nIv rfl | exact nRow rfl | exact nNil rfl | exact nPtr rfl | exact nBsh rfl | exact nBsl rfl | exact nAny rfl | exact nIIm rfl | exact nISl rfl | exact rfl)); exact rfl; exact rfl)) | (refine c_seq ?_) | (refine s_region ?_) | (refine L.thenN ?_) | (refine L.thenR ?_) | (refine L.ret ?_) | (refine L.skip ?_) | (apply c_condT; exact rfl; (first | exact rfl | assumption)) | (apply c_condF; exact rfl; (first | exact rfl | assumption))))
      all_goals (first | (apply L.ends1; exact rfl; exact rfl; exact rfl) | (apply L.ends2; exact rfl; exact rfl; exact rfl) | (apply L.ends3; exact rfl; exact rfl; exact rfl) | (apply L.ends1A; exact rfl; exact rfl; exact rfl) | (apply L.ends2A; exact rfl; exact rfl; exact rfl))
      all_goals rfl
    | some p =>
      have em : placeM ps key = (pgOf ps key, lbM p.ks key, foundM p.ks key) := by rw [placeM, hp]
      rw [em] at kp
      have hv := hs.vs p (List.mem_of_getElem? hp)
      cases hf : foundM p.ks key with
      | false =>
        rw [hf] at kp
        have e : getM ps key = ([], false) := by simp [getM, hp, hf]
        rw [e]
        (repeat' (first | (refine LW.is ?_; first | ((apply s_call0; exact rfl; exact kg; exact rfl; exact rfl)) | ((apply s_call0; exact rfl; exact kp; exact rfl; exact rfl)) | (refine s_nil ?_) | (apply s_mvIv; exact rfl; exact rfl) | (apply s_mvTup; exact rfl; exact rfl) | (apply s_asIv; exact rfl; exact rfl) | (apply s_loadAP; exact rfl; exact rfl; exact rfl; (focus repeat' (first | exact nl_nil rfl | (apply nl_cons; exact rfl) | exact nIm rfl | exact nSl rfl | exact nIv rfl | exact nRow rfl | exact nNil rfl | exact nPtr rfl | exact nBsh rfl | exact nBsl rfl | exact nAny rfl | exact nIIm rfl | exact nISl rfl | exact rfl)); exact rfl) | (apply s_not; exact rfl; exact rfl) | (apply s_extract; exact rfl; exact rfl; (apply n_some; exact rfl; (first | exact nIm rfl | exact nSl rfl | exact nIv rfl | exact nRow rfl | exact nNil rfl | exact nPtr rfl | exact nBsh rfl | exact nBsl rfl | exact nAny rfl | exact rfl))) | (apply s_box; exact rfl; exact rfl; exact rfl; (focus repeat' (first | exact nl_nil rfl | (apply nl_cons; exact rfl) | exact nIm rfl | exact nSl rfl | exact nIv rfl | exact nRow rfl | exact nNil rfl | exact nPtr rfl | exact nBsh rfl | exact nBsl rfl | exact nAny rfl | exact nIIm rfl | exact nISl rfl | exact rfl)); exact rfl; exact rfl)) | (refine c_seq ?_) | (refine s_region ?_) | (refine L.thenN ?_) | (refine L.thenR ?_) | (refine L.ret ?_) | (refine L.skip ?_) | (apply c_condT; exact rfl; (first | exact rfl | assumption)) | (apply c_condF; exact rfl; (first | exact rfl | assumption))))
        all_goals (first | (apply L.ends1; exact rfl; exact rfl; exact rfl) | (apply L.ends2; exact rfl; exact rfl; exact rfl) | (apply L.ends3; exact rfl; exact rfl; exact rfl) | (apply L.ends1A; exact rfl; exact rfl; exact rfl) | (apply L.ends2A; exact rfl; exact rfl; exact rfl))
        all_goals rfl
      | true =>
        rw [hf] at kp
        have hlt : lbM p.ks key < p.vs.length := by
          rw [hv]
          unfold foundM at hf
          have : p.ks[lbM p.ks key]? = some key := by simpa using hf
          exact (List.getElem?_eq_some_iff.1 this).1
        obtain ⟨x, hx⟩ : ∃ x, p.vs[lbM p.ks key]? = some x := ⟨_, List.getElem?_eq_getElem hlt⟩
        have e : getM ps key = (x, true) := by simp [getM, hg, hp, hf, hx]
        rw [e]
        have g1 : (ps.map Pg.c)[((pgOf ps key : Nat) : Int).toNat]? = some [.sl (p.ks.map Str.c), .sl (p.vs.map Str.c)] := by rw [Int.toNat_natCast, List.getElem?_map, hp]; rfl
        have g2 : (p.vs.map Str.c)[((lbM p.ks key : Nat) : Int).toNat]? = some [S x] := by rw [Int.toNat_natCast, List.getElem?_map, hx]; rfl
        (repeat' (first | (refine LW.is ?_; first | ((apply s_call0; exact rfl; exact kg; exact rfl; exact rfl)) | ((apply s_call0; exact rfl; exact kp; exact rfl; exact rfl)) | ((apply s_indexA; exact rfl; exact rfl; exact rfl; omega; exact g1; exact rfl)) | ((apply s_indexA; exact rfl; exact rfl; exact rfl; omega; exact g2; exact rfl)) | (refine s_nil ?_) | (apply s_mvIv; exact rfl; exact rfl) | (apply s_mvTup; exact rfl; exact rfl) | (apply s_asIv; exact rfl; exact rfl) | (apply s_fieldP; exact rfl; exact rfl; exact rfl) | (apply s_fieldE; exact rfl; exact rfl; exact rfl) | (apply s_load1P; exact rfl; exact rfl; exact rfl; (apply n_some; exact rfl; (first | exact nIm rfl | exact nSl rfl | exact nIv rfl | exact nRow rfl | exact nNil rfl | exact nPtr rfl | exact nBsh rfl | exact nBsl rfl | exact nAny rfl | exact rfl))) | (apply s_loadAP; exact rfl; exact rfl; exact rfl; (focus repeat' (first | exact nl_nil rfl | (apply nl_cons; exact rfl) | exact nIm rfl | exact nSl rfl | exact nIv rfl | exact nRow rfl | exact nNil rfl | exact nPtr rfl | exact nBsh rfl | exact nBsl rfl | exact nAny rfl | exact nIIm rfl | exact nISl rfl | exact rfl)); exact rfl) | (apply s_load1E; exact rfl; exact rfl; exact rfl) | (apply s_not; exact rfl; exact rfl) | (apply s_extract; exact rfl; exact rfl; (apply n_some; exact rfl; (first | exact nIm rfl | exact nSl rfl | exact nIv rfl | exact nRow rfl | exact nNil rfl | exact nPtr rfl | exact nBsh rfl | exact nBsl rfl | exact nAny rfl | exact rfl))) | (apply s_box; exact rfl; exact rfl; exact rfl; (focus repeat' (first | exact nl_nil rfl | (apply nl_cons; exact rfl) | exact nIm rfl | exact nSl rfl | exact nIv rfl | exact nRow rfl | exact nNil rfl | exact nPtr rfl | exact nBsh rfl | exact nBsl rfl | exact nAny rfl | exact nIIm rfl | exact nISl rfl | exact rfl)); exact rfl; exact rfl)) | (refine c_seq ?_) | (refine s_region ?_) | (refine L.thenN ?_) | (refine L.ret ?_) | (refine L.skip ?_) | (apply c_condF; exact rfl; (first | exact rfl | assumption))))
        all_goals (first | (apply L.ends1; exact rfl; exact rfl; exact rfl) | (apply L.ends2; exact rfl; exact rfl; exact rfl) | (apply L.ends3; exact rfl; exact rfl; exact rfl) | (apply L.ends1A; exact rfl; exact rfl; exact rfl) | (apply L.ends2A; exact rfl; exact rfl; exact rfl))
        all_goals rfl
abbrev Pr := Str × Str
def Pg.prs (p : Pg) : List Pr := p.ks.zip p.vs
def flatP (ps : List Pg) : List Pr := ps.flatMap Pg.prs
def fromP (ps : List Pg) (i k : Nat) : List Pr := match ps[i]? with
  | some p => p.prs.drop k ++ flatP (ps.drop (i + 1))
  | none => []
def rangeM (ps : List Pg) (lo hi : Str) : List Pr :=
  if goodTree ps then (fromP ps (placeM ps lo).1 (placeM ps lo).2.1).takeWhile (fun x => decide (x.1 < hi)) else []
theorem fromP_next {ps : List Pg} {i : Nat} {p : Pg} (hp : ps[i]? = some p) {k : Nat} (hk : p.prs.length ≤ k) : fromP ps i k = fromP ps (i + 1) 0 := by
  rw [fromP, hp]
  simp only [List.drop_eq_nil_of_le hk, List.nil_append]
  rw [fromP]
  cases hq : ps[i + 1]? with
  | none => rw [dropN hq]; rfl
  | some q => rw [dropC hq]; simp [flatP]
theorem fromP_step {ps : List Pg} {i k : Nat} {p : Pg} (hp : ps[i]? = some p) {s x : Str} (hs : p.ks[k]? = some s) (hx : p.vs[k]? = some x) : fromP ps i k = (s, x) :: fromP ps i (k + 1) := by
  have h : p.prs[k]? = some (s, x) := by simp [Pg.prs, List.getElem?_zip_eq_some, hs, hx]
  rw [fromP, fromP, hp]
  simp only [dropC h, List.cons_append]
theorem flatP_len {ps : List Pg} (h : ∀ p ∈ ps, p.ks.length ≤ 4) : (flatP ps).length ≤ 4 * ps.length := by
  induction ps with
  | nil => simp [flatP]
  | cons p ps ih =>
    have h1 := ih (fun q hq => h q (by simp [hq]))
    have h2 := h p (by simp)
    have h3 : p.prs.length ≤ 4 := by simp only [Pg.prs, List.length_zip]; omega
    have e : flatP (p :: ps) = p.prs ++ flatP ps := rfl
    rw [e, List.length_append, List.length_cons]; omega
theorem fromP_len {ps : List Pg} (h : ∀ p ∈ ps, p.ks.length ≤ 4) (i k : Nat) : (fromP ps i k).length ≤ 4 * ps.length := by
  unfold fromP
  cases hp : ps[i]? with
  | none => simp
  | some p =>
    have hi := (List.getElem?_eq_some_iff.1 hp).1
    have h1 := flatP_len (ps := ps.drop (i + 1)) (fun q hq => h q (List.mem_of_mem_drop hq))
    have h2 := h p (List.mem_of_getElem? hp)
    simp only [List.length_append, List.length_drop, Pg.prs, List.length_zip] at h1 ⊢
    omega
set_option maxRecDepth 100000 in
set_option maxHeartbeats 4000000 in
theorem range_any (ps : List Pg) (lo hi : Str) (hl : 64 * ps.length ≤ 225000000000000) :
    CallA Tryd.prog 72 [.agg [.iv (.sl (ps.map Pg.c))], aS lo, aS hi] [] [] [] (.tup [.iv (.sl ((rangeM ps lo hi).map fun x => Str.c x.1)), .iv (.sl ((rangeM ps lo hi).map fun x => Str.c x.2))]) := by
  have kg := goodtree_any ps (by omega)
  refine CallA.intro _ Tryd.func72 rfl Tryd.ntmps72 rfl (fun w0 E0 => ?_)
  cases hg : goodTree ps with
  | false =>
    rw [hg] at kg
    have e : rangeM ps lo hi = [] := by simp [rangeM, hg]
    rw [e]
    (repeat' (first | (refine LW.is ?_; first | ((apply s_call0; exact rfl; exact kg; exact rfl; exact rfl)) | (refine s_nil ?_) | (apply s_asNil; exact rfl; exact rfl) | (apply s_loadAP; exact rfl; exact rfl; exact rfl; (focus repeat' (first | exact nl_nil rfl | (apply nl_cons; exact rfl) | exact nIm rfl | exact nSl rfl | exact nIv rfl | exact nRow rfl | exact nNil rfl | exact nPtr rfl | exact nBsh rfl | exact nBsl rfl | exact nAny rfl | exact nIIm rfl | exact nISl rfl | exact rfl)); exact rfl) | (apply s_not; exact rfl; exact rfl) | (apply s_box; exact rfl; exact rfl; exact rfl; (focus repeat' (first | exact nl_nil rfl | (apply nl_cons; exact rfl) | exact nIm rfl | exact nSl rfl | exact nIv rfl | exact nRow rfl | exact nNil rfl | exact nPtr rfl | exact nBsh rfl | exact nBsl rfl | exact nAny rfl | exact nIIm rfl | exact nISl rfl | exact rfl)); exact rfl; exact rfl)) | (refine c_seq ?_) | (refine s_region ?_) | (refine L.thenN ?_) | (refine L.thenR ?_) | (refine L.ret ?_) | (apply c_condT; exact rfl; (first | exact rfl | assumption))))
    all_goals (first | (apply L.ends1; exact rfl; exact rfl; exact rfl) | (apply L.ends2; exact rfl; exact rfl; exact rfl) | (apply L.ends3; exact rfl; exact rfl; exact rfl) | (apply L.ends1A; exact rfl; exact rfl; exact rfl) | (apply L.ends2A; exact rfl; exact rfl; exact rfl))
    all_goals rfl
  | true =>
    rw [hg] at kg
    have hs := sorted_of_good lo hg
    have kp := place_any ps lo (by omega) hs
    have e : rangeM ps lo hi = (fromP ps (placeM ps lo).1 (placeM ps lo).2.1).takeWhile (fun x => decide (x.1 < hi)) := by simp [rangeM, hg]
    rw [e]
    clear e
    generalize placeM ps lo = pl at kp
    obtain ⟨i0, k0, ok⟩ := pl
    dsimp only at kp ⊢
    (repeat' (first | (refine LW.is ?_; first | ((apply s_call0; exact rfl; exact kg; exact rfl; exact rfl)) | ((apply s_call0; exact rfl; exact kp; exact rfl; exact rfl)) | (refine s_nil ?_) | (apply s_mvIv; exact rfl; exact rfl) | (apply s_mvTup; exact rfl; exact rfl) | (apply s_asIv; exact rfl; exact rfl) | (apply s_asNil; exact rfl; exact rfl) | (apply s_loadAP; exact rfl; exact rfl; exact rfl; (focus repeat' (first | exact nl_nil rfl | (apply nl_cons; exact rfl) | exact nIm rfl | exact nSl rfl | exact nIv rfl | exact nRow rfl | exact nNil rfl | exact nPtr rfl | exact nBsh rfl | exact nBsl rfl | exact nAny rfl | exact nIIm rfl | exact nISl rfl | exact rfl)); exact rfl) | (apply s_not; exact rfl; exact rfl) | (apply s_extract; exact rfl; exact rfl; (apply n_some; exact rfl; (first | exact nIm rfl | exact nSl rfl | exact nIv rfl | exact nRow rfl | exact nNil rfl | exact nPtr rfl | exact nBsh rfl | exact nBsl rfl | exact nAny rfl | exact rfl))) | (apply s_box; exact rfl; exact rfl; exact rfl; (focus repeat' (first | exact nl_nil rfl | (apply nl_cons; exact rfl) | exact nIm rfl | exact nSl rfl | exact nIv rfl | exact nRow rfl | exact nNil rfl | exact nPtr rfl | exact nBsh rfl | exact nBsl rfl | exact nAny rfl | exact nIIm rfl | exact nISl rfl | exact rfl)); exact rfl; exact rfl)) | (refine c_seq ?_) | (refine L.block ?_) | (refine s_region ?_) | (refine L.thenN ?_) | (refine L.skip ?_) | (apply c_condF; exact rfl; (first | exact rfl | assumption))))
    refine L.adopt 8 (s := 8) (t := 9) (k := 1) rfl rfl rfl ?_
    refine L.adopt 9 (s := 9) (t := 9) (k := 1) rfl rfl rfl ?_
    have hb0 := fromP_len hs.len i0 k0
    refine L.loopP (ι := Nat × Nat × List Pr) (fun i => ⟨[(10, aI (i.1 : Int)), (11, aI (i.2.1 : Int)), (8, .row 8 (i.2.2.map fun x => Str.c x.1)), (9, .row 9 (i.2.2.map fun x => Str.c x.2)), (2, aS hi), (3, .ptr 3 0)], [(3, ⟨61, .l [.iv (.sl (ps.map Pg.c))]⟩)], [(9, ⟨9, 1⟩), (8, ⟨9, 1⟩)]⟩) (fun i => ps.length - i.1)
      (fun i => (fromP ps i0 k0).takeWhile (fun x => decide (x.1 < hi)) = i.2.2 ++ (fromP ps i.1 i.2.1).takeWhile (fun x => decide (x.1 < hi)) ∧ i.2.2.length + (fromP ps i.1 i.2.1).length ≤ 4 * ps.length) (i0 := (i0, k0, [])) ?_ ⟨by simp, by simpa using hb0⟩ ?_
    · (refine Wk.mk' (by intro id h; cases h) ?_ ?_ ?_ <;> repeat' (first | exact WkF.nil | exact WkB.nil | exact WkT.nil | (refine WkF.cons rfl (Sub.refl _) ?_) | (refine WkB.cons rfl rfl (Subs.refl _) ?_) | (refine WkT.cons rfl ?_)))
    rintro ⟨i, k, acc⟩ ⟨hi', hb⟩ K hK
    dsimp only at hi' hb ⊢
    cases hp : ps[i]? with
    | none =>
      have hlt := ltF (l := ps.map Pg.c) (getFN hp)
      have ef : fromP ps i k = [] := by rw [fromP, hp]
      rw [ef] at hi'
      (repeat' (first | (refine LW.is ?_; first | (refine s_nil ?_) | (apply s_mvIv; exact rfl; exact rfl) | (apply s_mvRow; exact rfl; exact rfl) | (apply s_asRow; exact rfl; exact rfl) | (apply s_fieldP; exact rfl; exact rfl; exact rfl) | (apply s_load1P; exact rfl; exact rfl; exact rfl; (apply n_some; exact rfl; (first | exact nIm rfl | exact nSl rfl | exact nIv rfl | exact nRow rfl | exact nNil rfl | exact nPtr rfl | exact nBsh rfl | exact nBsl rfl | exact nAny rfl | exact rfl))) | (apply s_lenSl; exact rfl; exact rfl) | (apply s_lssI; exact rfl; exact rfl; exact rfl)) | (refine c_seq ?_) | (refine s_region ?_) | (refine L.thenN ?_) | (refine L.thenE ?_) | (refine L.inE ?_) | (refine L.ret ?_) | (refine L.exit ?_) | (apply c_condF; exact rfl; (first | exact rfl | assumption))))
      all_goals (first | (apply L.ends1; exact rfl; exact rfl; exact rfl) | (apply L.ends2; exact rfl; exact rfl; exact rfl) | (apply L.ends3; exact rfl; exact rfl; exact rfl) | (apply L.ends1A; exact rfl; exact rfl; exact rfl) | (apply L.ends2A; exact rfl; exact rfl; exact rfl))
      rw [hi']; simp
    | some p =>
      have hlt := ltT (l := ps.map Pg.c) (getF hp)
      have hlt' := ltN hp
      have hv := hs.vs p (List.mem_of_getElem? hp)
      have hk4 := hs.len p (List.mem_of_getElem? hp)
      obtain ⟨ks, vs⟩ := p
      dsimp only at hv hk4
      have g1 : (ps.map Pg.c)[((i : Nat) : Int).toNat]? = some [.sl (ks.map Str.c), .sl (vs.map Str.c)] := by rw [Int.toNat_natCast, List.getElem?_map, hp]; rfl
      (repeat' (first | (refine LW.is ?_; first | (refine s_nil ?_) | (apply s_mvIv; exact rfl; exact rfl) | (apply s_fieldP; exact rfl; exact rfl; exact rfl) | (apply s_load1P; exact rfl; exact rfl; exact rfl; (apply n_some; exact rfl; (first | exact nIm rfl | exact nSl rfl | exact nIv rfl | exact nRow rfl | exact nNil rfl | exact nPtr rfl | exact nBsh rfl | exact nBsl rfl | exact nAny rfl | exact rfl))) | (apply s_lenSl; exact rfl; exact rfl) | (apply s_lssI; exact rfl; exact rfl; exact rfl)) | (refine c_seq ?_) | (refine L.block ?_) | (refine s_region ?_) | (refine L.thenN ?_) | (refine L.skip ?_) | (apply c_condT; exact rfl; (first | exact rfl | assumption))))
      refine L.loopP (ι := Nat × List Pr) (fun j => ⟨[(10, aI (i : Int)), (11, aI (j.1 : Int)), (8, .row 8 (j.2.map fun x => Str.c x.1)), (9, .row 9 (j.2.map fun x => Str.c x.2)), (2, aS hi), (3, .ptr 3 0)], [(3, ⟨61, .l [.iv (.sl (ps.map Pg.c))]⟩)], [(9, ⟨9, 1⟩), (8, ⟨9, 1⟩)]⟩) (fun j => ks.length - j.1)
        (fun j => (fromP ps i0 k0).takeWhile (fun x => decide (x.1 < hi)) = j.2 ++ (fromP ps i j.1).takeWhile (fun x => decide (x.1 < hi)) ∧ j.2.length + (fromP ps i j.1).length ≤ 4 * ps.length) (i0 := (k, acc)) ?_ ⟨hi', hb⟩ ?_
      · (refine Wk.mk' (by intro id h; cases h) ?_ ?_ ?_ <;> repeat' (first | exact WkF.nil | exact WkB.nil | exact WkT.nil | (refine WkF.cons rfl (Sub.refl _) ?_) | (refine WkB.cons rfl rfl (Subs.refl _) ?_) | (refine WkT.cons rfl ?_)))
      clear hi' hb
      rintro ⟨k, acc⟩ ⟨hi', hb⟩ K2 hK2
      dsimp only at hi' hb ⊢
      cases hw : ks[k]? with
      | none =>
        have hlt2 := ltF (l := ks.map Str.c) (getFN hw)
        have hk : (Pg.prs ⟨ks, vs⟩).length ≤ k := by
          have := List.getElem?_eq_none_iff.1 hw
          simp [Pg.prs]; omega
        rw [fromP_next hp hk] at hi' hb
        (repeat' (first | (refine LW.is ?_; first | ((apply s_indexA; exact rfl; exact rfl; exact rfl; omega; exact g1; exact rfl)) | (refine s_nil ?_) | (apply s_mvIv; exact rfl; exact rfl) | (apply s_asIv; exact rfl; exact rfl) | (apply s_fieldP; exact rfl; exact rfl; exact rfl) | (apply s_fieldE; exact rfl; exact rfl; exact rfl) | (apply s_load1P; exact rfl; exact rfl; exact rfl; (apply n_some; exact rfl; (first | exact nIm rfl | exact nSl rfl | exact nIv rfl | exact nRow rfl | exact nNil rfl | exact nPtr rfl | exact nBsh rfl | exact nBsl rfl | exact nAny rfl | exact rfl))) | (apply s_load1E; exact rfl; exact rfl; exact rfl) | (apply s_lenSl; exact rfl; exact rfl) | (apply s_lssI; exact rfl; exact rfl; exact rfl) | (apply s_addI; exact rfl; exact rfl; exact rfl; (first | omega | decide | (dsimp only; omega)); (first | omega | decide | (dsimp only; omega)))) | (refine c_seq ?_) | (refine s_region ?_) | (refine L.thenN ?_) | (refine L.thenE ?_) | (refine L.inN ?_) | (refine L.inE ?_) | (refine L.exit ?_) | (apply c_condF; exact rfl; (first | exact rfl | assumption))))
        refine hK _ (i + 1, 0, acc) ⟨hi', hb⟩ (by dsimp only; omega) ?_
        (refine Wk.mk' (by intro id h; cases h) ?_ ?_ ?_ <;> repeat' (first | exact WkF.nil | exact WkB.nil | exact WkT.nil | (refine WkF.cons rfl (Sub.refl _) ?_) | (refine WkB.cons rfl rfl (Subs.refl _) ?_) | (refine WkT.cons rfl ?_)))
      | some s =>
        have hlt2 := ltT (l := ks.map Str.c) (getF hw)
        have hlt2' := ltN hw
        obtain ⟨x, hx⟩ : ∃ x, vs[k]? = some x := ⟨_, List.getElem?_eq_getElem (by omega)⟩
        have g2 : (ks.map Str.c)[((k : Nat) : Int).toNat]? = some [S s] := by rw [Int.toNat_natCast, List.getElem?_map, hw]; rfl
        have g3 : (vs.map Str.c)[((k : Nat) : Int).toNat]? = some [S x] := by rw [Int.toNat_natCast, List.getElem?_map, hx]; rfl
        rw [fromP_step hp hw hx] at hi' hb
        simp only [List.length_cons] at hb
        have hge : (!(Op.bytesLess s hi)) = (!decide (s < hi)) := by rw [ltS]
        cases hq : decide (s < hi) with
        | false =>
          rw [hq] at hge
          (repeat' (first | (refine LW.is ?_; first | ((apply s_indexA; exact rfl; exact rfl; exact rfl; omega; exact g1; exact rfl)) | ((apply s_indexA; exact rfl; exact rfl; exact rfl; omega; exact g2; exact rfl)) | (refine s_nil ?_) | (apply s_mvIv; exact rfl; exact rfl) | (apply s_mvRow; exact rfl; exact rfl) | (apply s_asRow; exact rfl; exact rfl) | (apply s_fieldP; exact rfl; exact rfl; exact rfl) | (apply s_fieldE; exact rfl; exact rfl; exact rfl) | (apply s_load1P; exact rfl; exact rfl; exact rfl; (apply n_some; exact rfl; (first | exact nIm rfl | exact nSl rfl | exact nIv rfl | exact nRow rfl | exact nNil rfl | exact nPtr rfl | exact nBsh rfl | exact nBsl rfl | exact nAny rfl | exact rfl))) | (apply s_load1E; exact rfl; exact rfl; exact rfl) | (apply s_lenSl; exact rfl; exact rfl) | (apply s_lssI; exact rfl; exact rfl; exact rfl) | (apply s_geqS; exact rfl; exact rfl; exact rfl)) | (refine c_seq ?_) | (refine L.block ?_) | (refine s_region ?_) | (refine L.thenN ?_) | (refine L.thenR ?_) | (refine L.inR ?_) | (refine L.ret ?_) | (refine L.skip ?_) | (apply c_condT; exact rfl; (first | exact rfl | assumption))))
          all_goals (first | (apply L.ends1; exact rfl; exact rfl; exact rfl) | (apply L.ends2; exact rfl; exact rfl; exact rfl) | (apply L.ends3; exact rfl; exact rfl; exact rfl) | (apply L.ends1A; exact rfl; exact rfl; exact rfl) | (apply L.ends2A; exact rfl; exact rfl; exact rfl))
          rw [hi', List.takeWhile_cons, hq]; simp
        | true =>
          rw [hq] at hge
          rw [List.takeWhile_cons, hq] at hi'
          (repeat' (first | (refine LW.is ?_; first | ((apply s_indexA; exact rfl; exact rfl; exact rfl; omega; exact g1; exact rfl)) | ((apply s_indexA; exact rfl; exact rfl; exact rfl; omega; exact g2; exact rfl)) | (refine s_nil ?_) | (apply s_mvIv; exact rfl; exact rfl) | (apply s_asIv; exact rfl; exact rfl) | (apply s_fieldP; exact rfl; exact rfl; exact rfl) | (apply s_fieldE; exact rfl; exact rfl; exact rfl) | (apply s_load1P; exact rfl; exact rfl; exact rfl; (apply n_some; exact rfl; (first | exact nIm rfl | exact nSl rfl | exact nIv rfl | exact nRow rfl | exact nNil rfl | exact nPtr rfl | exact nBsh rfl | exact nBsl rfl | exact nAny rfl | exact rfl))) | (apply s_load1E; exact rfl; exact rfl; exact rfl) | (apply s_lenSl; exact rfl; exact rfl) | (apply s_lssI; exact rfl; exact rfl; exact rfl) | (apply s_geqS; exact rfl; exact rfl; exact rfl) | (apply s_addI; exact rfl; exact rfl; exact rfl; (first | omega | decide | (dsimp only; omega)); (first | omega | decide | (dsimp only; omega)))) | (refine DR.is ?_; first | ((apply d_indexA; exact rfl; exact rfl; exact rfl; omega; exact g1; exact rfl)) | ((apply d_indexA; exact rfl; exact rfl; exact rfl; omega; exact g2; exact rfl)) | ((apply d_indexA; exact rfl; exact rfl; exact rfl; omega; exact g3; exact rfl)) | (apply d_nil; kernel_rfl) | (apply d_mvIv; exact rfl; exact rfl) | (apply d_mvRow; exact rfl; exact rfl) | (apply d_asRow; exact rfl; exact rfl) | (apply d_fieldP; exact rfl; exact rfl; exact rfl) | (apply d_fieldE; exact rfl; exact rfl; exact rfl) | (apply d_load1P; exact rfl; exact rfl; exact rfl; (apply n_some; exact rfl; (first | exact nIm rfl | exact nSl rfl | exact nIv rfl | exact nRow rfl | exact nNil rfl | exact nPtr rfl | exact nBsh rfl | exact nBsl rfl | exact nAny rfl | exact rfl))) | (apply d_load1E; exact rfl; exact rfl; exact rfl) | (apply d_bslice; exact rfl; exact rfl; exact rfl; exact rfl; exact rfl; (apply n_some; exact rfl; (focus repeat' (first | exact nl_nil rfl | (apply nl_cons; exact rfl) | exact nIm rfl | exact nSl rfl | exact nIv rfl | exact nRow rfl | exact nNil rfl | exact nPtr rfl | exact nBsh rfl | exact nBsl rfl | exact nAny rfl | exact nIIm rfl | exact nISl rfl | exact rfl))); (apply n_some; exact rfl; (focus repeat' (first | exact nl_nil rfl | (apply nl_cons; exact rfl) | exact nIm rfl | exact nSl rfl | exact nIv rfl | exact nRow rfl | exact nNil rfl | exact nPtr rfl | exact nBsh rfl | exact nBsl rfl | exact nAny rfl | exact nIIm rfl | exact nISl rfl | exact rfl))); exact rfl; (focus repeat' (first | exact nl_nil rfl | (apply nl_cons; exact rfl) | exact nIm rfl | exact nSl rfl | exact nIv rfl | exact nRow rfl | exact nNil rfl | exact nPtr rfl | exact nBsh rfl | exact nBsl rfl | exact nAny rfl | exact nIIm rfl | exact nISl rfl | exact rfl)); exact rfl) | (apply d_append; exact rfl; exact rfl; exact rfl; exact rfl; (focus repeat' (first | exact len_nil | apply len_app | (refine len_map (fun x => rfl)) | (refine len_cons rfl ?_) | exact len_chunks rfl | assumption)); (focus repeat' (first | exact len_nil | apply len_app | (refine len_map (fun x => rfl)) | (refine len_cons rfl ?_) | exact len_chunks rfl | assumption)); (first | (simp [maxLen, chunks_length]; done) | (simp [maxLen, chunks_length]; omega)); (first | (simp [maxLen, chunks_length]; done) | (simp [maxLen, chunks_length]; omega)); exact rfl; exact rfl)) | (refine c_seq ?_) | (refine L.block ?_) | (refine s_region ?_) | (refine d_region ?_) | (refine L.thenN ?_) | (refine L.inN ?_) | (refine L.skip ?_) | (apply c_condT; exact rfl; (first | exact rfl | assumption)) | (apply c_condF; exact rfl; (first | exact rfl | assumption))))
          refine L.only [10, 11, 8, 9, 2, 3] ?_
          refine L.retok 8 65 8 rfl rfl rfl rfl ?_
          refine L.retok 9 77 9 rfl rfl rfl rfl ?_
          refine hK2 _ (k + 1, acc ++ [(s, x)]) ⟨by rw [hi']; simp, by simp; omega⟩ (by dsimp only; omega) (Wk.mk' (by intro id h; cases h) (.cons rfl (Sub.refl _) (.cons rfl (Sub.refl _) (.cons rfl (Sub.of_eq (congrArg (AV.row 8) ?_)) (.cons rfl (Sub.of_eq (congrArg (AV.row 9) ?_)) (.cons rfl (Sub.refl _) (.cons rfl (Sub.refl _) .nil)))))) (.cons rfl rfl (Subs.refl _) .nil) (.cons rfl (.cons rfl .nil)))
          · simp [chunks, Str.c]
          · simp [chunks, Str.c]
end Go.Proofs.YthkobnpogigkiaaDoor
/- Trees, plain laws: what a range holds. Conditions: none. -/
namespace Go.Proofs.YthkobnpogigkiaaDoor
open Go.Abs
set_option linter.unusedVariables false
set_option linter.unusedSimpArgs false
theorem prs_key {p : Pg} {x : Pr} (h : x ∈ p.prs) : x.1 ∈ p.ks := (List.of_mem_zip h).1
theorem fst_prs {p : Pg} (h : p.vs.length = p.ks.length) : p.prs.map Prod.fst = p.ks := by
  unfold Pg.prs; rw [List.map_fst_zip (by omega)]
theorem keys_flat {ps : List Pg} (h : ∀ p ∈ ps, okP p) : (flatP ps).map Prod.fst = keysT ps := by
  induction ps with
  | nil => rfl
  | cons p ps ih =>
    have e : flatP (p :: ps) = p.prs ++ flatP ps := rfl
    rw [e, List.map_append, fst_prs (h p (by simp)).2.2, ih (fun q hq => h q (by simp [hq]))]; rfl
theorem flatP_append (a b : List Pg) : flatP (a ++ b) = flatP a ++ flatP b := by simp [flatP]
theorem keysT_append (a b : List Pg) : keysT (a ++ b) = keysT a ++ keysT b := by simp [keysT]
theorem mem_flat_key {ps : List Pg} {x : Pr} (h : x ∈ flatP ps) : x.1 ∈ keysT ps := by
  obtain ⟨p, hp, hx⟩ := List.mem_flatMap.1 h
  exact List.mem_flatMap.2 ⟨p, hp, prs_key hx⟩
theorem pre_drop {key : Str} : ∀ (p : Pg), p.ks.Pairwise (· < ·) → p.prs.drop (lbM p.ks key) = p.prs.filter (fun x => !decide (x.1 < key)) := by
  rintro ⟨ks, vs⟩ h
  induction ks generalizing vs with
  | nil => simp [Pg.prs]
  | cons s ks ih =>
    cases vs with
    | nil => simp [Pg.prs]
    | cons v vs =>
      have hp := List.pairwise_cons.1 h
      have ih := ih vs hp.2
      simp only [Pg.prs, lbM, pre] at ih ⊢
      by_cases hs : s < key
      · simp only [hs, decide_true, if_true, List.zip_cons_cons, List.drop_succ_cons, List.filter_cons, Bool.not_true, Bool.false_eq_true, if_false]
        exact ih
      · have all : ∀ x ∈ (ks.zip vs), (!decide (x.1 < key)) = true := by
          intro x hx
          have hx1 : x.1 ∈ ks := (List.of_mem_zip (a := x.1) (b := x.2) hx).1
          have h1 := hp.1 _ hx1
          simp only [Bool.not_eq_true', decide_eq_false_iff_not]
          exact fun hc => hs (lt_trans' h1 hc)
        simp only [hs, decide_false, Bool.false_eq_true, if_false, List.zip_cons_cons, List.drop_zero, List.filter_cons, Bool.not_false, if_true]
        rw [List.filter_eq_self.2 all]
theorem from_place {ps : List Pg} (lo : Str) (h : goodTree ps = true) : fromP ps (placeM ps lo).1 (placeM ps lo).2.1 = (flatP ps).filter (fun x => !decide (x.1 < lo)) := by
  obtain ⟨h1, h2⟩ := (good_iff ps).1 h
  have hs := sorted_of_good lo h
  cases hp : ps[pgOf ps lo]? with
  | none =>
    have : ps = [] := by
      cases ps with
      | nil => rfl
      | cons p t =>
        have hle := pre_le (fstLe lo) (p :: t)
        have := List.getElem?_eq_none_iff.1 hp
        simp only [pgOf, List.length_cons] at this hle; omega
    subst this
    rfl
  | some p =>
    have em : placeM ps lo = (pgOf ps lo, lbM p.ks lo, foundM p.ks lo) := by rw [placeM, hp]
    rw [em]
    dsimp only
    rw [fromP, hp]
    dsimp only
    have hmem := List.mem_of_getElem? hp
    have hi := (List.getElem?_eq_some_iff.1 hp).1
    have hsplit : ps = ps.take (pgOf ps lo) ++ p :: ps.drop (pgOf ps lo + 1) := by
      rw [← dropC hp, List.take_append_drop]
    have hk := keys_page h2 hmem
    have hkeys := h2
    rw [hsplit, keysT_append] at hkeys
    have hcons : keysT (p :: ps.drop (pgOf ps lo + 1)) = p.ks ++ keysT (ps.drop (pgOf ps lo + 1)) := rfl
    rw [hcons] at hkeys
    obtain ⟨_, hr, hcross⟩ := List.pairwise_append.1 hkeys
    obtain ⟨_, _, hcross2⟩ := List.pairwise_append.1 hr
    have hne := (h1 p hmem).1
    have before : (flatP (ps.take (pgOf ps lo))).filter (fun x => !decide (x.1 < lo)) = [] := by
      rw [List.filter_eq_nil_iff]
      intro x hx
      have hx1 := mem_flat_key hx
      have hpos : 0 < pgOf ps lo := by
        refine Nat.pos_of_ne_zero (fun e => ?_)
        rw [e] at hx; simp [flatP] at hx
      have hq : pgOf ps lo < pre (fstLe lo) ps := by unfold pgOf at hpos ⊢; omega
      have hf := pre_lt hp hq
      obtain ⟨ks, vs⟩ := p
      cases ks with
      | nil => simp at hne
      | cons s ks =>
        have hlt := hcross x.1 hx1 s (by simp)
        have hf : s ≤ lo := of_decide_eq_true hf
        have : x.1 < lo := by
          refine List.not_le.1 (fun hc => ?_)
          exact absurd hlt (List.not_lt.2 (List.le_trans hf hc))
        simp [this]
    have after : (flatP (ps.drop (pgOf ps lo + 1))).filter (fun x => !decide (x.1 < lo)) = flatP (ps.drop (pgOf ps lo + 1)) := by
      rw [List.filter_eq_self]
      intro x hx
      cases hq : ps.drop (pgOf ps lo + 1) with
      | nil => rw [hq] at hx; simp [flatP] at hx
      | cons q t =>
        have hq1 : ps[pgOf ps lo + 1]? = some q := by
          have := congrArg (fun l => l[0]?) hq
          simpa using this
        have hnot : fstLe lo q = false := by
          cases hfl : fstLe lo q with
          | false => rfl
          | true =>
            have := hs.pages.le hq1 hfl
            unfold pgOf at this; omega
        have hqmem := List.mem_of_getElem? hq1
        have hqne := (h1 q hqmem).1
        have hx1 := mem_flat_key hx
        rw [hq] at hx1
        have hsub : (keysT (q :: t)).Pairwise (· < ·) := by
          have := (List.pairwise_append.1 hr).2.1
          rwa [hq] at this
        obtain ⟨ks, vs⟩ := q
        cases ks with
        | nil => simp at hqne
        | cons s ks =>
          have hnot : ¬ s ≤ lo := of_decide_eq_false hnot
          have hlo : lo < s := List.not_le.1 hnot
          have hge : x.1 = s ∨ s < x.1 := by
            have e : keysT (⟨s :: ks, vs⟩ :: t) = s :: (ks ++ keysT t) := rfl
            rw [e] at hx1 hsub
            rcases List.mem_cons.1 hx1 with h | h
            · exact .inl h
            · exact .inr ((List.pairwise_cons.1 hsub).1 _ h)
          have : ¬ x.1 < lo := by
            rcases hge with h | h
            · rw [h]; exact List.lt_asymm hlo
            · exact List.lt_asymm (lt_trans' hlo h)
          simp [this]
    have hflat : flatP ps = flatP (ps.take (pgOf ps lo)) ++ (p.prs ++ flatP (ps.drop (pgOf ps lo + 1))) := by
      conv => lhs; rw [hsplit]
      rw [flatP_append]; rfl
    rw [hflat, List.filter_append, List.filter_append, before, after, ← pre_drop p hk]
    rfl
theorem take_filter {hi : Str} : ∀ {l : List Pr}, (l.map Prod.fst).Pairwise (· < ·) → l.takeWhile (fun x => decide (x.1 < hi)) = l.filter (fun x => decide (x.1 < hi))
  | [], _ => rfl
  | x :: l, h => by
    simp only [List.map_cons] at h
    have hp := List.pairwise_cons.1 h
    rw [List.takeWhile_cons, List.filter_cons]
    by_cases hx : x.1 < hi
    · simp only [hx, decide_true, if_true]; rw [take_filter hp.2]
    · simp only [hx, decide_false, Bool.false_eq_true, if_false]
      rw [eq_comm, List.filter_eq_nil_iff]
      intro y hy
      have := hp.1 y.1 (List.mem_map.2 ⟨y, hy, rfl⟩)
      simp only [decide_eq_true_eq]
      exact fun hc => hx (lt_trans' this hc)
theorem range_law {ps : List Pg} (lo hi : Str) (h : goodTree ps = true) : rangeM ps lo hi = (flatP ps).filter (fun x => !decide (x.1 < lo) && decide (x.1 < hi)) := by
  obtain ⟨h1, h2⟩ := (good_iff ps).1 h
  have hk : ((flatP ps).map Prod.fst).Pairwise (· < ·) := by rw [keys_flat h1]; exact h2
  rw [rangeM, if_pos h, from_place lo h, take_filter, List.filter_filter]
  · congr 1; funext x; rw [Bool.and_comm]
  · exact hk.sublist (List.Sublist.map _ List.filter_sublist)
end Go.Proofs.YthkobnpogigkiaaDoor
/- The law TreeRanges answers true, if 'trees' does. Conditions: how much there is of what comes in. -/
namespace Go.Proofs.YthkobnpogigkiaaDoor
open Go.Abs
attribute [local irreducible] L Code.wp bodyPost Exit.then Exit.inBlock
set_option linter.unusedVariables false
set_option linter.unusedSimpArgs false
theorem range_len (ps : List Pg) (lo hi : Str) : (rangeM ps lo hi).length ≤ 4 * ps.length := by
  unfold rangeM
  split
  · rename_i hg
    exact Nat.le_trans (List.takeWhile_sublist _).length_le (fromP_len (sorted_of_good lo hg).len _ _)
  · simp
end Go.Proofs.YthkobnpogigkiaaDoor
/- Trees: what slices.Clone computes: a row of one's own. Conditions: how much there is of what comes in. -/
namespace Go.Proofs.YthkobnpogigkiaaDoor
open Go.Abs
attribute [local irreducible] L Code.wp bodyPost Exit.then Exit.inBlock
set_option linter.unusedVariables false
set_option linter.unusedSimpArgs false
set_option maxRecDepth 100000 in
set_option maxHeartbeats 4000000 in
theorem cloneS_any (es : List (List IV)) (hk : ∀ e ∈ es, e.length = 1) (hne : es ≠ []) (hm : es.length ≤ maxLen) (hl : es.length * 16 ≤ 140737488355328) :
    CallA Tryd.prog 116 [.iv (.sl es)] [] [(1000, ⟨9, .r es.flatten 0⟩)] [] (.bsh 1000 0 es.length 1) := by
  refine CallA.intro _ Tryd.func116 rfl Tryd.ntmps116 rfl (fun w0 E0 => ?_)
  (repeat' (first | (refine LW.is ?_; first | ((apply s_eqlNil; exact rfl; exact rfl; exact rfl; exact hne)) | ((apply s_mkEmpty; exact rfl; exact rfl; exact rfl; exact rfl; exact rfl)) | ((apply s_cloneR 1000; exact rfl; exact rfl; exact rfl; exact hk; exact hne; exact hm; exact hl; exact rfl)) | (refine s_nil ?_) | (apply s_mvIv; exact rfl; exact rfl) | (apply s_asNil; exact rfl; exact rfl) | (apply s_asBsh; exact rfl; exact rfl)) | (refine c_seq ?_) | (refine s_region ?_) | (refine L.thenN ?_) | (refine L.ret ?_) | (refine L.skip ?_) | (apply c_condF; exact rfl; (first | exact rfl | assumption))))
  all_goals (apply L.ends; exact rfl; exact rfl; exact Sub.refl _; exact Wk.mk' (by intro id h; cases h) .nil (.cons rfl rfl (Subs.refl _) .nil) .nil)
set_option maxRecDepth 100000 in
set_option maxHeartbeats 4000000 in
theorem cloneP_any (es : List (List IV)) (hk : ∀ e ∈ es, e.length = 2) (hne : es ≠ []) (hm : es.length ≤ maxLen) (hl : es.length * 48 ≤ 140737488355328) :
    CallA Tryd.prog 107 [.iv (.sl es)] [] [(1000, ⟨127, .r es.flatten 0⟩)] [] (.bsh 1000 0 es.length 2) := by
  refine CallA.intro _ Tryd.func107 rfl Tryd.ntmps107 rfl (fun w0 E0 => ?_)
  (repeat' (first | (refine LW.is ?_; first | ((apply s_eqlNil; exact rfl; exact rfl; exact rfl; exact hne)) | ((apply s_mkEmpty; exact rfl; exact rfl; exact rfl; exact rfl; exact rfl)) | ((apply s_cloneR 1000; exact rfl; exact rfl; exact rfl; exact hk; exact hne; exact hm; exact hl; exact rfl)) | (refine s_nil ?_) | (apply s_mvIv; exact rfl; exact rfl) | (apply s_asNil; exact rfl; exact rfl) | (apply s_asBsh; exact rfl; exact rfl)) | (refine c_seq ?_) | (refine s_region ?_) | (refine L.thenN ?_) | (refine L.ret ?_) | (refine L.skip ?_) | (apply c_condF; exact rfl; (first | exact rfl | assumption))))
  all_goals (apply L.ends; exact rfl; exact rfl; exact Sub.refl _; exact Wk.mk' (by intro id h; cases h) .nil (.cons rfl rfl (Subs.refl _) .nil) .nil)
set_option maxRecDepth 100000 in
set_option maxHeartbeats 4000000 in
theorem cloneP_nil :
    CallA Tryd.prog 107 [.iv (.sl [])] [] [] [] (.iv (.sl [])) := by
  refine CallA.intro _ Tryd.func107 rfl Tryd.ntmps107 rfl (fun w0 E0 => ?_)
  (repeat' (first | ((apply s_eqlNil0; exact rfl; exact rfl; exact rfl; rintro (_ | _))) | (refine LW.is ?_; first | ((apply s_app0; exact rfl; exact rfl; exact rfl)) | (refine s_nil ?_) | (apply s_mvIv; exact rfl; exact rfl) | (apply s_asIv; exact rfl; exact rfl) | (apply s_asNil; exact rfl; exact rfl) | (apply s_bslice; exact rfl; exact rfl; exact rfl; exact rfl; exact rfl; (apply n_some; exact rfl; (focus repeat' (first | exact nl_nil rfl | (apply nl_cons; exact rfl) | exact nIm rfl | exact nSl rfl | exact nIv rfl | exact nRow rfl | exact nNil rfl | exact nPtr rfl | exact nBsh rfl | exact nBsl rfl | exact nAny rfl | exact nIIm rfl | exact nISl rfl | exact rfl))); (apply n_some; exact rfl; (focus repeat' (first | exact nl_nil rfl | (apply nl_cons; exact rfl) | exact nIm rfl | exact nSl rfl | exact nIv rfl | exact nRow rfl | exact nNil rfl | exact nPtr rfl | exact nBsh rfl | exact nBsl rfl | exact nAny rfl | exact nIIm rfl | exact nISl rfl | exact rfl))); exact rfl; (focus repeat' (first | exact nl_nil rfl | (apply nl_cons; exact rfl) | exact nIm rfl | exact nSl rfl | exact nIv rfl | exact nRow rfl | exact nNil rfl | exact nPtr rfl | exact nBsh rfl | exact nBsl rfl | exact nAny rfl | exact nIIm rfl | exact nISl rfl | exact rfl)); exact rfl)) | (refine c_seq ?_) | (refine s_region ?_) | (refine L.thenN ?_) | (refine L.thenR ?_) | (refine L.ret ?_) | (refine L.skip ?_) | (apply c_condT; exact rfl; (first | exact rfl | assumption)) | (apply c_condF; exact rfl; (first | exact rfl | assumption))))
  all_goals (first | (apply L.ends1; exact rfl; exact rfl; exact rfl) | (apply L.ends2; exact rfl; exact rfl; exact rfl) | (apply L.ends3; exact rfl; exact rfl; exact rfl) | (apply L.ends1A; exact rfl; exact rfl; exact rfl) | (apply L.ends2A; exact rfl; exact rfl; exact rfl))
  all_goals rfl
end Go.Proofs.YthkobnpogigkiaaDoor
/- Trees: what slices.Insert computes: a row of one's own with one element more. Conditions: the place is within; how much there is of what comes in. -/
namespace Go.Proofs.YthkobnpogigkiaaDoor
open Go.Abs
attribute [local irreducible] L Code.wp bodyPost Exit.then Exit.inBlock
set_option linter.unusedVariables false
set_option linter.unusedSimpArgs false
theorem flat_ne {k : Nat} {es : List (List IV)} (hk : ∀ e ∈ es, e.length = k) (h0 : 0 < k) (hne : es ≠ []) : es.flatten ≠ [] := fun e => by
  have := flatten_len es hk
  rw [e] at this
  have hp : 0 < es.length := List.length_pos_iff.2 hne
  have : 0 < es.length * k := Nat.mul_pos hp h0
  simp at *; omega
theorem mem_ins {k i : Nat} {es : List (List IV)} {v : List IV} (hk : ∀ e ∈ es, e.length = k) (hv : v.length = k) : ∀ e ∈ es.take i ++ v :: es.drop i, e.length = k := fun e he => by
  rcases List.mem_append.1 he with h | h
  · exact hk e (List.mem_of_mem_take h)
  · rcases List.mem_cons.1 h with rfl | h
    · exact hv
    · exact hk e (List.mem_of_mem_drop h)
theorem len_ins {i : Nat} {es : List (List IV)} {v : List IV} (hi : i ≤ es.length) : (es.take i ++ v :: es.drop i).length = es.length + 1 := by
  simp; omega
theorem take1 (v : List IV) : ([v].drop 0).take 1 = [v] := rfl
theorem ins1 {es : List (List IV)} {v : List IV} {i : Nat} (hi : i ≤ es.length) : (es.take i).take i ++ (([v].drop 0).take 1 ++ (es.take i).drop (i + 1)) = es.take i ++ [v] := by
  rw [take1, List.take_take, Nat.min_self, @List.drop_eq_nil_of_le _ (es.take i) _ (by simp; omega)]; simp
theorem ins2 {es : List (List IV)} {v : List IV} {i : Nat} (hi : i ≤ es.length) : (es.take i ++ [v]).take (i + 1) ++ ((es.drop i).take (es.length - i) ++ (es.take i ++ [v]).drop (i + 1 + (es.length - i))) = es.take i ++ v :: es.drop i := by
  rw [List.take_of_length_le (l := es.take i ++ [v]) (by simp; omega), @List.drop_eq_nil_of_le _ (es.take i ++ [v]) _ (by simp; omega), List.take_of_length_le (l := es.drop i) (by simp)]; simp
theorem ins3 {es : List (List IV)} {i : Nat} (hi : i ≤ es.length) : es.take (i + 1) ++ ((es.drop i).take (es.length - i) ++ es.drop (i + 1 + (es.length - i))) = es.take (i + 1) ++ es.drop i := by
  rw [@List.drop_eq_nil_of_le _ es (i + 1 + (es.length - i)) (by omega), List.take_of_length_le (l := es.drop i) (by simp)]; simp
theorem ins4 {es : List (List IV)} {v : List IV} {i : Nat} (hi : i < es.length) : (es.take (i + 1) ++ es.drop i).take i ++ (([v].drop 0).take 1 ++ (es.take (i + 1) ++ es.drop i).drop (i + 1)) = es.take i ++ v :: es.drop i := by
  have hl : (es.take (i + 1)).length = i + 1 := by simp; omega
  rw [take1, List.take_append_of_le_length (by omega), List.take_take, Nat.min_eq_left (by omega), List.drop_append_of_le_length (by omega), @List.drop_eq_nil_of_le _ (es.take (i + 1)) _ (by omega)]
  simp
theorem ins5 {es : List (List IV)} {v : List IV} : es.take es.length ++ (([v].drop 0).take 1 ++ es.drop (es.length + 1)) = es.take es.length ++ v :: es.drop es.length := by
  rw [take1, @List.drop_eq_nil_of_le _ es (es.length + 1) (by omega)]; simp
theorem ins6 {es : List (List IV)} {v : List IV} : es.take es.length ++ ([v].drop 0).take 1 = es.take es.length ++ v :: es.drop es.length := by simp
set_option maxRecDepth 100000 in
set_option maxHeartbeats 8000000 in
theorem insertS_any (es : List (List IV)) (v : List IV) (i : Nat) (hk : ∀ e ∈ es, e.length = 1) (hv : v.length = 1) (hne : es ≠ []) (hi : i ≤ es.length) (hm : es.length + 1 ≤ maxLen) (hl : (es.length + 1) * 16 ≤ 140737488355328) :
    CallA Tryd.prog 115 [.bsh 1000 0 es.length 1, aI (i : Int), .bsl 1001 0 1 1] [(1000, ⟨9, .r es.flatten 0⟩), (1001, ⟨9, .r [v].flatten 0⟩)] [(1002, ⟨9, .r (es.take i ++ v :: es.drop i).flatten 0⟩), (1000, ⟨9, .l []⟩), (1001, ⟨9, .l []⟩)] [] (.bsh 1002 0 (es.length + 1) 1) := by
  have hfl := flatten_len es hk
  have hpos : 0 < es.length := List.length_pos_iff.2 hne
  have hfne := flat_ne hk (by decide) hne
  have hkv : ∀ e ∈ [v], e.length = 1 := by simpa using hv
  have hvl : [v].flatten.length = 1 := by simpa using hv
  have hki := mem_ins (i := i) hk hv
  have hli := len_ins (v := v) hi
  have hkt : ∀ e ∈ es.take i, e.length = 1 := mem_take_len hk
  have hlt : (es.take i).length = i := by simp; omega
  have hft := flatten_len _ hkt
  have hk1 : ∀ e ∈ es.take i ++ [v], e.length = 1 := len_app hkt hkv
  have hl1 : (es.take i ++ [v]).length = i + 1 := by simp; omega
  have hk3 : ∀ e ∈ es.take (i + 1) ++ es.drop i, e.length = 1 := len_app (mem_take_len hk) (mem_drop_len hk)
  have h1v : [v].length = 1 := rfl
  have hl3 : i < es.length → (es.take (i + 1) ++ es.drop i).length = es.length + 1 := fun h => by simp; omega
  refine CallA.intro _ Tryd.func115 rfl Tryd.ntmps115 rfl (fun w0 E0 => ?_)
  refine L.openRow 0 rfl rfl (.inl hfne) (by omega) (fun cap hc1 hc2 => ?_)
  generalize hmm : cap * 1 - es.flatten.length = mm
  have hz : (((1 : Nat) : Int) == 0) = false := rfl
  by_cases hin : i = es.length
  · have hb : (((i : Nat) : Int) == ((es.length : Nat) : Int)) = true := by simp [hin]
    subst hin
    by_cases hroom : es.length + 1 ≤ cap
    · (repeat' (first | (refine LW.is ?_; first | ((apply s_slBl; exact rfl; exact rfl; exact rfl; omega; omega; exact rfl; exact rfl; exact rfl)) | ((apply s_roomRR (i' := 0); exact rfl; exact rfl; exact rfl; exact rfl; exact rfl; exact .inl hfne; exact hk; exact hkv; exact rfl; exact Nat.le_refl 1; omega; exact hroom; exact Nat.le_refl _; omega; exact ins5; exact rfl; exact rfl)) | (refine s_nil ?_) | (apply s_mvIv; exact rfl; exact rfl) | (apply s_mvBsl; exact rfl; exact rfl) | (apply s_asIv; exact rfl; exact rfl) | (apply s_asNil; exact rfl; exact rfl) | (apply s_asBsl; exact rfl; exact rfl) | (apply s_eqlI; exact rfl; exact rfl; exact rfl) | (apply s_lenBsl; exact rfl; exact rfl)) | (refine c_seq ?_) | (refine s_region ?_) | (refine L.thenN ?_) | (refine L.thenR ?_) | (refine L.ret ?_) | (refine L.skip ?_) | (apply c_condT; exact rfl; (first | exact rfl | assumption)) | (apply c_condF; exact rfl; (first | exact rfl | assumption))))
      all_goals (apply L.renameR 6 1002 (k := 1) (n := es.length + 1); exact rfl; exact rfl; exact rfl; exact hki; exact hli; omega; omega)
      all_goals refine L.kill 1001 rfl (row_ne (.inl (flat_ne hkv (by decide) (by simp)))) ?_
      all_goals (apply L.ends; exact rfl; exact rfl; exact Sub.refl _; exact Wk.mk' (by intro id h; simp [keys] at h; rcases h with rfl | rfl <;> rfl) .nil (.cons rfl rfl (Subs.refl _) (.cons rfl rfl (Subs.refl _) (.cons rfl rfl (Subs.refl _) .nil))) .nil)
    · (repeat' (first | (refine LW.is ?_; first | ((apply s_slBl; exact rfl; exact rfl; exact rfl; omega; omega; exact rfl; exact rfl; exact rfl)) | ((apply s_growRR 1002 (i' := 0); exact rfl; exact rfl; exact rfl; exact rfl; exact rfl; exact hk; exact hkv; exact rfl; exact Nat.one_pos; exact Nat.le_refl 1; exact Nat.le_refl _; omega; exact hm; exact hl; exact rfl; exact ins6; exact rfl)) | (refine s_nil ?_) | (apply s_mvIv; exact rfl; exact rfl) | (apply s_mvBsl; exact rfl; exact rfl) | (apply s_asIv; exact rfl; exact rfl) | (apply s_asNil; exact rfl; exact rfl) | (apply s_asBsh; exact rfl; exact rfl) | (apply s_eqlI; exact rfl; exact rfl; exact rfl) | (apply s_lenBsl; exact rfl; exact rfl)) | (refine c_seq ?_) | (refine s_region ?_) | (refine L.thenN ?_) | (refine L.thenR ?_) | (refine L.ret ?_) | (refine L.skip ?_) | (apply c_condT; exact rfl; (first | exact rfl | assumption)) | (apply c_condF; exact rfl; (first | exact rfl | assumption))))
      all_goals refine L.kill 1000 rfl (row_ne (.inl hfne)) ?_
      all_goals refine L.kill 1001 rfl (row_ne (.inl (flat_ne hkv (by decide) (by simp)))) ?_
      all_goals (apply L.ends; exact rfl; exact rfl; exact Sub.refl _; exact Wk.mk' (by intro id h; simp [keys] at h; rcases h with rfl | rfl <;> rfl) .nil (.cons rfl rfl (Subs.refl _) (.cons rfl rfl (Subs.refl _) (.cons rfl rfl (Subs.refl _) .nil))) .nil)
  · have hb : (((i : Nat) : Int) == ((es.length : Nat) : Int)) = false := by simp; omega
    have hilt : i < es.length := by omega
    have hl3 := hl3 hilt
    by_cases hroom : es.length + 1 ≤ cap
    · have hb2 : decide ((cap : Int) < (es.length : Int) + ((1 : Nat) : Int)) = false := by simp; omega
      (repeat' (first | (refine LW.is ?_; first | ((apply s_slBl; exact rfl; exact rfl; exact rfl; omega; omega; exact rfl; exact rfl; exact rfl)) | ((apply s_slBh; exact rfl; exact rfl; exact rfl; omega; omega; exact rfl)) | ((apply s_overlapsR; exact rfl; exact rfl; exact rfl; exact rfl; exact rfl; exact rfl; decide; omega; exact hfne)) | ((apply s_copyRR (es := es.take (i + 1) ++ es.drop i) (es' := [v]) (i := i) (i' := 0) (cnt := 1) (er := es.take i ++ v :: es.drop i); exact rfl; exact rfl; exact rfl; exact rfl; exact rfl; exact hk3; exact hkv; decide; omega; exact rfl; (show min _ _ = _; omega); decide; omega; omega; (simp; omega); (simp; omega); exact ins4 hilt; exact rfl)) | (refine s_nil ?_) | (apply s_mvIv; exact rfl; exact rfl) | (apply s_mvBsl; exact rfl; exact rfl) | (apply s_asIv; exact rfl; exact rfl) | (apply s_asNil; exact rfl; exact rfl) | (apply s_asBsl; exact rfl; exact rfl) | (apply s_eqlI; exact rfl; exact rfl; exact rfl) | (apply s_gtrI; exact rfl; exact rfl; exact rfl) | (apply s_not; exact rfl; exact rfl) | (apply s_addI; exact rfl; exact rfl; exact rfl; (first | omega | decide | (dsimp only; omega)); (first | omega | decide | (dsimp only; omega))) | (apply s_lenBsl; exact rfl; exact rfl) | (apply s_capBsl; exact rfl; exact rfl)) | (refine DR.is ?_; first | ((apply d_slBl; exact rfl; exact rfl; exact rfl; omega; omega; exact rfl; exact rfl; exact rfl)) | ((apply d_copyRR (es := es) (es' := es) (i := i + 1) (i' := i) (cnt := es.length - i) (er := es.take (i + 1) ++ es.drop i); exact rfl; exact rfl; exact rfl; exact rfl; exact rfl; exact hk; exact hk; decide; omega; omega; (show min _ _ = _; omega); omega; omega; omega; omega; omega; exact ins3 hi; exact rfl)) | (apply d_nil; kernel_rfl) | (apply d_mvIv; exact rfl; exact rfl) | (apply d_mvBsl; exact rfl; exact rfl) | (apply d_addI; exact rfl; exact rfl; exact rfl; (first | omega | decide | (dsimp only; omega)); (first | omega | decide | (dsimp only; omega)))) | (refine c_seq ?_) | (refine s_region ?_) | (refine d_region ?_) | (refine L.thenN ?_) | (refine L.thenR ?_) | (refine L.ret ?_) | (refine L.skip ?_) | (apply c_condT; exact rfl; (first | exact rfl | assumption)) | (apply c_condF; exact rfl; (first | exact rfl | assumption))))
      all_goals (apply L.renameR 6 1002 (k := 1) (n := es.length + 1); exact rfl; exact rfl; exact rfl; exact hki; exact hli; omega; omega)
      all_goals refine L.kill 1001 rfl (row_ne (.inl (flat_ne hkv (by decide) (by simp)))) ?_
      all_goals (apply L.ends; exact rfl; exact rfl; exact Sub.refl _; exact Wk.mk' (by intro id h; simp [keys] at h; rcases h with rfl | rfl <;> rfl) .nil (.cons rfl rfl (Subs.refl _) (.cons rfl rfl (Subs.refl _) (.cons rfl rfl (Subs.refl _) .nil))) .nil)
    · have hb2 : decide ((cap : Int) < (es.length : Int) + ((1 : Nat) : Int)) = true := by simp; omega
      (repeat' (first | ((refine L.openRow 9 (id := 2000) (n := es.length + 1) (k := 1) (ty := 9) (xs := (es.take i).flatten) (m := (es.length + 1 - i) * 1) rfl rfl (.inr (by omega)) (by omega) (fun cap2 hd1 hd2 => ?_))) | (refine LW.is ?_; first | ((apply s_slBl; exact rfl; exact rfl; exact rfl; omega; omega; exact rfl; exact rfl; exact rfl)) | ((apply s_slBh; exact rfl; exact rfl; exact rfl; omega; omega; exact rfl)) | ((apply s_growRZ 2000 (n := i) (m := es.length + 1 - i) (nr := es.length + 1); exact rfl; exact rfl; exact rfl; omega; exact rfl; exact hk; omega; omega; omega; omega; omega; exact rfl; exact rfl; omega; exact rfl)) | ((apply s_copyRR (es := es.take i) (es' := [v]) (i := i) (i' := 0) (cnt := 1) (er := es.take i ++ [v]); exact rfl; exact rfl; exact rfl; exact rfl; exact rfl; exact hkt; exact hkv; decide; omega; exact rfl; (show min _ _ = _; omega); decide; omega; omega; omega; omega; exact ins1 hi; exact rfl)) | (refine s_nil ?_) | (apply s_mvIv; exact rfl; exact rfl) | (apply s_mvBsl; exact rfl; exact rfl) | (apply s_asIv; exact rfl; exact rfl) | (apply s_asNil; exact rfl; exact rfl) | (apply s_asBsl; exact rfl; exact rfl) | (apply s_asBsh; exact rfl; exact rfl) | (apply s_eqlI; exact rfl; exact rfl; exact rfl) | (apply s_gtrI; exact rfl; exact rfl; exact rfl) | (apply s_addI; exact rfl; exact rfl; exact rfl; (first | omega | decide | (dsimp only; omega)); (first | omega | decide | (dsimp only; omega))) | (apply s_subI; exact rfl; exact rfl; exact rfl; (first | omega | decide | (dsimp only; omega)); (first | omega | decide | (dsimp only; omega))) | (apply s_lenBsl; exact rfl; exact rfl) | (apply s_capBsl; exact rfl; exact rfl)) | (refine DR.is ?_; first | ((apply d_slBl; exact rfl; exact rfl; exact rfl; omega; omega; exact rfl; exact rfl; exact rfl)) | ((apply d_copyRR (es := es.take i ++ [v]) (es' := es) (i := i + 1) (i' := i) (cnt := es.length - i) (er := es.take i ++ v :: es.drop i); exact rfl; exact rfl; exact rfl; exact rfl; exact rfl; exact hk1; exact hk; decide; omega; omega; (show min _ _ = _; omega); omega; omega; omega; omega; omega; exact ins2 hi; exact rfl)) | (apply d_nil; kernel_rfl) | (apply d_mvIv; exact rfl; exact rfl) | (apply d_mvBsl; exact rfl; exact rfl) | (apply d_addI; exact rfl; exact rfl; exact rfl; (first | omega | decide | (dsimp only; omega)); (first | omega | decide | (dsimp only; omega)))) | (refine c_seq ?_) | (refine s_region ?_) | (refine d_region ?_) | (refine L.thenN ?_) | (refine L.thenR ?_) | (refine L.ret ?_) | (refine L.skip ?_) | (apply c_condT; exact rfl; (first | exact rfl | assumption)) | (apply c_condF; exact rfl; (first | exact rfl | assumption))))
      all_goals (apply L.renameR 6 1002 (k := 1) (n := es.length + 1); exact rfl; exact rfl; exact rfl; exact hki; exact hli; omega; omega)
      all_goals refine L.kill 1000 rfl (row_ne (.inl hfne)) ?_
      all_goals refine L.kill 1001 rfl (row_ne (.inl (flat_ne hkv (by decide) (by simp)))) ?_
      all_goals (apply L.ends; exact rfl; exact rfl; exact Sub.refl _; exact Wk.mk' (by intro id h; simp [keys] at h; rcases h with rfl | rfl <;> rfl) .nil (.cons rfl rfl (Subs.refl _) (.cons rfl rfl (Subs.refl _) (.cons rfl rfl (Subs.refl _) .nil))) .nil)
set_option maxRecDepth 100000 in
set_option maxHeartbeats 8000000 in
theorem insertP_any (es : List (List IV)) (v : List IV) (i : Nat) (hk : ∀ e ∈ es, e.length = 2) (hv : v.length = 2) (hne : es ≠ []) (hi : i ≤ es.length) (hm : es.length + 1 ≤ maxLen) (hl : (es.length + 1) * 48 ≤ 140737488355328) :
    CallA Tryd.prog 117 [.bsh 1000 0 es.length 2, aI (i : Int), .bsl 1001 0 1 1] [(1000, ⟨127, .r es.flatten 0⟩), (1001, ⟨127, .r [v].flatten 0⟩)] [(1002, ⟨127, .r (es.take i ++ v :: es.drop i).flatten 0⟩), (1000, ⟨127, .l []⟩), (1001, ⟨127, .l []⟩)] [] (.bsh 1002 0 (es.length + 1) 2) := by
  have hfl := flatten_len es hk
  have hpos : 0 < es.length := List.length_pos_iff.2 hne
  have hfne := flat_ne hk (by decide) hne
  have hkv : ∀ e ∈ [v], e.length = 2 := by simpa using hv
  have hvl : [v].flatten.length = 2 := by simpa using hv
  have hki := mem_ins (i := i) hk hv
  have hli := len_ins (v := v) hi
  have hkt : ∀ e ∈ es.take i, e.length = 2 := mem_take_len hk
  have hlt : (es.take i).length = i := by simp; omega
  have hft := flatten_len _ hkt
  have hk1 : ∀ e ∈ es.take i ++ [v], e.length = 2 := len_app hkt hkv
  have hl1 : (es.take i ++ [v]).length = i + 1 := by simp; omega
  have hk3 : ∀ e ∈ es.take (i + 1) ++ es.drop i, e.length = 2 := len_app (mem_take_len hk) (mem_drop_len hk)
  have h1v : [v].length = 1 := rfl
  have hl3 : i < es.length → (es.take (i + 1) ++ es.drop i).length = es.length + 1 := fun h => by simp; omega
  refine CallA.intro _ Tryd.func117 rfl Tryd.ntmps117 rfl (fun w0 E0 => ?_)
  refine L.openRow 0 rfl rfl (.inl hfne) (by omega) (fun cap hc1 hc2 => ?_)
  generalize hmm : cap * 2 - es.flatten.length = mm
  have hz : (((1 : Nat) : Int) == 0) = false := rfl
  by_cases hin : i = es.length
  · have hb : (((i : Nat) : Int) == ((es.length : Nat) : Int)) = true := by simp [hin]
    subst hin
    by_cases hroom : es.length + 1 ≤ cap
    · (repeat' (first | (refine LW.is ?_; first | ((apply s_slBl; exact rfl; exact rfl; exact rfl; omega; omega; exact rfl; exact rfl; exact rfl)) | ((apply s_roomRR (i' := 0); exact rfl; exact rfl; exact rfl; exact rfl; exact rfl; exact .inl hfne; exact hk; exact hkv; exact rfl; exact Nat.le_refl 1; omega; exact hroom; exact Nat.le_refl _; omega; exact ins5; exact rfl; exact rfl)) | (refine s_nil ?_) | (apply s_mvIv; exact rfl; exact rfl) | (apply s_mvBsl; exact rfl; exact rfl) | (apply s_asIv; exact rfl; exact rfl) | (apply s_asNil; exact rfl; exact rfl) | (apply s_asBsl; exact rfl; exact rfl) | (apply s_eqlI; exact rfl; exact rfl; exact rfl) | (apply s_lenBsl; exact rfl; exact rfl)) | (refine c_seq ?_) | (refine s_region ?_) | (refine L.thenN ?_) | (refine L.thenR ?_) | (refine L.ret ?_) | (refine L.skip ?_) | (apply c_condT; exact rfl; (first | exact rfl | assumption)) | (apply c_condF; exact rfl; (first | exact rfl | assumption))))
      all_goals (apply L.renameR 6 1002 (k := 2) (n := es.length + 1); exact rfl; exact rfl; exact rfl; exact hki; exact hli; omega; omega)
      all_goals refine L.kill 1001 rfl (row_ne (.inl (flat_ne hkv (by decide) (by simp)))) ?_
      all_goals (apply L.ends; exact rfl; exact rfl; exact Sub.refl _; exact Wk.mk' (by intro id h; simp [keys] at h; rcases h with rfl | rfl <;> rfl) .nil (.cons rfl rfl (Subs.refl _) (.cons rfl rfl (Subs.refl _) (.cons rfl rfl (Subs.refl _) .nil))) .nil)
    · (repeat' (first | (refine LW.is ?_; first | ((apply s_slBl; exact rfl; exact rfl; exact rfl; omega; omega; exact rfl; exact rfl; exact rfl)) | ((apply s_growRR 1002 (i' := 0); exact rfl; exact rfl; exact rfl; exact rfl; exact rfl; exact hk; exact hkv; exact rfl; exact Nat.one_pos; exact Nat.le_refl 1; exact Nat.le_refl _; omega; exact hm; exact hl; exact rfl; exact ins6; exact rfl)) | (refine s_nil ?_) | (apply s_mvIv; exact rfl; exact rfl) | (apply s_mvBsl; exact rfl; exact rfl) | (apply s_asIv; exact rfl; exact rfl) | (apply s_asNil; exact rfl; exact rfl) | (apply s_asBsh; exact rfl; exact rfl) | (apply s_eqlI; exact rfl; exact rfl; exact rfl) | (apply s_lenBsl; exact rfl; exact rfl)) | (refine c_seq ?_) | (refine s_region ?_) | (refine L.thenN ?_) | (refine L.thenR ?_) | (refine L.ret ?_) | (refine L.skip ?_) | (apply c_condT; exact rfl; (first | exact rfl | assumption)) | (apply c_condF; exact rfl; (first | exact rfl | assumption))))
      all_goals refine L.kill 1000 rfl (row_ne (.inl hfne)) ?_
      all_goals refine L.kill 1001 rfl (row_ne (.inl (flat_ne hkv (by decide) (by simp)))) ?_
      all_goals (apply L.ends; exact rfl; exact rfl; exact Sub.refl _; exact Wk.mk' (by intro id h; simp [keys] at h; rcases h with rfl | rfl <;> rfl) .nil (.cons rfl rfl (Subs.refl _) (.cons rfl rfl (Subs.refl _) (.cons rfl rfl (Subs.refl _) .nil))) .nil)
  · have hb : (((i : Nat) : Int) == ((es.length : Nat) : Int)) = false := by simp; omega
    have hilt : i < es.length := by omega
    have hl3 := hl3 hilt
    by_cases hroom : es.length + 1 ≤ cap
    · have hb2 : decide ((cap : Int) < (es.length : Int) + ((1 : Nat) : Int)) = false := by simp; omega
      (repeat' (first | (refine LW.is ?_; first | ((apply s_slBl; exact rfl; exact rfl; exact rfl; omega; omega; exact rfl; exact rfl; exact rfl)) | ((apply s_slBh; exact rfl; exact rfl; exact rfl; omega; omega; exact rfl)) | ((apply s_overlapsR; exact rfl; exact rfl; exact rfl; exact rfl; exact rfl; exact rfl; decide; omega; exact hfne)) | ((apply s_copyRR (es := es.take (i + 1) ++ es.drop i) (es' := [v]) (i := i) (i' := 0) (cnt := 1) (er := es.take i ++ v :: es.drop i); exact rfl; exact rfl; exact rfl; exact rfl; exact rfl; exact hk3; exact hkv; decide; omega; exact rfl; (show min _ _ = _; omega); decide; omega; omega; (simp; omega); (simp; omega); exact ins4 hilt; exact rfl)) | (refine s_nil ?_) | (apply s_mvIv; exact rfl; exact rfl) | (apply s_mvBsl; exact rfl; exact rfl) | (apply s_asIv; exact rfl; exact rfl) | (apply s_asNil; exact rfl; exact rfl) | (apply s_asBsl; exact rfl; exact rfl) | (apply s_eqlI; exact rfl; exact rfl; exact rfl) | (apply s_gtrI; exact rfl; exact rfl; exact rfl) | (apply s_not; exact rfl; exact rfl) | (apply s_addI; exact rfl; exact rfl; exact rfl; (first | omega | decide | (dsimp only; omega)); (first | omega | decide | (dsimp only; omega))) | (apply s_lenBsl; exact rfl; exact rfl) | (apply s_capBsl; exact rfl; exact rfl)) | (refine DR.is ?_; first | ((apply d_slBl; exact rfl; exact rfl; exact rfl; omega; omega; exact rfl; exact rfl; exact rfl)) | ((apply d_copyRR (es := es) (es' := es) (i := i + 1) (i' := i) (cnt := es.length - i) (er := es.take (i + 1) ++ es.drop i); exact rfl; exact rfl; exact rfl; exact rfl; exact rfl; exact hk; exact hk; decide; omega; omega; (show min _ _ = _; omega); omega; omega; omega; omega; omega; exact ins3 hi; exact rfl)) | (apply d_nil; kernel_rfl) | (apply d_mvIv; exact rfl; exact rfl) | (apply d_mvBsl; exact rfl; exact rfl) | (apply d_addI; exact rfl; exact rfl; exact rfl; (first | omega | decide | (dsimp only; omega)); (first | omega | decide | (dsimp only; omega)))) | (refine c_seq ?_) | (refine s_region ?_) | (refine d_region ?_) | (refine L.thenN ?_) | (refine L.thenR ?_) | (refine L.ret ?_) | (refine L.skip ?_) | (apply c_condT; exact rfl; (first | exact rfl | assumption)) | (apply c_condF; exact rfl; (first | exact rfl | assumption))))
      all_goals (apply L.renameR 6 1002 (k := 2) (n := es.length + 1); exact rfl; exact rfl; exact rfl; exact hki; exact hli; omega; omega)
      all_goals refine L.kill 1001 rfl (row_ne (.inl (flat_ne hkv (by decide) (by simp)))) ?_
      all_goals (apply L.ends; exact rfl; exact rfl; exact Sub.refl _; exact Wk.mk' (by intro id h; simp [keys] at h; rcases h with rfl | rfl <;> rfl) .nil (.cons rfl rfl (Subs.refl _) (.cons rfl rfl (Subs.refl _) (.cons rfl rfl (Subs.refl _) .nil))) .nil)
    · have hb2 : decide ((cap : Int) < (es.length : Int) + ((1 : Nat) : Int)) = true := by simp; omega
      (repeat' (first | ((refine L.openRow 9 (id := 2000) (n := es.length + 1) (k := 2) (ty := 127) (xs := (es.take i).flatten) (m := (es.length + 1 - i) * 2) rfl rfl (.inr (by omega)) (by omega) (fun cap2 hd1 hd2 => ?_))) | (refine LW.is ?_; first | ((apply s_slBl; exact rfl; exact rfl; exact rfl; omega; omega; exact rfl; exact rfl; exact rfl)) | ((apply s_slBh; exact rfl; exact rfl; exact rfl; omega; omega; exact rfl)) | ((apply s_growRZ 2000 (n := i) (m := es.length + 1 - i) (nr := es.length + 1); exact rfl; exact rfl; exact rfl; omega; exact rfl; exact hk; omega; omega; omega; omega; omega; exact rfl; exact rfl; omega; exact rfl)) | ((apply s_copyRR (es := es.take i) (es' := [v]) (i := i) (i' := 0) (cnt := 1) (er := es.take i ++ [v]); exact rfl; exact rfl; exact rfl; exact rfl; exact rfl; exact hkt; exact hkv; decide; omega; exact rfl; (show min _ _ = _; omega); decide; omega; omega; omega; omega; exact ins1 hi; exact rfl)) | (refine s_nil ?_) | (apply s_mvIv; exact rfl; exact rfl) | (apply s_mvBsl; exact rfl; exact rfl) | (apply s_asIv; exact rfl; exact rfl) | (apply s_asNil; exact rfl; exact rfl) | (apply s_asBsl; exact rfl; exact rfl) | (apply s_asBsh; exact rfl; exact rfl) | (apply s_eqlI; exact rfl; exact rfl; exact rfl) | (apply s_gtrI; exact rfl; exact rfl; exact rfl) | (apply s_addI; exact rfl; exact rfl; exact rfl; (first | omega | decide | (dsimp only; omega)); (first | omega | decide | (dsimp only; omega))) | (apply s_subI; exact rfl; exact rfl; exact rfl; (first | omega | decide | (dsimp only; omega)); (first | omega | decide | (dsimp only; omega))) | (apply s_lenBsl; exact rfl; exact rfl) | (apply s_capBsl; exact rfl; exact rfl)) | (refine DR.is ?_; first | ((apply d_slBl; exact rfl; exact rfl; exact rfl; omega; omega; exact rfl; exact rfl; exact rfl)) | ((apply d_copyRR (es := es.take i ++ [v]) (es' := es) (i := i + 1) (i' := i) (cnt := es.length - i) (er := es.take i ++ v :: es.drop i); exact rfl; exact rfl; exact rfl; exact rfl; exact rfl; exact hk1; exact hk; decide; omega; omega; (show min _ _ = _; omega); omega; omega; omega; omega; omega; exact ins2 hi; exact rfl)) | (apply d_nil; kernel_rfl) | (apply d_mvIv; exact rfl; exact rfl) | (apply d_mvBsl; exact rfl; exact rfl) | (apply d_addI; exact rfl; exact rfl; exact rfl; (first | omega | decide | (dsimp only; omega)); (first | omega | decide | (dsimp only; omega)))) | (refine c_seq ?_) | (refine s_region ?_) | (refine d_region ?_) | (refine L.thenN ?_) | (refine L.thenR ?_) | (refine L.ret ?_) | (refine L.skip ?_) | (apply c_condT; exact rfl; (first | exact rfl | assumption)) | (apply c_condF; exact rfl; (first | exact rfl | assumption))))
      all_goals (apply L.renameR 6 1002 (k := 2) (n := es.length + 1); exact rfl; exact rfl; exact rfl; exact hki; exact hli; omega; omega)
      all_goals refine L.kill 1000 rfl (row_ne (.inl hfne)) ?_
      all_goals refine L.kill 1001 rfl (row_ne (.inl (flat_ne hkv (by decide) (by simp)))) ?_
      all_goals (apply L.ends; exact rfl; exact rfl; exact Sub.refl _; exact Wk.mk' (by intro id h; simp [keys] at h; rcases h with rfl | rfl <;> rfl) .nil (.cons rfl rfl (Subs.refl _) (.cons rfl rfl (Subs.refl _) (.cons rfl rfl (Subs.refl _) .nil))) .nil)
end Go.Proofs.YthkobnpogigkiaaDoor
/- Trees: what slices.Delete computes of one element: a row of one's own with one element less. Conditions: the place is within. -/
namespace Go.Proofs.YthkobnpogigkiaaDoor
open Go.Abs
attribute [local irreducible] L Code.wp bodyPost Exit.then Exit.inBlock
set_option linter.unusedVariables false
set_option linter.unusedSimpArgs false
theorem del1 {es : List (List IV)} {i : Nat} (hi : i < es.length) : es.take i ++ ((es.drop (i + 1)).take (es.length - (i + 1)) ++ es.drop (i + (es.length - (i + 1)))) = (es.take i ++ es.drop (i + 1)) ++ es.drop (es.length - 1) := by
  rw [List.take_of_length_le (l := es.drop (i + 1)) (by simp), show i + (es.length - (i + 1)) = es.length - 1 by omega]; simp
theorem del2 {es : List (List IV)} {i : Nat} (hi : i < es.length) : ((es.take i ++ es.drop (i + 1)) ++ es.drop (es.length - 1)).take (es.length - 1) = es.take i ++ es.drop (i + 1) := by
  have : (es.take i ++ es.drop (i + 1)).length = es.length - 1 := by simp; omega
  rw [List.take_append_of_le_length (by omega), List.take_of_length_le (by omega)]
set_option maxRecDepth 100000 in
set_option maxHeartbeats 8000000 in
theorem deleteS_any (es : List (List IV)) (i : Nat) (a b : Int) (ha : a = i) (hb : b = i + 1) (hk : ∀ e ∈ es, e.length = 1) (hi : i < es.length) (h2 : 2 ≤ es.length) :
    CallA Tryd.prog 109 [.bsh 1000 0 es.length 1, aI a, aI b] [(1000, ⟨9, .r es.flatten 0⟩)] [(1001, ⟨9, .r (es.take i ++ es.drop (i + 1)).flatten 0⟩), (1000, ⟨9, .l []⟩)] [] (.bsh 1001 0 (es.length - 1) 1) := by
  have hfl := flatten_len es hk
  have hfne := flat_ne hk (by decide) (fun e => by rw [e] at h2; simp at h2)
  have hkr : ∀ e ∈ es.take i ++ es.drop (i + 1), e.length = 1 := len_app (mem_take_len hk) (mem_drop_len hk)
  have hlr : (es.take i ++ es.drop (i + 1)).length = es.length - 1 := by simp; omega
  have hkr2 : ∀ e ∈ (es.take i ++ es.drop (i + 1)) ++ es.drop (es.length - 1), e.length = 1 := len_app hkr (mem_drop_len hk)
  have hlr2 : ((es.take i ++ es.drop (i + 1)) ++ es.drop (es.length - 1)).length = es.length := by simp; omega
  refine CallA.intro _ Tryd.func109 rfl Tryd.ntmps109 rfl (fun w0 E0 => ?_)
  refine L.openRow 0 rfl rfl (.inl hfne) (by omega) (fun cap hc1 hc2 => ?_)
  generalize hmm : cap * 1 - es.flatten.length = mm
  have he : (a == b) = false := by simp; omega
  (repeat' (first | (refine LW.is ?_; first | ((apply s_slB3; exact rfl; exact rfl; exact rfl; exact rfl; exact rfl; omega; omega; omega; omega)) | ((apply s_slBlh; exact rfl; exact rfl; exact rfl; exact rfl; omega; omega; omega; exact rfl; exact rfl; exact rfl)) | ((apply s_clearR (j := es.length - 1); exact rfl; exact rfl; exact hkr2; omega; omega; omega; omega; exact del2 hi; exact rfl)) | (refine s_nil ?_) | (apply s_mvIv; exact rfl; exact rfl) | (apply s_mvBsl; exact rfl; exact rfl) | (apply s_asIv; exact rfl; exact rfl) | (apply s_asNil; exact rfl; exact rfl) | (apply s_asBsl; exact rfl; exact rfl) | (apply s_eqlI; exact rfl; exact rfl; exact rfl) | (apply s_lenBsl; exact rfl; exact rfl)) | (refine DR.is ?_; first | ((apply d_slBl (n' := es.length - (i + 1)); exact rfl; exact rfl; exact rfl; omega; omega; exact rfl; omega; exact rfl)) | ((apply d_slBh (n' := i); exact rfl; exact rfl; exact rfl; omega; omega; omega)) | ((apply d_roomRR (n := i) (i' := i + 1) (n' := es.length - (i + 1)) (nr := es.length - 1); exact rfl; exact rfl; exact rfl; exact rfl; exact rfl; exact .inl hfne; exact hk; exact hk; omega; omega; omega; omega; omega; omega; exact del1 hi; exact rfl; omega)) | (apply d_nil; kernel_rfl) | (apply d_mvIv; exact rfl; exact rfl) | (apply d_mvBsl; exact rfl; exact rfl) | (apply d_asBsl; exact rfl; exact rfl)) | (refine c_seq ?_) | (refine s_region ?_) | (refine d_region ?_) | (refine L.thenN ?_) | (refine L.ret ?_) | (refine L.skip ?_) | (apply c_condF; exact rfl; (first | exact rfl | assumption))))
  all_goals (apply L.renameR 6 1001 (k := 1) (n := es.length - 1); exact rfl; exact rfl; exact rfl; exact hkr; exact hlr; omega; omega)
  all_goals (apply L.ends; exact rfl; exact rfl; exact Sub.refl _; exact Wk.mk' (by intro id h; simp [keys] at h; rcases h with rfl <;> rfl) .nil (.cons rfl rfl (Subs.refl _) (.cons rfl rfl (Subs.refl _) .nil)) .nil)
set_option maxRecDepth 100000 in
set_option maxHeartbeats 8000000 in
theorem deleteS_one (es : List (List IV)) (i : Nat) (a b : Int) (ha : a = i) (hb : b = i + 1) (hk : ∀ e ∈ es, e.length = 1) (hi : i < es.length) (h2 : es.length = 1) :
    CallA Tryd.prog 109 [.bsh 1000 0 es.length 1, aI a, aI b] [(1000, ⟨9, .r es.flatten 0⟩)] [(1000, ⟨9, .l []⟩)] [] (.iv (.sl [])) := by
  have hfl := flatten_len es hk
  have hfne := flat_ne hk (by decide) (fun e => by rw [e] at h2; simp at h2)
  have hkr2 : ∀ e ∈ (es.take i ++ es.drop (i + 1)) ++ es.drop (es.length - 1), e.length = 1 := len_app (len_app (mem_take_len hk) (mem_drop_len hk)) (mem_drop_len hk)
  have hlr2 : ((es.take i ++ es.drop (i + 1)) ++ es.drop (es.length - 1)).length = es.length := by simp; omega
  refine CallA.intro _ Tryd.func109 rfl Tryd.ntmps109 rfl (fun w0 E0 => ?_)
  refine L.openRow 0 rfl rfl (.inl hfne) (by omega) (fun cap hc1 hc2 => ?_)
  generalize hmm : cap * 1 - es.flatten.length = mm
  have he : (a == b) = false := by simp; omega
  (repeat' (first | (refine LW.is ?_; first | ((apply s_slB3; exact rfl; exact rfl; exact rfl; exact rfl; exact rfl; omega; omega; omega; omega)) | ((apply s_slBlh (off' := 0) (n' := 1); exact rfl; exact rfl; exact rfl; exact rfl; omega; omega; omega; rfl; omega; exact rfl)) | ((apply s_clearR (j := 0) (er := []) (mr := (es.length * 1 + mm) - 0); exact rfl; exact rfl; exact hkr2; omega; omega; omega; omega; exact rfl; omega)) | (refine s_nil ?_) | (apply s_mvIv; exact rfl; exact rfl) | (apply s_mvBsl; exact rfl; exact rfl) | (apply s_asIv; exact rfl; exact rfl) | (apply s_asNil; exact rfl; exact rfl) | (apply s_asBsl; exact rfl; exact rfl) | (apply s_eqlI; exact rfl; exact rfl; exact rfl) | (apply s_lenBsl; exact rfl; exact rfl)) | (refine DR.is ?_; first | ((apply d_slBl (n' := es.length - (i + 1)); exact rfl; exact rfl; exact rfl; omega; omega; exact rfl; omega; exact rfl)) | ((apply d_slBh (n' := i); exact rfl; exact rfl; exact rfl; omega; omega; omega)) | ((apply d_roomRR (n := i) (i' := i + 1) (n' := es.length - (i + 1)) (nr := 0); exact rfl; exact rfl; exact rfl; exact rfl; exact rfl; exact .inl hfne; exact hk; exact hk; omega; omega; omega; omega; omega; omega; exact del1 hi; exact rfl; omega)) | (apply d_nil; kernel_rfl) | (apply d_mvIv; exact rfl; exact rfl) | (apply d_mvBsl; exact rfl; exact rfl) | (apply d_asBsl; exact rfl; exact rfl)) | (refine c_seq ?_) | (refine s_region ?_) | (refine d_region ?_) | (refine L.thenN ?_) | (refine L.ret ?_) | (refine L.skip ?_) | (apply c_condF; exact rfl; (first | exact rfl | assumption))))
  all_goals refine L.kill 1000 rfl (row_ne (.inr (by omega))) ?_
  all_goals (apply L.ends; exact rfl; exact rfl; exact Sub.bsl0 _ _ _; exact Wk.mk' (by intro id h; simp [keys] at h; rcases h with rfl <;> rfl) .nil (.cons rfl rfl (Subs.refl _) .nil) .nil)
set_option maxRecDepth 100000 in
set_option maxHeartbeats 8000000 in
theorem deleteP_any (es : List (List IV)) (i : Nat) (a b : Int) (ha : a = i) (hb : b = i + 1) (hk : ∀ e ∈ es, e.length = 2) (hi : i < es.length) (h2 : 2 ≤ es.length) :
    CallA Tryd.prog 110 [.bsh 1000 0 es.length 2, aI a, aI b] [(1000, ⟨127, .r es.flatten 0⟩)] [(1001, ⟨127, .r (es.take i ++ es.drop (i + 1)).flatten 0⟩), (1000, ⟨127, .l []⟩)] [] (.bsh 1001 0 (es.length - 1) 2) := by
  have hfl := flatten_len es hk
  have hfne := flat_ne hk (by decide) (fun e => by rw [e] at h2; simp at h2)
  have hkr : ∀ e ∈ es.take i ++ es.drop (i + 1), e.length = 2 := len_app (mem_take_len hk) (mem_drop_len hk)
  have hlr : (es.take i ++ es.drop (i + 1)).length = es.length - 1 := by simp; omega
  have hkr2 : ∀ e ∈ (es.take i ++ es.drop (i + 1)) ++ es.drop (es.length - 1), e.length = 2 := len_app hkr (mem_drop_len hk)
  have hlr2 : ((es.take i ++ es.drop (i + 1)) ++ es.drop (es.length - 1)).length = es.length := by simp; omega
  refine CallA.intro _ Tryd.func110 rfl Tryd.ntmps110 rfl (fun w0 E0 => ?_)
  refine L.openRow 0 rfl rfl (.inl hfne) (by omega) (fun cap hc1 hc2 => ?_)
  generalize hmm : cap * 2 - es.flatten.length = mm
  have he : (a == b) = false := by simp; omega
  (repeat' (first | (refine LW.is ?_; first | ((apply s_slB3; exact rfl; exact rfl; exact rfl; exact rfl; exact rfl; omega; omega; omega; omega)) | ((apply s_slBlh; exact rfl; exact rfl; exact rfl; exact rfl; omega; omega; omega; exact rfl; exact rfl; exact rfl)) | ((apply s_clearR (j := es.length - 1); exact rfl; exact rfl; exact hkr2; omega; omega; omega; omega; exact del2 hi; exact rfl)) | (refine s_nil ?_) | (apply s_mvIv; exact rfl; exact rfl) | (apply s_mvBsl; exact rfl; exact rfl) | (apply s_asIv; exact rfl; exact rfl) | (apply s_asNil; exact rfl; exact rfl) | (apply s_asBsl; exact rfl; exact rfl) | (apply s_eqlI; exact rfl; exact rfl; exact rfl) | (apply s_lenBsl; exact rfl; exact rfl)) | (refine DR.is ?_; first | ((apply d_slBl (n' := es.length - (i + 1)); exact rfl; exact rfl; exact rfl; omega; omega; exact rfl; omega; exact rfl)) | ((apply d_slBh (n' := i); exact rfl; exact rfl; exact rfl; omega; omega; omega)) | ((apply d_roomRR (n := i) (i' := i + 1) (n' := es.length - (i + 1)) (nr := es.length - 1); exact rfl; exact rfl; exact rfl; exact rfl; exact rfl; exact .inl hfne; exact hk; exact hk; omega; omega; omega; omega; omega; omega; exact del1 hi; exact rfl; omega)) | (apply d_nil; kernel_rfl) | (apply d_mvIv; exact rfl; exact rfl) | (apply d_mvBsl; exact rfl; exact rfl) | (apply d_asBsl; exact rfl; exact rfl)) | (refine c_seq ?_) | (refine s_region ?_) | (refine d_region ?_) | (refine L.thenN ?_) | (refine L.ret ?_) | (refine L.skip ?_) | (apply c_condF; exact rfl; (first | exact rfl | assumption))))
  all_goals (apply L.renameR 6 1001 (k := 2) (n := es.length - 1); exact rfl; exact rfl; exact rfl; exact hkr; exact hlr; omega; omega)
  all_goals (apply L.ends; exact rfl; exact rfl; exact Sub.refl _; exact Wk.mk' (by intro id h; simp [keys] at h; rcases h with rfl <;> rfl) .nil (.cons rfl rfl (Subs.refl _) (.cons rfl rfl (Subs.refl _) .nil)) .nil)
set_option maxRecDepth 100000 in
set_option maxHeartbeats 8000000 in
theorem deleteP_one (es : List (List IV)) (i : Nat) (a b : Int) (ha : a = i) (hb : b = i + 1) (hk : ∀ e ∈ es, e.length = 2) (hi : i < es.length) (h2 : es.length = 1) :
    CallA Tryd.prog 110 [.bsh 1000 0 es.length 2, aI a, aI b] [(1000, ⟨127, .r es.flatten 0⟩)] [(1000, ⟨127, .l []⟩)] [] (.iv (.sl [])) := by
  have hfl := flatten_len es hk
  have hfne := flat_ne hk (by decide) (fun e => by rw [e] at h2; simp at h2)
  have hkr2 : ∀ e ∈ (es.take i ++ es.drop (i + 1)) ++ es.drop (es.length - 1), e.length = 2 := len_app (len_app (mem_take_len hk) (mem_drop_len hk)) (mem_drop_len hk)
  have hlr2 : ((es.take i ++ es.drop (i + 1)) ++ es.drop (es.length - 1)).length = es.length := by simp; omega
  refine CallA.intro _ Tryd.func110 rfl Tryd.ntmps110 rfl (fun w0 E0 => ?_)
  refine L.openRow 0 rfl rfl (.inl hfne) (by omega) (fun cap hc1 hc2 => ?_)
  generalize hmm : cap * 2 - es.flatten.length = mm
  have he : (a == b) = false := by simp; omega
  (repeat' (first | (refine LW.is ?_; first | ((apply s_slB3; exact rfl; exact rfl; exact rfl; exact rfl; exact rfl; omega; omega; omega; omega)) | ((apply s_slBlh (off' := 0) (n' := 1); exact rfl; exact rfl; exact rfl; exact rfl; omega; omega; omega; rfl; omega; exact rfl)) | ((apply s_clearR (j := 0) (er := []) (mr := (es.length * 2 + mm) - 0); exact rfl; exact rfl; exact hkr2; omega; omega; omega; omega; exact rfl; omega)) | (refine s_nil ?_) | (apply s_mvIv; exact rfl; exact rfl) | (apply s_mvBsl; exact rfl; exact rfl) | (apply s_asIv; exact rfl; exact rfl) | (apply s_asNil; exact rfl; exact rfl) | (apply s_asBsl; exact rfl; exact rfl) | (apply s_eqlI; exact rfl; exact rfl; exact rfl) | (apply s_lenBsl; exact rfl; exact rfl)) | (refine DR.is ?_; first | ((apply d_slBl (n' := es.length - (i + 1)); exact rfl; exact rfl; exact rfl; omega; omega; exact rfl; omega; exact rfl)) | ((apply d_slBh (n' := i); exact rfl; exact rfl; exact rfl; omega; omega; omega)) | ((apply d_roomRR (n := i) (i' := i + 1) (n' := es.length - (i + 1)) (nr := 0); exact rfl; exact rfl; exact rfl; exact rfl; exact rfl; exact .inl hfne; exact hk; exact hk; omega; omega; omega; omega; omega; omega; exact del1 hi; exact rfl; omega)) | (apply d_nil; kernel_rfl) | (apply d_mvIv; exact rfl; exact rfl) | (apply d_mvBsl; exact rfl; exact rfl) | (apply d_asBsl; exact rfl; exact rfl)) | (refine c_seq ?_) | (refine s_region ?_) | (refine d_region ?_) | (refine L.thenN ?_) | (refine L.ret ?_) | (refine L.skip ?_) | (apply c_condF; exact rfl; (first | exact rfl | assumption))))
  all_goals refine L.kill 1000 rfl (row_ne (.inr (by omega))) ?_
  all_goals (apply L.ends; exact rfl; exact rfl; exact Sub.bsl0 _ _ _; exact Wk.mk' (by intro id h; simp [keys] at h; rcases h with rfl <;> rfl) .nil (.cons rfl rfl (Subs.refl _) .nil) .nil)
end Go.Proofs.YthkobnpogigkiaaDoor
/- Trees: what page and Put compute. Conditions: the tree is good; how much there is of what comes in. -/
namespace Go.Proofs.YthkobnpogigkiaaDoor
open Go.Abs
attribute [local irreducible] L Code.wp bodyPost Exit.then Exit.inBlock
set_option linter.unusedVariables false
set_option linter.unusedSimpArgs false
def insAt {α : Type} (l : List α) (i : Nat) (a : α) : List α := l.take i ++ a :: l.drop i
theorem insAt_len {α : Type} {l : List α} {i : Nat} {a : α} (hi : i ≤ l.length) : (insAt l i a).length = l.length + 1 := by simp [insAt]; omega
theorem insAt_map {α β : Type} (f : α → β) (l : List α) (i : Nat) (a : α) : (insAt l i a).map f = (l.map f).take i ++ f a :: (l.map f).drop i := by simp [insAt, List.map_take, List.map_drop]
theorem lenS1 (ks : List Str) : ∀ e ∈ ks.map Str.c, e.length = 1 := fun e he => by
  obtain ⟨s, _, rfl⟩ := List.mem_map.1 he; rfl
theorem lenP2 (ps : List Pg) : ∀ e ∈ ps.map Pg.c, e.length = 2 := fun e he => by
  obtain ⟨s, _, rfl⟩ := List.mem_map.1 he; rfl
theorem map_ne {α β : Type} {f : α → β} {l : List α} (h : l ≠ []) : l.map f ≠ [] := by simpa using h
theorem maxL : maxLen = 9223372036854775807 := rfl
theorem cloneS_str (ks : List Str) (hne : ks ≠ []) (hl : ks.length ≤ 1000) :
    CallA Tryd.prog 116 [.iv (.sl (ks.map Str.c))] [] [(1000, ⟨9, .r (ks.map Str.c).flatten 0⟩)] [] (.bsh 1000 0 ks.length 1) := by
  have := cloneS_any (ks.map Str.c) (lenS1 ks) (map_ne hne) (by rw [List.length_map, maxL]; omega) (by rw [List.length_map]; omega)
  rw [List.length_map] at this; exact this
theorem cloneP_pg (ps : List Pg) (hne : ps ≠ []) (hl : ps.length * 48 ≤ 140737488355328) :
    CallA Tryd.prog 107 [.iv (.sl (ps.map Pg.c))] [] [(1000, ⟨127, .r (ps.map Pg.c).flatten 0⟩)] [] (.bsh 1000 0 ps.length 2) := by
  have := cloneP_any (ps.map Pg.c) (lenP2 ps) (map_ne hne) (by rw [List.length_map, maxL]; omega) (by rw [List.length_map]; omega)
  rw [List.length_map] at this; exact this
theorem insertS_str (ks : List Str) (key : Str) (i : Nat) (a : Int) (ha : a = i) (hne : ks ≠ []) (hi : i ≤ ks.length) (hl : ks.length ≤ 1000) :
    CallA Tryd.prog 115 [.bsh 1000 0 ks.length 1, aI a, .bsl 1001 0 1 1] [(1000, ⟨9, .r (ks.map Str.c).flatten 0⟩), (1001, ⟨9, .r [[S key]].flatten 0⟩)] [(1002, ⟨9, .r ((insAt ks i key).map Str.c).flatten 0⟩), (1000, ⟨9, .l []⟩), (1001, ⟨9, .l []⟩)] [] (.bsh 1002 0 (insAt ks i key).length 1) := by
  have := insertS_any (ks.map Str.c) [S key] i (lenS1 ks) rfl (map_ne hne) (by rw [List.length_map]; exact hi) (by rw [List.length_map, maxL]; omega) (by rw [List.length_map]; omega)
  rw [List.length_map, ← insAt_len hi (a := key)] at this
  rw [insAt_map, ha]; exact this
theorem insertP_pg (ps : List Pg) (y : Pg) (i : Nat) (a : Int) (ha : a = i) (hne : ps ≠ []) (hi : i ≤ ps.length) (hl : (ps.length + 1) * 48 ≤ 140737488355328) :
    CallA Tryd.prog 117 [.bsh 1000 0 ps.length 2, aI a, .bsl 1001 0 1 1] [(1000, ⟨127, .r (ps.map Pg.c).flatten 0⟩), (1001, ⟨127, .r [Pg.c y].flatten 0⟩)] [(1002, ⟨127, .r ((insAt ps i y).map Pg.c).flatten 0⟩), (1000, ⟨127, .l []⟩), (1001, ⟨127, .l []⟩)] [] (.bsh 1002 0 (insAt ps i y).length 2) := by
  have := insertP_any (ps.map Pg.c) (Pg.c y) i (lenP2 ps) rfl (map_ne hne) (by rw [List.length_map]; exact hi) (by rw [List.length_map, maxL]; omega) (by rw [List.length_map]; exact hl)
  rw [List.length_map, ← insAt_len hi (a := y)] at this
  rw [insAt_map, ha]; exact this
set_option maxRecDepth 100000 in
set_option maxHeartbeats 4000000 in
theorem page_any (p : Pg) (hk : p.ks ≠ []) (hv : p.vs ≠ []) (h1 : p.ks.length ≤ 1000) (h2 : p.vs.length ≤ 1000) :
    CallA Tryd.prog 108 [.agg [.iv (.sl (p.ks.map Str.c)), .iv (.sl (p.vs.map Str.c))]] [] [(1000, ⟨9, .r (p.ks.map Str.c).flatten 0⟩), (1001, ⟨9, .r (p.vs.map Str.c).flatten 0⟩)] [] (.agg [.bsh 1000 0 p.ks.length 1, .bsh 1001 0 p.vs.length 1]) := by
  have h : CallA Tryd.prog 108 [.agg [.iv (.sl (p.ks.map Str.c)), .iv (.sl (p.vs.map Str.c))]] [] [(5, ⟨9, .r (p.ks.map Str.c).flatten 0⟩), (8, ⟨9, .r (p.vs.map Str.c).flatten 0⟩)] [] (.agg [.bsh 5 0 p.ks.length 1, .bsh 8 0 p.vs.length 1]) := by
    refine CallA.intro _ Tryd.func108 rfl Tryd.ntmps108 rfl (fun w0 E0 => ?_)
    (repeat' (first | (refine LW.is ?_; first | (refine s_nil ?_) | (apply s_box; exact rfl; exact rfl; exact rfl; (focus repeat' (first | exact nl_nil rfl | (apply nl_cons; exact rfl) | exact nIm rfl | exact nSl rfl | exact nIv rfl | exact nRow rfl | exact nNil rfl | exact nPtr rfl | exact nBsh rfl | exact nBsl rfl | exact nAny rfl | exact nIIm rfl | exact nISl rfl | exact rfl)); exact rfl; exact rfl) | (apply s_alloc; exact rfl; exact rfl; (focus repeat' (first | exact nl_nil rfl | (apply nl_cons; exact rfl) | exact nIm rfl | exact nSl rfl | exact nIv rfl | exact nRow rfl | exact nNil rfl | exact nPtr rfl | exact nBsh rfl | exact nBsl rfl | exact nAny rfl | exact nIIm rfl | exact nISl rfl | exact rfl)); exact rfl; exact rfl)) | (refine DR.is ?_; first | ((apply d_call01; exact rfl; exact cloneS_str p.ks hk h1; exact rfl; exact rfl; exact rfl)) | ((apply d_call01; exact rfl; exact cloneS_str p.vs hv h2; exact rfl; exact rfl; exact rfl)) | (apply d_nil; kernel_rfl) | (apply d_fieldP; exact rfl; exact rfl; exact rfl) | (apply d_load1P; exact rfl; exact rfl; exact rfl; (apply n_some; exact rfl; (first | exact nIm rfl | exact nSl rfl | exact nIv rfl | exact nRow rfl | exact nNil rfl | exact nPtr rfl | exact nBsh rfl | exact nBsl rfl | exact nAny rfl | exact rfl))) | (apply d_build; exact rfl; exact rfl; (apply n_some; exact rfl; (focus repeat' (first | exact nl_nil rfl | (apply nl_cons; exact rfl) | exact nIm rfl | exact nSl rfl | exact nIv rfl | exact nRow rfl | exact nNil rfl | exact nPtr rfl | exact nBsh rfl | exact nBsl rfl | exact nAny rfl | exact nIIm rfl | exact nISl rfl | exact rfl)))) | (apply d_store; exact rfl; exact rfl; exact rfl; exact rfl; exact rfl; exact rfl; (focus repeat' (first | exact nl_nil rfl | (apply nl_cons; exact rfl) | exact nIm rfl | exact nSl rfl | exact nIv rfl | exact nRow rfl | exact nNil rfl | exact nPtr rfl | exact nBsh rfl | exact nBsl rfl | exact nAny rfl | exact nIIm rfl | exact nISl rfl | exact rfl)))) | (refine c_seq ?_) | (refine s_region ?_) | (refine d_region ?_) | (refine L.thenN ?_) | (refine L.ret ?_)))
    all_goals (apply L.ends; exact rfl; exact rfl; exact Sub.refl _; exact Wk.mk' (by intro id h; simp [keys] at h) .nil (.cons rfl rfl (Subs.refl _) (.cons rfl rfl (Subs.refl _) .nil)) .nil)
  exact h.sws [(5, 1000), (8, 1001)] rfl rfl rfl rfl rfl
end Go.Proofs.YthkobnpogigkiaaDoor
/- Trees: what Put computes. Conditions: how much there is of what comes in. -/
namespace Go.Proofs.YthkobnpogigkiaaDoor
open Go.Abs
attribute [local irreducible] L Code.wp bodyPost Exit.then Exit.inBlock
set_option linter.unusedVariables false
set_option linter.unusedSimpArgs false
def putM (ps : List Pg) (key val : Str) : List Pg :=
  if goodTree ps then
    match ps[pgOf ps key]? with
    | none => [⟨[key], [val]⟩]
    | some x =>
      if foundM x.ks key then ps.set (pgOf ps key) ⟨x.ks, x.vs.set (lbM x.ks key) val⟩
      else if 4 < x.ks.length + 1 then
        (insAt ps (pgOf ps key + 1) ⟨(insAt x.ks (lbM x.ks key) key).drop ((x.ks.length + 1) / 2), (insAt x.vs (lbM x.ks key) val).drop ((x.ks.length + 1) / 2)⟩).set (pgOf ps key)
          ⟨(insAt x.ks (lbM x.ks key) key).take ((x.ks.length + 1) / 2), (insAt x.vs (lbM x.ks key) val).take ((x.ks.length + 1) / 2)⟩
      else ps.set (pgOf ps key) ⟨insAt x.ks (lbM x.ks key) key, insAt x.vs (lbM x.ks key) val⟩
  else ps
theorem pgOf_lt {ps : List Pg} {key : Str} (h : ps ≠ []) : pgOf ps key < ps.length := by
  have := pre_le (fstLe key) ps
  have hp : 0 < ps.length := List.length_pos_iff.2 h
  unfold pgOf; omega
set_option maxRecDepth 100000 in
set_option maxHeartbeats 8000000 in
theorem put_any (ps : List Pg) (key val : Str) (hl : (ps.length + 1) * 48 ≤ 140737488355328) :
    CallA Tryd.prog 83 [.agg [.iv (.sl (ps.map Pg.c))], aS key, aS val] [] [] [] (.agg [.iv (.sl ((putM ps key val).map Pg.c))]) := by
  have kg := goodtree_any ps (by omega)
  refine CallA.intro _ Tryd.func83 rfl Tryd.ntmps83 rfl (fun w0 E0 => ?_)
  cases hg : goodTree ps with
  | false =>
    rw [hg] at kg
    have e : putM ps key val = ps := by simp [putM, hg]
    rw [e]
    (repeat' (first | (refine LW.is ?_; first | ((apply s_call0; exact rfl; exact kg; exact rfl; exact rfl)) | (refine s_nil ?_) | (apply s_loadAP; exact rfl; exact rfl; exact rfl; (focus repeat' (first | exact nl_nil rfl | (apply nl_cons; exact rfl) | exact nIm rfl | exact nSl rfl | exact nIv rfl | exact nRow rfl | exact nNil rfl | exact nPtr rfl | exact nBsh rfl | exact nBsl rfl | exact nAny rfl | exact nIIm rfl | exact nISl rfl | exact rfl)); exact rfl) | (apply s_not; exact rfl; exact rfl) | (apply s_box; exact rfl; exact rfl; exact rfl; (focus repeat' (first | exact nl_nil rfl | (apply nl_cons; exact rfl) | exact nIm rfl | exact nSl rfl | exact nIv rfl | exact nRow rfl | exact nNil rfl | exact nPtr rfl | exact nBsh rfl | exact nBsl rfl | exact nAny rfl | exact nIIm rfl | exact nISl rfl | exact rfl)); exact rfl; exact rfl) | (apply s_alloc; exact rfl; exact rfl; (focus repeat' (first | exact nl_nil rfl | (apply nl_cons; exact rfl) | exact nIm rfl | exact nSl rfl | exact nIv rfl | exact nRow rfl | exact nNil rfl | exact nPtr rfl | exact nBsh rfl | exact nBsl rfl | exact nAny rfl | exact nIIm rfl | exact nISl rfl | exact rfl)); exact rfl; exact rfl) | (apply s_store; exact rfl; exact rfl; exact rfl; exact rfl; exact rfl; exact rfl; (focus repeat' (first | exact nl_nil rfl | (apply nl_cons; exact rfl) | exact nIm rfl | exact nSl rfl | exact nIv rfl | exact nRow rfl | exact nNil rfl | exact nPtr rfl | exact nBsh rfl | exact nBsl rfl | exact nAny rfl | exact nIIm rfl | exact nISl rfl | exact rfl)))) | (refine c_seq ?_) | (refine s_region ?_) | (refine L.thenN ?_) | (refine L.thenR ?_) | (refine L.ret ?_) | (apply c_condT; exact rfl; (first | exact rfl | assumption))))
    all_goals (first | (apply L.ends1; exact rfl; exact rfl; exact rfl) | (apply L.ends2; exact rfl; exact rfl; exact rfl) | (apply L.ends3; exact rfl; exact rfl; exact rfl) | (apply L.ends1A; exact rfl; exact rfl; exact rfl) | (apply L.ends2A; exact rfl; exact rfl; exact rfl))
    all_goals rfl
  | true =>
    rw [hg] at kg
    have hs := sorted_of_good key hg
    have kp := place_any ps key (by omega) hs
    by_cases hne : ps = []
    · subst hne
      have e : putM [] key val = [⟨[key], [val]⟩] := by simp [putM, goodTree, goodT]
      have em : placeM [] key = (0, 0, false) := rfl
      rw [e]
      rw [em] at kp; dsimp only at kp
      (repeat' (first | (refine LW.is ?_; first | ((apply s_call0; exact rfl; exact kg; exact rfl; exact rfl)) | ((apply s_call0; exact rfl; exact kp; exact rfl; exact rfl)) | ((apply s_call0; exact rfl; exact cloneP_nil; exact rfl; exact rfl)) | (refine s_nil ?_) | (apply s_mvIv; exact rfl; exact rfl) | (apply s_mvTup; exact rfl; exact rfl) | (apply s_asIv; exact rfl; exact rfl) | (apply s_fieldP; exact rfl; exact rfl; exact rfl) | (apply s_load1P; exact rfl; exact rfl; exact rfl; (apply n_some; exact rfl; (first | exact nIm rfl | exact nSl rfl | exact nIv rfl | exact nRow rfl | exact nNil rfl | exact nPtr rfl | exact nBsh rfl | exact nBsl rfl | exact nAny rfl | exact rfl))) | (apply s_loadAP; exact rfl; exact rfl; exact rfl; (focus repeat' (first | exact nl_nil rfl | (apply nl_cons; exact rfl) | exact nIm rfl | exact nSl rfl | exact nIv rfl | exact nRow rfl | exact nNil rfl | exact nPtr rfl | exact nBsh rfl | exact nBsl rfl | exact nAny rfl | exact nIIm rfl | exact nISl rfl | exact rfl)); exact rfl) | (apply s_lenSl; exact rfl; exact rfl) | (apply s_eqlI; exact rfl; exact rfl; exact rfl) | (apply s_not; exact rfl; exact rfl) | (apply s_extract; exact rfl; exact rfl; (apply n_some; exact rfl; (first | exact nIm rfl | exact nSl rfl | exact nIv rfl | exact nRow rfl | exact nNil rfl | exact nPtr rfl | exact nBsh rfl | exact nBsl rfl | exact nAny rfl | exact rfl))) | (apply s_box; exact rfl; exact rfl; exact rfl; (focus repeat' (first | exact nl_nil rfl | (apply nl_cons; exact rfl) | exact nIm rfl | exact nSl rfl | exact nIv rfl | exact nRow rfl | exact nNil rfl | exact nPtr rfl | exact nBsh rfl | exact nBsl rfl | exact nAny rfl | exact nIIm rfl | exact nISl rfl | exact rfl)); exact rfl; exact rfl) | (apply s_alloc; exact rfl; exact rfl; (focus repeat' (first | exact nl_nil rfl | (apply nl_cons; exact rfl) | exact nIm rfl | exact nSl rfl | exact nIv rfl | exact nRow rfl | exact nNil rfl | exact nPtr rfl | exact nBsh rfl | exact nBsl rfl | exact nAny rfl | exact nIIm rfl | exact nISl rfl | exact rfl)); exact rfl; exact rfl) | (apply s_build; exact rfl; exact rfl; (apply n_some; exact rfl; (focus repeat' (first | exact nl_nil rfl | (apply nl_cons; exact rfl) | exact nIm rfl | exact nSl rfl | exact nIv rfl | exact nRow rfl | exact nNil rfl | exact nPtr rfl | exact nBsh rfl | exact nBsl rfl | exact nAny rfl | exact nIIm rfl | exact nISl rfl | exact rfl)))) | (apply s_bslice; exact rfl; exact rfl; exact rfl; exact rfl; exact rfl; (apply n_some; exact rfl; (focus repeat' (first | exact nl_nil rfl | (apply nl_cons; exact rfl) | exact nIm rfl | exact nSl rfl | exact nIv rfl | exact nRow rfl | exact nNil rfl | exact nPtr rfl | exact nBsh rfl | exact nBsl rfl | exact nAny rfl | exact nIIm rfl | exact nISl rfl | exact rfl))); (apply n_some; exact rfl; (focus repeat' (first | exact nl_nil rfl | (apply nl_cons; exact rfl) | exact nIm rfl | exact nSl rfl | exact nIv rfl | exact nRow rfl | exact nNil rfl | exact nPtr rfl | exact nBsh rfl | exact nBsl rfl | exact nAny rfl | exact nIIm rfl | exact nISl rfl | exact rfl))); exact rfl; (focus repeat' (first | exact nl_nil rfl | (apply nl_cons; exact rfl) | exact nIm rfl | exact nSl rfl | exact nIv rfl | exact nRow rfl | exact nNil rfl | exact nPtr rfl | exact nBsh rfl | exact nBsl rfl | exact nAny rfl | exact nIIm rfl | exact nISl rfl | exact rfl)); exact rfl) | (apply s_store; exact rfl; exact rfl; exact rfl; exact rfl; exact rfl; exact rfl; (focus repeat' (first | exact nl_nil rfl | (apply nl_cons; exact rfl) | exact nIm rfl | exact nSl rfl | exact nIv rfl | exact nRow rfl | exact nNil rfl | exact nPtr rfl | exact nBsh rfl | exact nBsl rfl | exact nAny rfl | exact nIIm rfl | exact nISl rfl | exact rfl)))) | (refine c_seq ?_) | (refine s_region ?_) | (refine L.thenN ?_) | (refine L.thenR ?_) | (refine L.ret ?_) | (refine L.skip ?_) | (apply c_condT; exact rfl; (first | exact rfl | assumption)) | (apply c_condF; exact rfl; (first | exact rfl | assumption))))
      all_goals (first | (apply L.ends1; exact rfl; exact rfl; exact rfl) | (apply L.ends2; exact rfl; exact rfl; exact rfl) | (apply L.ends3; exact rfl; exact rfl; exact rfl) | (apply L.ends1A; exact rfl; exact rfl; exact rfl) | (apply L.ends2A; exact rfl; exact rfl; exact rfl))
      all_goals rfl
    · have hp := pgOf_lt (key := key) hne
      obtain ⟨x, hx⟩ : ∃ x, ps[pgOf ps key]? = some x := ⟨_, List.getElem?_eq_getElem hp⟩
      have em : placeM ps key = (pgOf ps key, lbM x.ks key, foundM x.ks key) := by rw [placeM, hx]
      rw [em] at kp; dsimp only at kp
      have hmem := List.mem_of_getElem? hx
      have hvl := hs.vs x hmem
      have hk4 := hs.len x hmem
      have hkn := hs.ne x hmem
      have hkp : 0 < x.ks.length := List.length_pos_iff.2 hkn
      have hvn : x.vs ≠ [] := fun h => by rw [h] at hvl; simp at hvl; omega
      have h1 : x.ks.length ≤ 1000 := by omega
      have h2 : x.vs.length ≤ 1000 := by omega
      have hl0 : ps.length * 48 ≤ 140737488355328 := by omega
      have hz : (((ps.length : Nat) : Int) == 0) = false := by simp; omega
      have hlb : lbM x.ks key ≤ x.ks.length := pre_le _ _
      have hvl2 := hvl
      have gx : (ps.map Pg.c)[pgOf ps key]? = some (Pg.c x) := by rw [List.getElem?_map, hx]; rfl
      cases hf : foundM x.ks key with
      | true =>
        rw [hf] at kp
        have hlt : lbM x.ks key < x.vs.length := by
          rw [hvl]
          unfold foundM at hf
          have : x.ks[lbM x.ks key]? = some key := by simpa using hf
          exact (List.getElem?_eq_some_iff.1 this).1
        have e : putM ps key val = ps.set (pgOf ps key) ⟨x.ks, x.vs.set (lbM x.ks key) val⟩ := by simp [putM, hg, hx, hf]
        rw [e]
        generalize lbM x.ks key = k at *
        generalize pgOf ps key = p at *
        have hset : x.vs.set k val ≠ [] := fun h => hvn (by simpa using h)
        have hset2 : ps.set p ⟨x.ks, x.vs.set k val⟩ ≠ [] := fun h => hne (by simpa using h)
        (repeat' (first | ((apply L.pubB 45 10 (es := x.ks.map Str.c); exact rfl; exact rfl; exact lenS1 _; decide; exact map_ne (by assumption); exact List.length_map _; exact rfl; exact List.cons_ne_nil _ _; exact rfl; exact .cons .here (.cons .same .nil))) | ((apply L.pubB 2045 10 (es := (x.vs.set k val).map Str.c) (n := x.vs.length); exact rfl; exact rfl; exact lenS1 _; decide; exact map_ne (by assumption); simp; exact rfl; exact List.cons_ne_nil _ _; exact rfl; exact .cons .same (.cons .here .nil))) | ((apply L.pubB 26 3 (es := (ps.set p ⟨x.ks, x.vs.set k val⟩).map Pg.c) (n := ps.length); exact rfl; exact rfl; exact lenP2 _; decide; exact map_ne (by assumption); simp; exact rfl; exact List.cons_ne_nil _ _; exact rfl; exact .cons .here .nil)) | (refine LW.is ?_; first | ((apply s_call0; exact rfl; exact kg; exact rfl; exact rfl)) | ((apply s_call0; exact rfl; exact kp; exact rfl; exact rfl)) | ((apply s_call01; exact rfl; exact cloneP_pg ps hne hl0; exact rfl; exact rfl; exact rfl)) | ((apply s_loadAR (i := p) (e := Pg.c x); exact rfl; exact rfl; exact rfl; exact lenP2 ps; omega; exact gx; exact rfl)) | ((apply s_call02; exact rfl; exact page_any x hkn hvn h1 h2; exact rfl; exact rfl; exact rfl; exact rfl)) | ((apply s_indexBsh; exact rfl; exact rfl; exact rfl; omega; omega; exact rfl)) | ((apply s_storeR (i := k) (e := [S val]) (er := (x.vs.set k val).map Str.c); exact rfl; exact rfl; exact rfl; exact rfl; exact rfl; exact rfl; exact lenS1 _; omega; (rw [List.length_map]; omega); exact (List.map_set ..).symm)) | ((apply s_storeR (i := p) (e := Pg.c ⟨x.ks, x.vs.set k val⟩) (er := (ps.set p ⟨x.ks, x.vs.set k val⟩).map Pg.c); exact rfl; exact rfl; exact rfl; exact rfl; exact rfl; exact rfl; exact lenP2 _; omega; (rw [List.length_map]; omega); exact (List.map_set ..).symm)) | (refine s_nil ?_) | (apply s_mvIv; exact rfl; exact rfl) | (apply s_mvTup; exact rfl; exact rfl) | (apply s_asIv; exact rfl; exact rfl) | (apply s_fieldP; exact rfl; exact rfl; exact rfl) | (apply s_load1P; exact rfl; exact rfl; exact rfl; (apply n_some; exact rfl; (first | exact nIm rfl | exact nSl rfl | exact nIv rfl | exact nRow rfl | exact nNil rfl | exact nPtr rfl | exact nBsh rfl | exact nBsl rfl | exact nAny rfl | exact rfl))) | (apply s_loadAP; exact rfl; exact rfl; exact rfl; (focus repeat' (first | exact nl_nil rfl | (apply nl_cons; exact rfl) | exact nIm rfl | exact nSl rfl | exact nIv rfl | exact nRow rfl | exact nNil rfl | exact nPtr rfl | exact nBsh rfl | exact nBsl rfl | exact nAny rfl | exact nIIm rfl | exact nISl rfl | exact rfl)); exact rfl) | (apply s_eqlI; exact rfl; exact rfl; exact rfl) | (apply s_not; exact rfl; exact rfl) | (apply s_extract; exact rfl; exact rfl; (apply n_some; exact rfl; (first | exact nIm rfl | exact nSl rfl | exact nIv rfl | exact nRow rfl | exact nNil rfl | exact nPtr rfl | exact nBsh rfl | exact nBsl rfl | exact nAny rfl | exact rfl))) | (apply s_box; exact rfl; exact rfl; exact rfl; (focus repeat' (first | exact nl_nil rfl | (apply nl_cons; exact rfl) | exact nIm rfl | exact nSl rfl | exact nIv rfl | exact nRow rfl | exact nNil rfl | exact nPtr rfl | exact nBsh rfl | exact nBsl rfl | exact nAny rfl | exact nIIm rfl | exact nISl rfl | exact rfl)); exact rfl; exact rfl) | (apply s_alloc; exact rfl; exact rfl; (focus repeat' (first | exact nl_nil rfl | (apply nl_cons; exact rfl) | exact nIm rfl | exact nSl rfl | exact nIv rfl | exact nRow rfl | exact nNil rfl | exact nPtr rfl | exact nBsh rfl | exact nBsl rfl | exact nAny rfl | exact nIIm rfl | exact nISl rfl | exact rfl)); exact rfl; exact rfl) | (apply s_store; exact rfl; exact rfl; exact rfl; exact rfl; exact rfl; exact rfl; (focus repeat' (first | exact nl_nil rfl | (apply nl_cons; exact rfl) | exact nIm rfl | exact nSl rfl | exact nIv rfl | exact nRow rfl | exact nNil rfl | exact nPtr rfl | exact nBsh rfl | exact nBsl rfl | exact nAny rfl | exact nIIm rfl | exact nISl rfl | exact rfl))) | (apply s_lenBsh; exact rfl; exact rfl)) | (refine c_seq ?_) | (refine s_region ?_) | (refine L.thenN ?_) | (refine L.thenR ?_) | (refine L.ret ?_) | (refine L.skip ?_) | (apply c_condT; exact rfl; (first | exact rfl | assumption)) | (apply c_condF; exact rfl; (first | exact rfl | assumption))))
        all_goals (first | (apply L.ends1; exact rfl; exact rfl; exact rfl) | (apply L.ends2; exact rfl; exact rfl; exact rfl) | (apply L.ends3; exact rfl; exact rfl; exact rfl) | (apply L.ends1A; exact rfl; exact rfl; exact rfl) | (apply L.ends2A; exact rfl; exact rfl; exact rfl))
        all_goals rfl
      | false =>
        rw [hf] at kp
        have hkl : lbM x.ks key ≤ x.ks.length := hlb
        have hvl : lbM x.ks key ≤ x.vs.length := by omega
        have hKl : (insAt x.ks (lbM x.ks key) key).length = x.ks.length + 1 := insAt_len hkl
        have hVl : (insAt x.vs (lbM x.ks key) val).length = x.ks.length + 1 := by rw [insAt_len hvl, hvl2]
        by_cases hbig : 4 < x.ks.length + 1
        · have e : putM ps key val = (insAt ps (pgOf ps key + 1) ⟨(insAt x.ks (lbM x.ks key) key).drop ((x.ks.length + 1) / 2), (insAt x.vs (lbM x.ks key) val).drop ((x.ks.length + 1) / 2)⟩).set (pgOf ps key)
              ⟨(insAt x.ks (lbM x.ks key) key).take ((x.ks.length + 1) / 2), (insAt x.vs (lbM x.ks key) val).take ((x.ks.length + 1) / 2)⟩ := by simp [putM, hg, hx, hf, hbig]
          rw [e]
          generalize hK : insAt x.ks (lbM x.ks key) key = K at hKl ⊢
          generalize hV : insAt x.vs (lbM x.ks key) val = V at hVl ⊢
          have hdec : decide ((4 : Int) < (((K.map Str.c).length : Nat) : Int)) = true := by rw [List.length_map, hKl]; simp; omega
          generalize hh : (x.ks.length + 1) / 2 = h
          have hq : ((((K.map Str.c).length : Nat) : Int)).tdiv 2 = (h : Int) := by rw [List.length_map, hKl, Int.tdiv_eq_ediv_of_nonneg (by omega)]; omega
          have hKm : (K.map Str.c).length = x.ks.length + 1 := by rw [List.length_map, hKl]
          have q0 : 0 ≤ ((((K.map Str.c).length : Nat) : Int)).tdiv 2 := by rw [hq]; omega
          have q1 : ((((K.map Str.c).length : Nat) : Int)).tdiv 2 ≤ (((K.map Str.c).length : Nat) : Int) := by rw [hq, List.length_map, hKl]; omega
          have q2 : ((((K.map Str.c).length : Nat) : Int)).tdiv 2 ≤ (((V.map Str.c).length : Nat) : Int) := by rw [hq, List.length_map, hVl]; omega
          have qd1 : (K.map Str.c).drop (((((K.map Str.c).length : Nat) : Int)).tdiv 2).toNat = (K.drop h).map Str.c := by rw [hq, Int.toNat_natCast, List.map_drop]
          have qd2 : (V.map Str.c).drop (((((K.map Str.c).length : Nat) : Int)).tdiv 2).toNat = (V.drop h).map Str.c := by rw [hq, Int.toNat_natCast, List.map_drop]
          have qt1 : (K.map Str.c).take (((((K.map Str.c).length : Nat) : Int)).tdiv 2).toNat = (K.take h).map Str.c := by rw [hq, Int.toNat_natCast, List.map_take]
          have qt2 : (V.map Str.c).take (((((K.map Str.c).length : Nat) : Int)).tdiv 2).toNat = (V.take h).map Str.c := by rw [hq, Int.toNat_natCast, List.map_take]
          have n0 : K ≠ [] := fun h => by rw [h] at hKl; simp at hKl
          have n00 : V ≠ [] := fun h => by rw [h] at hVl; simp at hVl
          have n1 : K.drop h ≠ [] := fun e => by have := congrArg List.length e; rw [List.length_drop] at this; simp only [List.length_nil] at this; omega
          have n2 : V.drop h ≠ [] := fun e => by have := congrArg List.length e; rw [List.length_drop] at this; simp only [List.length_nil] at this; omega
          have n3 : K.take h ≠ [] := fun e => by have := congrArg List.length e; rw [List.length_take] at this; simp only [List.length_nil] at this; omega
          have n4 : V.take h ≠ [] := fun e => by have := congrArg List.length e; rw [List.length_take] at this; simp only [List.length_nil] at this; omega
          generalize hY : (⟨K.drop h, V.drop h⟩ : Pg) = Y
          generalize hX : (⟨K.take h, V.take h⟩ : Pg) = X
          have hil : (insAt ps (pgOf ps key + 1) Y).length = ps.length + 1 := insAt_len hp
          have hne2 : (insAt ps (pgOf ps key + 1) Y).set (pgOf ps key) X ≠ [] := fun h => by have := congrArg List.length h; simp [hil] at this
          subst hK; subst hV
          generalize lbM x.ks key = k at *
          generalize pgOf ps key = p at *
          subst hY; subst hX
          (repeat' (first | ((apply L.pubB 82 12 (es := ((insAt x.ks k key).drop h).map Str.c); exact rfl; exact rfl; exact lenS1 _; decide; exact map_ne (by assumption); exact List.length_map _; exact rfl; exact List.cons_ne_nil _ _; exact rfl; exact .cons .here (.cons .same .nil))) | ((apply L.pubB 88 12 (es := ((insAt x.vs k val).drop h).map Str.c); exact rfl; exact rfl; exact lenS1 _; decide; exact map_ne (by assumption); exact List.length_map _; exact rfl; exact List.cons_ne_nil _ _; exact rfl; exact .cons .same (.cons .here .nil))) | ((apply L.pubB 95 10 (es := ((insAt x.ks k key).take h).map Str.c); exact rfl; exact rfl; exact lenS1 _; decide; exact map_ne (by assumption); exact List.length_map _; exact rfl; exact List.cons_ne_nil _ _; exact rfl; exact .cons .here (.cons .same .nil))) | ((apply L.pubB 101 10 (es := ((insAt x.vs k val).take h).map Str.c); exact rfl; exact rfl; exact lenS1 _; decide; exact map_ne (by assumption); exact List.length_map _; exact rfl; exact List.cons_ne_nil _ _; exact rfl; exact .cons .same (.cons .here .nil))) | ((apply L.pubB 110 3 (es := ((insAt ps (p + 1) ⟨(insAt x.ks k key).drop h, (insAt x.vs k val).drop h⟩).set p ⟨(insAt x.ks k key).take h, (insAt x.vs k val).take h⟩).map Pg.c) (n := (insAt ps (p + 1) ⟨(insAt x.ks k key).drop h, (insAt x.vs k val).drop h⟩).length); exact rfl; exact rfl; exact lenP2 _; decide; exact map_ne (by assumption); simp; exact rfl; exact List.cons_ne_nil _ _; exact rfl; exact .cons .here .nil)) | ((apply L.pubB 63 10 (es := (insAt x.ks k key).map Str.c); exact rfl; exact rfl; exact lenS1 _; decide; exact map_ne (by assumption); exact List.length_map _; exact rfl; exact List.cons_ne_nil _ _; exact rfl; exact .cons .here (.cons .same .nil))) | ((apply L.pubB 69 10 (es := (insAt x.vs k val).map Str.c); exact rfl; exact rfl; exact lenS1 _; decide; exact map_ne (by assumption); exact List.length_map _; exact rfl; exact List.cons_ne_nil _ _; exact rfl; exact .cons .same (.cons .here .nil))) | (refine LW.is ?_; first | ((apply s_call0; exact rfl; exact kg; exact rfl; exact rfl)) | ((apply s_call0; exact rfl; exact kp; exact rfl; exact rfl)) | ((apply s_call01; exact rfl; exact cloneP_pg ps hne hl0; exact rfl; exact rfl; exact rfl)) | ((apply s_loadAR (i := p) (e := Pg.c x); exact rfl; exact rfl; exact rfl; exact lenP2 ps; omega; exact gx; exact rfl)) | ((apply s_call02; exact rfl; exact page_any x hkn hvn h1 h2; exact rfl; exact rfl; exact rfl; exact rfl)) | ((apply s_indexBsh; exact rfl; exact rfl; exact rfl; omega; omega; exact rfl)) | ((apply s_buildR (es := [Pg.c ⟨(insAt x.ks k key).drop h, (insAt x.vs k val).drop h⟩]); exact rfl; exact rfl; exact rfl; exact rfl; exact rfl; exact rfl; exact rfl; exact rfl; exact rfl)) | ((apply s_call21; exact rfl; exact insertP_pg ps ⟨(insAt x.ks k key).drop h, (insAt x.vs k val).drop h⟩ (p + 1) ((p : Int) + 1) (by omega) hne (by omega) hl; exact rfl; exact rfl; exact rfl; exact flat_ne (lenP2 _) (by decide) (map_ne hne); exact List.cons_ne_nil _ _; exact rfl; exact rfl; exact rfl)) | ((apply s_storeR (i := p) (e := Pg.c ⟨(insAt x.ks k key).take h, (insAt x.vs k val).take h⟩) (er := ((insAt ps (p + 1) ⟨(insAt x.ks k key).drop h, (insAt x.vs k val).drop h⟩).set p ⟨(insAt x.ks k key).take h, (insAt x.vs k val).take h⟩).map Pg.c); exact rfl; exact rfl; exact rfl; exact rfl; exact rfl; exact rfl; exact lenP2 _; omega; (rw [List.length_map]; omega); exact (List.map_set ..).symm)) | (refine s_nil ?_) | (apply s_mvIv; exact rfl; exact rfl) | (apply s_mvTup; exact rfl; exact rfl) | (apply s_asIv; exact rfl; exact rfl) | (apply s_fieldP; exact rfl; exact rfl; exact rfl) | (apply s_load1P; exact rfl; exact rfl; exact rfl; (apply n_some; exact rfl; (first | exact nIm rfl | exact nSl rfl | exact nIv rfl | exact nRow rfl | exact nNil rfl | exact nPtr rfl | exact nBsh rfl | exact nBsl rfl | exact nAny rfl | exact rfl))) | (apply s_loadAP; exact rfl; exact rfl; exact rfl; (focus repeat' (first | exact nl_nil rfl | (apply nl_cons; exact rfl) | exact nIm rfl | exact nSl rfl | exact nIv rfl | exact nRow rfl | exact nNil rfl | exact nPtr rfl | exact nBsh rfl | exact nBsl rfl | exact nAny rfl | exact nIIm rfl | exact nISl rfl | exact rfl)); exact rfl) | (apply s_lenSl; exact rfl; exact rfl) | (apply s_eqlI; exact rfl; exact rfl; exact rfl) | (apply s_gtrI; exact rfl; exact rfl; exact rfl) | (apply s_not; exact rfl; exact rfl) | (apply s_extract; exact rfl; exact rfl; (apply n_some; exact rfl; (first | exact nIm rfl | exact nSl rfl | exact nIv rfl | exact nRow rfl | exact nNil rfl | exact nPtr rfl | exact nBsh rfl | exact nBsl rfl | exact nAny rfl | exact rfl))) | (apply s_box; exact rfl; exact rfl; exact rfl; (focus repeat' (first | exact nl_nil rfl | (apply nl_cons; exact rfl) | exact nIm rfl | exact nSl rfl | exact nIv rfl | exact nRow rfl | exact nNil rfl | exact nPtr rfl | exact nBsh rfl | exact nBsl rfl | exact nAny rfl | exact nIIm rfl | exact nISl rfl | exact rfl)); exact rfl; exact rfl) | (apply s_alloc; exact rfl; exact rfl; (focus repeat' (first | exact nl_nil rfl | (apply nl_cons; exact rfl) | exact nIm rfl | exact nSl rfl | exact nIv rfl | exact nRow rfl | exact nNil rfl | exact nPtr rfl | exact nBsh rfl | exact nBsl rfl | exact nAny rfl | exact nIIm rfl | exact nISl rfl | exact rfl)); exact rfl; exact rfl) | (apply s_store; exact rfl; exact rfl; exact rfl; exact rfl; exact rfl; exact rfl; (focus repeat' (first | exact nl_nil rfl | (apply nl_cons; exact rfl) | exact nIm rfl | exact nSl rfl | exact nIv rfl | exact nRow rfl | exact nNil rfl | exact nPtr rfl | exact nBsh rfl | exact nBsl rfl | exact nAny rfl | exact nIIm rfl | exact nISl rfl | exact rfl))) | (apply s_addI; exact rfl; exact rfl; exact rfl; (first | omega | decide | (dsimp only; omega)); (first | omega | decide | (dsimp only; omega))) | (apply s_lenBsh; exact rfl; exact rfl)) | (refine DR.is ?_; first | ((apply d_buildR (es := [[S key]]); exact rfl; exact rfl; exact rfl; exact rfl; exact rfl; exact rfl; exact rfl; exact rfl; exact rfl)) | ((apply d_buildR (es := [[S val]]); exact rfl; exact rfl; exact rfl; exact rfl; exact rfl; exact rfl; exact rfl; exact rfl; exact rfl)) | ((apply d_call21; exact rfl; exact insertS_str x.ks key k _ rfl hkn hkl h1; exact rfl; exact rfl; exact rfl; exact flat_ne (lenS1 _) (by decide) (map_ne hkn); exact List.cons_ne_nil _ _; exact rfl; exact rfl; exact rfl)) | ((apply d_call21; exact rfl; exact insertS_str x.vs val k _ rfl hvn hvl h2; exact rfl; exact rfl; exact rfl; exact flat_ne (lenS1 _) (by decide) (map_ne hvn); exact List.cons_ne_nil _ _; exact rfl; exact rfl; exact rfl)) | ((apply d_sliceVl (es' := ((insAt x.ks k key).drop h).map Str.c); exact rfl; exact rfl; exact rfl; exact lenS1 _; exact q0; exact q1; exact qd1)) | ((apply d_sliceVl (es' := ((insAt x.vs k val).drop h).map Str.c); exact rfl; exact rfl; exact rfl; exact lenS1 _; exact q0; exact q2; exact qd2)) | ((apply d_sliceVh (es' := ((insAt x.ks k key).take h).map Str.c); exact rfl; exact rfl; exact rfl; exact lenS1 _; exact q0; exact q1; exact qt1)) | ((apply d_sliceVh (es' := ((insAt x.vs k val).take h).map Str.c); exact rfl; exact rfl; exact rfl; exact lenS1 _; exact q0; exact q2; exact qt2)) | ((apply d_call01; exact rfl; exact cloneS_str ((insAt x.ks k key).drop h) n1 (by simp; omega); exact rfl; exact rfl; exact rfl)) | ((apply d_call01; exact rfl; exact cloneS_str ((insAt x.vs k val).drop h) n2 (by simp; omega); exact rfl; exact rfl; exact rfl)) | ((apply d_call01; exact rfl; exact cloneS_str ((insAt x.ks k key).take h) n3 (by simp; omega); exact rfl; exact rfl; exact rfl)) | ((apply d_call01; exact rfl; exact cloneS_str ((insAt x.vs k val).take h) n4 (by simp; omega); exact rfl; exact rfl; exact rfl)) | (apply d_nil; kernel_rfl) | (apply d_mvIv; exact rfl; exact rfl) | (apply d_fieldP; exact rfl; exact rfl; exact rfl) | (apply d_load1P; exact rfl; exact rfl; exact rfl; (apply n_some; exact rfl; (first | exact nIm rfl | exact nSl rfl | exact nIv rfl | exact nRow rfl | exact nNil rfl | exact nPtr rfl | exact nBsh rfl | exact nBsl rfl | exact nAny rfl | exact rfl))) | (apply d_alloc; exact rfl; exact rfl; (focus repeat' (first | exact nl_nil rfl | (apply nl_cons; exact rfl) | exact nIm rfl | exact nSl rfl | exact nIv rfl | exact nRow rfl | exact nNil rfl | exact nPtr rfl | exact nBsh rfl | exact nBsl rfl | exact nAny rfl | exact nIIm rfl | exact nISl rfl | exact rfl)); exact rfl; exact rfl) | (apply d_build; exact rfl; exact rfl; (apply n_some; exact rfl; (focus repeat' (first | exact nl_nil rfl | (apply nl_cons; exact rfl) | exact nIm rfl | exact nSl rfl | exact nIv rfl | exact nRow rfl | exact nNil rfl | exact nPtr rfl | exact nBsh rfl | exact nBsl rfl | exact nAny rfl | exact nIIm rfl | exact nISl rfl | exact rfl)))) | (apply d_store; exact rfl; exact rfl; exact rfl; exact rfl; exact rfl; exact rfl; (focus repeat' (first | exact nl_nil rfl | (apply nl_cons; exact rfl) | exact nIm rfl | exact nSl rfl | exact nIv rfl | exact nRow rfl | exact nNil rfl | exact nPtr rfl | exact nBsh rfl | exact nBsl rfl | exact nAny rfl | exact nIIm rfl | exact nISl rfl | exact rfl))) | (apply d_quoI; exact rfl; exact rfl; exact rfl; (first | decide | omega | (dsimp only; omega)); (first | omega | decide | (dsimp only; omega)); (first | omega | decide | (dsimp only; omega)))) | (refine c_seq ?_) | (refine s_region ?_) | (refine d_region ?_) | (refine L.thenN ?_) | (refine L.ret ?_) | (refine L.skip ?_) | (apply c_condT; exact rfl; (first | exact rfl | assumption)) | (apply c_condF; exact rfl; (first | exact rfl | assumption))))
          all_goals (first | (apply L.ends1; exact rfl; exact rfl; exact rfl) | (apply L.ends2; exact rfl; exact rfl; exact rfl) | (apply L.ends3; exact rfl; exact rfl; exact rfl) | (apply L.ends1A; exact rfl; exact rfl; exact rfl) | (apply L.ends2A; exact rfl; exact rfl; exact rfl))
          all_goals rfl
        · have e : putM ps key val = ps.set (pgOf ps key) ⟨insAt x.ks (lbM x.ks key) key, insAt x.vs (lbM x.ks key) val⟩ := by simp [putM, hg, hx, hf, hbig]
          rw [e]
          have hdec : decide ((4 : Int) < ((((insAt x.ks (lbM x.ks key) key).map Str.c).length : Nat) : Int)) = false := by rw [List.length_map, hKl]; simp; omega
          have n0 : insAt x.ks (lbM x.ks key) key ≠ [] := fun h => by rw [h] at hKl; simp at hKl
          have n00 : insAt x.vs (lbM x.ks key) val ≠ [] := fun h => by rw [h] at hVl; simp at hVl
          have hset2 : ps.set (pgOf ps key) ⟨insAt x.ks (lbM x.ks key) key, insAt x.vs (lbM x.ks key) val⟩ ≠ [] := fun h => hne (by simpa using h)
          generalize lbM x.ks key = k at *
          generalize pgOf ps key = p at *
          (repeat' (first | ((apply L.pubB 26 3 (es := (ps.set p ⟨(insAt x.ks k key), (insAt x.vs k val)⟩).map Pg.c) (n := ps.length); exact rfl; exact rfl; exact lenP2 _; decide; exact map_ne (by assumption); simp; exact rfl; exact List.cons_ne_nil _ _; exact rfl; exact .cons .here .nil)) | ((apply L.pubB 63 10 (es := (insAt x.ks k key).map Str.c); exact rfl; exact rfl; exact lenS1 _; decide; exact map_ne (by assumption); exact List.length_map _; exact rfl; exact List.cons_ne_nil _ _; exact rfl; exact .cons .here (.cons .same .nil))) | ((apply L.pubB 69 10 (es := (insAt x.vs k val).map Str.c); exact rfl; exact rfl; exact lenS1 _; decide; exact map_ne (by assumption); exact List.length_map _; exact rfl; exact List.cons_ne_nil _ _; exact rfl; exact .cons .same (.cons .here .nil))) | (refine LW.is ?_; first | ((apply s_call0; exact rfl; exact kg; exact rfl; exact rfl)) | ((apply s_call0; exact rfl; exact kp; exact rfl; exact rfl)) | ((apply s_call01; exact rfl; exact cloneP_pg ps hne hl0; exact rfl; exact rfl; exact rfl)) | ((apply s_loadAR (i := p) (e := Pg.c x); exact rfl; exact rfl; exact rfl; exact lenP2 ps; omega; exact gx; exact rfl)) | ((apply s_call02; exact rfl; exact page_any x hkn hvn h1 h2; exact rfl; exact rfl; exact rfl; exact rfl)) | ((apply s_indexBsh; exact rfl; exact rfl; exact rfl; omega; omega; exact rfl)) | ((apply s_storeR (i := p) (e := Pg.c ⟨(insAt x.ks k key), (insAt x.vs k val)⟩) (er := (ps.set p ⟨(insAt x.ks k key), (insAt x.vs k val)⟩).map Pg.c); exact rfl; exact rfl; exact rfl; exact rfl; exact rfl; exact rfl; exact lenP2 _; omega; (rw [List.length_map]; omega); exact (List.map_set ..).symm)) | (refine s_nil ?_) | (apply s_mvIv; exact rfl; exact rfl) | (apply s_mvTup; exact rfl; exact rfl) | (apply s_asIv; exact rfl; exact rfl) | (apply s_fieldP; exact rfl; exact rfl; exact rfl) | (apply s_load1P; exact rfl; exact rfl; exact rfl; (apply n_some; exact rfl; (first | exact nIm rfl | exact nSl rfl | exact nIv rfl | exact nRow rfl | exact nNil rfl | exact nPtr rfl | exact nBsh rfl | exact nBsl rfl | exact nAny rfl | exact rfl))) | (apply s_loadAP; exact rfl; exact rfl; exact rfl; (focus repeat' (first | exact nl_nil rfl | (apply nl_cons; exact rfl) | exact nIm rfl | exact nSl rfl | exact nIv rfl | exact nRow rfl | exact nNil rfl | exact nPtr rfl | exact nBsh rfl | exact nBsl rfl | exact nAny rfl | exact nIIm rfl | exact nISl rfl | exact rfl)); exact rfl) | (apply s_lenSl; exact rfl; exact rfl) | (apply s_eqlI; exact rfl; exact rfl; exact rfl) | (apply s_gtrI; exact rfl; exact rfl; exact rfl) | (apply s_not; exact rfl; exact rfl) | (apply s_extract; exact rfl; exact rfl; (apply n_some; exact rfl; (first | exact nIm rfl | exact nSl rfl | exact nIv rfl | exact nRow rfl | exact nNil rfl | exact nPtr rfl | exact nBsh rfl | exact nBsl rfl | exact nAny rfl | exact rfl))) | (apply s_box; exact rfl; exact rfl; exact rfl; (focus repeat' (first | exact nl_nil rfl | (apply nl_cons; exact rfl) | exact nIm rfl | exact nSl rfl | exact nIv rfl | exact nRow rfl | exact nNil rfl | exact nPtr rfl | exact nBsh rfl | exact nBsl rfl | exact nAny rfl | exact nIIm rfl | exact nISl rfl | exact rfl)); exact rfl; exact rfl) | (apply s_alloc; exact rfl; exact rfl; (focus repeat' (first | exact nl_nil rfl | (apply nl_cons; exact rfl) | exact nIm rfl | exact nSl rfl | exact nIv rfl | exact nRow rfl | exact nNil rfl | exact nPtr rfl | exact nBsh rfl | exact nBsl rfl | exact nAny rfl | exact nIIm rfl | exact nISl rfl | exact rfl)); exact rfl; exact rfl) | (apply s_store; exact rfl; exact rfl; exact rfl; exact rfl; exact rfl; exact rfl; (focus repeat' (first | exact nl_nil rfl | (apply nl_cons; exact rfl) | exact nIm rfl | exact nSl rfl | exact nIv rfl | exact nRow rfl | exact nNil rfl | exact nPtr rfl | exact nBsh rfl | exact nBsl rfl | exact nAny rfl | exact nIIm rfl | exact nISl rfl | exact rfl))) | (apply s_lenBsh; exact rfl; exact rfl)) | (refine DR.is ?_; first | ((apply d_buildR (es := [[S key]]); exact rfl; exact rfl; exact rfl; exact rfl; exact rfl; exact rfl; exact rfl; exact rfl; exact rfl)) | ((apply d_buildR (es := [[S val]]); exact rfl; exact rfl; exact rfl; exact rfl; exact rfl; exact rfl; exact rfl; exact rfl; exact rfl)) | ((apply d_call21; exact rfl; exact insertS_str x.ks key k _ rfl hkn hkl h1; exact rfl; exact rfl; exact rfl; exact flat_ne (lenS1 _) (by decide) (map_ne hkn); exact List.cons_ne_nil _ _; exact rfl; exact rfl; exact rfl)) | ((apply d_call21; exact rfl; exact insertS_str x.vs val k _ rfl hvn hvl h2; exact rfl; exact rfl; exact rfl; exact flat_ne (lenS1 _) (by decide) (map_ne hvn); exact List.cons_ne_nil _ _; exact rfl; exact rfl; exact rfl)) | (apply d_nil; kernel_rfl) | (apply d_mvIv; exact rfl; exact rfl) | (apply d_fieldP; exact rfl; exact rfl; exact rfl) | (apply d_load1P; exact rfl; exact rfl; exact rfl; (apply n_some; exact rfl; (first | exact nIm rfl | exact nSl rfl | exact nIv rfl | exact nRow rfl | exact nNil rfl | exact nPtr rfl | exact nBsh rfl | exact nBsl rfl | exact nAny rfl | exact rfl))) | (apply d_store; exact rfl; exact rfl; exact rfl; exact rfl; exact rfl; exact rfl; (focus repeat' (first | exact nl_nil rfl | (apply nl_cons; exact rfl) | exact nIm rfl | exact nSl rfl | exact nIv rfl | exact nRow rfl | exact nNil rfl | exact nPtr rfl | exact nBsh rfl | exact nBsl rfl | exact nAny rfl | exact nIIm rfl | exact nISl rfl | exact rfl)))) | (refine c_seq ?_) | (refine s_region ?_) | (refine d_region ?_) | (refine L.thenN ?_) | (refine L.ret ?_) | (refine L.skip ?_) | (apply c_condF; exact rfl; (first | exact rfl | assumption))))
          all_goals (first | (apply L.ends1; exact rfl; exact rfl; exact rfl) | (apply L.ends2; exact rfl; exact rfl; exact rfl) | (apply L.ends3; exact rfl; exact rfl; exact rfl) | (apply L.ends1A; exact rfl; exact rfl; exact rfl) | (apply L.ends2A; exact rfl; exact rfl; exact rfl))
          all_goals rfl
end Go.Proofs.YthkobnpogigkiaaDoor
