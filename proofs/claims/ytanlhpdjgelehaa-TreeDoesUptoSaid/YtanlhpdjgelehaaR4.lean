/- Trees: what place and Get compute. Conditions: the tree is good; how much there is of what comes in. -/
import Derived.Test.YtanlhpdjgelehaaR3
namespace Go.Proofs.Ytanlhpdjgelehaa
open Go.Abs
attribute [local irreducible] L Code.wp bodyPost Exit.then Exit.inBlock
set_option linter.unusedVariables false
set_option linter.unusedSimpArgs false

def fstLe (key : Str) (p : Pg) : Bool := decide (p.ks.headD [] ≤ key)
def pgOf (ps : List Pg) (key : Str) : Nat := pre (fstLe key) ps - 1
def placeM (ps : List Pg) (key : Str) : Nat × Nat × Bool :=
  match ps[pgOf ps key]? with
  | some p => (pgOf ps key, lbM p.ks key, foundM p.ks key)
  | none => (0, 0, false)
/-- what a search needs of a tree -/
structure Sorted (ps : List Pg) (key : Str) : Prop where
  ne : ∀ p ∈ ps, p.ks ≠ []
  len : ∀ p ∈ ps, p.ks.length ≤ 4
  vs : ∀ p ∈ ps, p.vs.length = p.ks.length
  pages : Falls (fstLe key) ps
  keys : ∀ p ∈ ps, Falls (fun s => decide (s < key)) p.ks

theorem half2 (i j : Nat) : ((i : Int) + (j : Int)).tdiv 2 = (((i + j) / 2 : Nat) : Int) := by
  rw [Int.tdiv_eq_ediv_of_nonneg (by omega)]; omega

set_option maxRecDepth 100000 in
set_option maxHeartbeats 4000000 in
theorem place_any (ps : List Pg) (key : Str) (hl : ps.length ≤ 140737488355328) (hs : Sorted ps key) :
    CallA Try.prog 50 [.agg [.iv (.sl (ps.map Pg.c))], aS key] [] [] [] (.tup [.iv (I ((placeM ps key).1 : Int)), .iv (I ((placeM ps key).2.1 : Int)), .iv (B (placeM ps key).2.2)]) := by
  refine CallA.intro _ Try.func50 rfl Try.ntmps50 rfl (fun w0 E0 => ?_)
  have hle := pre_le (fstLe key) ps
  generalize hq : pre (fstLe key) ps = q at hle
  (repeat' (first | (refine LW.is ?_; first | (refine s_nil ?_) | (apply s_asIv; exact rfl; exact rfl) | (apply s_box; exact rfl; exact rfl; exact rfl; (focus repeat' (first | exact nl_nil rfl | (apply nl_cons; exact rfl) | exact nIm rfl | exact nSl rfl | exact nIv rfl | exact nRow rfl | exact nNil rfl | exact nPtr rfl | exact nBsh rfl | exact nBsl rfl | exact nAny rfl | exact nIIm rfl | exact nISl rfl | exact rfl)); exact rfl; exact rfl)) | (refine DR.is ?_; first | (apply d_nil; kernel_rfl) | (apply d_asIv; exact rfl; exact rfl) | (apply d_fieldP; exact rfl; exact rfl; exact rfl) | (apply d_load1P; exact rfl; exact rfl; exact rfl; (apply n_some; exact rfl; (first | exact nIm rfl | exact nSl rfl | exact nIv rfl | exact nRow rfl | exact nNil rfl | exact nPtr rfl | exact nBsh rfl | exact nBsl rfl | exact nAny rfl | exact rfl))) | (apply d_lenSl; exact rfl; exact rfl)) | (refine c_seq ?_) | (refine L.block ?_) | (refine s_region ?_) | (refine d_region ?_) | (refine L.thenN ?_)))
  refine L.loopP (ι := Nat × Nat) (fun i => ⟨[(7, aI ((i.1 - 1 : Nat) : Int)), (8, aI (i.1 : Int)), (9, aI (i.2 : Int)), (2, .ptr 2 0), (1, aS key)], [(2, ⟨45, .l [.iv (.sl (ps.map Pg.c))]⟩)], []⟩) (fun i => i.2 - i.1) (fun i => i.1 ≤ q ∧ q ≤ i.2 ∧ i.2 ≤ ps.length) (i0 := (0, ps.length)) ?_ ⟨Nat.zero_le _, hle, Nat.le_refl _⟩ ?_
  · refine Wk.mk' (by intro id h; cases h) (.cons rfl (Sub.refl _) (.cons rfl (Sub.refl _) (.cons rfl (Sub.of_eq ?_) (.cons rfl (Sub.refl _) (.cons rfl (Sub.refl _) .nil))))) (.cons rfl rfl (Subs.refl _) .nil) .nil
    simp
  rintro ⟨i, j⟩ ⟨h1, h2, h3⟩ K hK
  dsimp only at h1 h2 h3 ⊢
  cases hlt : decide ((i : Int) < (j : Int)) with
  | true =>
    have hij : i < j := by simpa using hlt
    have hh := half2 i j
    have hm : (i + j) / 2 < ps.length := by omega
    obtain ⟨p, hp⟩ : ∃ p, ps[(i + j) / 2]? = some p := ⟨_, List.getElem?_eq_getElem hm⟩
    have hmem := List.mem_of_getElem? hp
    have hne := hs.ne p hmem
    obtain ⟨ks, vs⟩ := p
    cases ks with
    | nil => exact absurd rfl hne
    | cons s ks =>
    have g0 : 0 ≤ ((i : Int) + (j : Int)).tdiv 2 := by rw [hh]; omega
    have g1 : (ps.map Pg.c)[(((i : Int) + (j : Int)).tdiv 2).toNat]? = some [.sl ((s :: ks).map Str.c), .sl (vs.map Str.c)] := by rw [hh, Int.toNat_natCast, List.getElem?_map, hp]; rfl
    have g2 : -9223372036854775808 ≤ ((i : Int) + (j : Int)).tdiv 2 + 1 := by omega
    have g3 : ((i : Int) + (j : Int)).tdiv 2 + 1 ≤ 9223372036854775807 := by rw [hh]; omega
    have hleS : (Op.bytesLess s key || s == key) = decide (s ≤ key) := leS
    cases hp' : decide (s ≤ key) with
    | true =>
      rw [hp'] at hleS
      have hlt' : (i + j) / 2 < q := by
        rw [← hq]
        exact hs.pages.le hp (by simpa [fstLe] using hp')
      (repeat' (first | (refine LW.is ?_; first | ((apply s_indexA; exact rfl; exact rfl; exact rfl; exact g0; exact g1; exact rfl)) | ((apply s_indexA; exact rfl; exact rfl; exact rfl; decide; exact rfl; exact rfl)) | ((apply s_addI; exact rfl; exact rfl; exact rfl; exact g2; exact g3)) | (refine s_nil ?_) | (apply s_mvIv; exact rfl; exact rfl) | (apply s_asIv; exact rfl; exact rfl) | (apply s_fieldP; exact rfl; exact rfl; exact rfl) | (apply s_fieldE; exact rfl; exact rfl; exact rfl) | (apply s_load1P; exact rfl; exact rfl; exact rfl; (apply n_some; exact rfl; (first | exact nIm rfl | exact nSl rfl | exact nIv rfl | exact nRow rfl | exact nNil rfl | exact nPtr rfl | exact nBsh rfl | exact nBsl rfl | exact nAny rfl | exact rfl))) | (apply s_load1E; exact rfl; exact rfl; exact rfl) | (apply s_lssI; exact rfl; exact rfl; exact rfl) | (apply s_leqS; exact rfl; exact rfl; exact rfl) | (apply s_addI; exact rfl; exact rfl; exact rfl; (first | omega | decide | (dsimp only; omega)); (first | omega | decide | (dsimp only; omega))) | (apply s_quoI; exact rfl; exact rfl; exact rfl; (first | decide | omega | (dsimp only; omega)); (first | omega | decide | (dsimp only; omega)); (first | omega | decide | (dsimp only; omega)))) | (refine c_seq ?_) | (refine L.block ?_) | (refine s_region ?_) | (refine L.thenN ?_) | (refine L.inN ?_) | (refine L.skip ?_) | (apply c_condT; exact rfl; (first | exact rfl | assumption))))
      refine hK _ ((i + j) / 2 + 1, j) ⟨by omega, h2, h3⟩ (by dsimp only; omega) (Wk.mk' (by intro id h; cases h) (.cons rfl (Sub.of_eq (congrArg (fun z => aI z) ?_)) (.cons rfl (Sub.of_eq (congrArg (fun z => aI z) ?_)) (.cons rfl (Sub.refl _) (.cons rfl (Sub.refl _) (.cons rfl (Sub.refl _) .nil))))) (.cons rfl rfl (Subs.refl _) .nil) .nil)
      · rw [hh]; simp
      · rw [hh]; rfl
    | false =>
      rw [hp'] at hleS
      have hlt' : q ≤ (i + j) / 2 := by
        rw [← hq]
        exact Falls.ge hp (by simpa [fstLe] using hp')
      (repeat' (first | (refine LW.is ?_; first | ((apply s_indexA; exact rfl; exact rfl; exact rfl; exact g0; exact g1; exact rfl)) | ((apply s_indexA; exact rfl; exact rfl; exact rfl; decide; exact rfl; exact rfl)) | (refine s_nil ?_) | (apply s_mvIv; exact rfl; exact rfl) | (apply s_asIv; exact rfl; exact rfl) | (apply s_fieldP; exact rfl; exact rfl; exact rfl) | (apply s_fieldE; exact rfl; exact rfl; exact rfl) | (apply s_load1P; exact rfl; exact rfl; exact rfl; (apply n_some; exact rfl; (first | exact nIm rfl | exact nSl rfl | exact nIv rfl | exact nRow rfl | exact nNil rfl | exact nPtr rfl | exact nBsh rfl | exact nBsl rfl | exact nAny rfl | exact rfl))) | (apply s_load1E; exact rfl; exact rfl; exact rfl) | (apply s_lssI; exact rfl; exact rfl; exact rfl) | (apply s_leqS; exact rfl; exact rfl; exact rfl) | (apply s_addI; exact rfl; exact rfl; exact rfl; (first | omega | decide | (dsimp only; omega)); (first | omega | decide | (dsimp only; omega))) | (apply s_quoI; exact rfl; exact rfl; exact rfl; (first | decide | omega | (dsimp only; omega)); (first | omega | decide | (dsimp only; omega)); (first | omega | decide | (dsimp only; omega)))) | (refine c_seq ?_) | (refine L.block ?_) | (refine s_region ?_) | (refine L.thenN ?_) | (refine L.inN ?_) | (refine L.skip ?_) | (apply c_condT; exact rfl; (first | exact rfl | assumption)) | (apply c_condF; exact rfl; (first | exact rfl | assumption))))
      refine hK _ (i, (i + j) / 2) ⟨h1, by omega, by dsimp only; omega⟩ (by dsimp only; omega) (Wk.mk' (by intro id h; cases h) (.cons rfl (Sub.refl _) (.cons rfl (Sub.refl _) (.cons rfl (Sub.of_eq (congrArg (fun z => aI z) ?_)) (.cons rfl (Sub.refl _) (.cons rfl (Sub.refl _) .nil))))) (.cons rfl rfl (Subs.refl _) .nil) .nil)
      rw [hh]
  | false =>
    have hij : ¬ i < j := by simpa using hlt
    obtain rfl : i = q := by omega
    have hpg : pgOf ps key = i - 1 := by rw [pgOf, hq]
    cases hp : ps[i - 1]? with
    | none =>
      have hps : ps = [] := by
        cases ps with
        | nil => rfl
        | cons p ps =>
          have := List.getElem?_eq_none_iff.1 hp
          simp at this hle; omega
      subst hps
      (repeat' (first | (refine LW.is ?_; first | (refine s_nil ?_) | (apply s_mvIv; exact rfl; exact rfl) | (apply s_asIv; exact rfl; exact rfl) | (apply s_fieldP; exact rfl; exact rfl; exact rfl) | (apply s_load1P; exact rfl; exact rfl; exact rfl; (apply n_some; exact rfl; (first | exact nIm rfl | exact nSl rfl | exact nIv rfl | exact nRow rfl | exact nNil rfl | exact nPtr rfl | exact nBsh rfl | exact nBsl rfl | exact nAny rfl | exact rfl))) | (apply s_lenSl; exact rfl; exact rfl) | (apply s_eqlI; exact rfl; exact rfl; exact rfl) | (apply s_lssI; exact rfl; exact rfl; exact rfl)) | (refine c_seq ?_) | (refine s_region ?_) | (refine L.thenN ?_) | (refine L.thenE ?_) | (refine L.thenR ?_) | (refine L.inE ?_) | (refine L.ret ?_) | (refine L.exit ?_) | (apply c_condT; exact rfl; (first | exact rfl | assumption)) | (apply c_condF; exact rfl; (first | exact rfl | assumption))))
      all_goals (first | (apply L.ends1; exact rfl; exact rfl; exact rfl) | (apply L.ends2; exact rfl; exact rfl; exact rfl) | (apply L.ends3; exact rfl; exact rfl; exact rfl) | (apply L.ends1A; exact rfl; exact rfl; exact rfl) | (apply L.ends2A; exact rfl; exact rfl; exact rfl))
      all_goals simp [placeM]
    | some p =>
      have hmem := List.mem_of_getElem? hp
      have hlen := hs.len p hmem
      have kb := bsearch_any p.ks key (by omega) (hs.keys p hmem)
      have hm : placeM ps key = (i - 1, lbM p.ks key, foundM p.ks key) := by rw [placeM, hpg, hp]
      rw [hm]
      have hne : (((ps.map Pg.c).length : Int) == 0) = false := by
        cases ps with
        | nil => simp at hp
        | cons p ps => simp; omega
      obtain ⟨ks, vs⟩ := p
      have g1 : (ps.map Pg.c)[((i - 1 : Nat) : Int).toNat]? = some [.sl (ks.map Str.c), .sl (vs.map Str.c)] := by rw [Int.toNat_natCast, List.getElem?_map, hp]; rfl
      clear hij h1 h2 h3 hle hK
      (repeat' (first | (refine LW.is ?_; first | ((apply s_indexA; exact rfl; exact rfl; exact rfl; omega; exact g1; exact rfl)) | ((apply s_call0; exact rfl; exact kb; exact rfl; exact rfl)) | (refine s_nil ?_) | (apply s_mvIv; exact rfl; exact rfl) | (apply s_mvTup; exact rfl; exact rfl) | (apply s_asIv; exact rfl; exact rfl) | (apply s_fieldP; exact rfl; exact rfl; exact rfl) | (apply s_fieldE; exact rfl; exact rfl; exact rfl) | (apply s_load1P; exact rfl; exact rfl; exact rfl; (apply n_some; exact rfl; (first | exact nIm rfl | exact nSl rfl | exact nIv rfl | exact nRow rfl | exact nNil rfl | exact nPtr rfl | exact nBsh rfl | exact nBsl rfl | exact nAny rfl | exact rfl))) | (apply s_load1E; exact rfl; exact rfl; exact rfl) | (apply s_lenSl; exact rfl; exact rfl) | (apply s_eqlI; exact rfl; exact rfl; exact rfl) | (apply s_lssI; exact rfl; exact rfl; exact rfl) | (apply s_extract; exact rfl; exact rfl; (apply n_some; exact rfl; (first | exact nIm rfl | exact nSl rfl | exact nIv rfl | exact nRow rfl | exact nNil rfl | exact nPtr rfl | exact nBsh rfl | exact nBsl rfl | exact nAny rfl | exact rfl)))) | (refine c_seq ?_) | (refine s_region ?_) | (refine L.thenN ?_) | (refine L.thenE ?_) | (refine L.inE ?_) | (refine L.ret ?_) | (refine L.exit ?_) | (refine L.skip ?_) | (apply c_condF; exact rfl; (first | exact rfl | assumption))))
      all_goals (first | (apply L.ends1; exact rfl; exact rfl; exact rfl) | (apply L.ends2; exact rfl; exact rfl; exact rfl) | (apply L.ends3; exact rfl; exact rfl; exact rfl) | (apply L.ends1A; exact rfl; exact rfl; exact rfl) | (apply L.ends2A; exact rfl; exact rfl; exact rfl))
      all_goals rfl
end Go.Proofs.Ytanlhpdjgelehaa
