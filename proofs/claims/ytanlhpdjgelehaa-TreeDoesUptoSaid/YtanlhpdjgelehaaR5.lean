/- Trees: what Get and Range compute. Conditions: how much there is of what comes in. -/
import Derived.Test.YtanlhpdjgelehaaP3
namespace Go.Proofs.Ytanlhpdjgelehaa
open Go.Abs
attribute [local irreducible] L Code.wp bodyPost Exit.then Exit.inBlock
set_option linter.unusedVariables false
set_option linter.unusedSimpArgs false

def getM (ps : List Pg) (key : Str) : Str × Bool :=
  if goodTree ps then
    match ps[pgOf ps key]? with
    | some p => if foundM p.ks key then ((p.vs[lbM p.ks key]?).getD [], true) else ([], false)
    | none => ([], false)
  else ([], false)

set_option maxRecDepth 100000 in
set_option maxHeartbeats 4000000 in
theorem get_any (ps : List Pg) (key : Str) (hl : ps.length ≤ 140737488355328) :
    CallA Try.prog 32 [.agg [.iv (.sl (ps.map Pg.c))], aS key] [] [] [] (.tup [.iv (S (getM ps key).1), .iv (B (getM ps key).2)]) := by
  have kg := goodtree_any ps hl
  refine CallA.intro _ Try.func32 rfl Try.ntmps32 rfl (fun w0 E0 => ?_)
  cases hg : goodTree ps with
  | false =>
    rw [hg] at kg
    have e : getM ps key = ([], false) := by simp [getM, hg]
    rw [e]
    (repeat' (first | (refine LW.is ?_; first | ((apply s_call0; exact rfl; exact kg; exact rfl; exact rfl)) | (refine s_nil ?_) | (apply s_asIv; exact rfl; exact rfl) | (apply s_loadAP; exact rfl; exact rfl; exact rfl; (focus repeat' (first | exact nl_nil rfl | (apply nl_cons; exact rfl) | exact nIm rfl | exact nSl rfl | exact nIv rfl | exact nRow rfl | exact nNil rfl | exact nPtr rfl | exact nBsh rfl | exact nBsl rfl | exact nAny rfl | exact nIIm rfl | exact nISl rfl | exact rfl)); exact rfl) | (apply s_not; exact rfl; exact rfl) | (apply s_box; exact rfl; exact rfl; exact rfl; (focus repeat' (first | exact nl_nil rfl | (apply nl_cons; exact rfl) | exact nIm rfl | exact nSl rfl | exact nIv rfl | exact nRow rfl | exact nNil rfl | exact nPtr rfl | exact nBsh rfl | exact nBsl rfl | exact nAny rfl | exact nIIm rfl | exact nISl rfl | exact rfl)); exact rfl; exact rfl)) | (refine c_seq ?_) | (refine s_region ?_) | (refine L.thenN ?_) | (refine L.thenR ?_) | (refine L.ret ?_) | (apply c_condT; exact rfl; (first | exact rfl | assumption))))
    all_goals (first | (apply L.ends1; exact rfl; exact rfl; exact rfl) | (apply L.ends2; exact rfl; exact rfl; exact rfl) | (apply L.ends3; exact rfl; exact rfl; exact rfl) | (apply L.ends1A; exact rfl; exact rfl; exact rfl) | (apply L.ends2A; exact rfl; exact rfl; exact rfl))
    all_goals rfl
  | true =>
    rw [hg] at kg
    have hs := sorted_of_good key hg
    have kp := place_any ps key hl hs
    cases hp : ps[pgOf ps key]? with
    | none =>
      have e : getM ps key = ([], false) := by simp [getM, hp]
      have em : placeM ps key = (0, 0, false) := by rw [placeM, hp]
      rw [e]
      rw [em] at kp
      (repeat' (first | (refine LW.is ?_; first | ((apply s_call0; exact rfl; exact kg; exact rfl; exact rfl)) | ((apply s_call0; exact rfl; exact kp; exact rfl; exact rfl)) | (refine s_nil ?_) | (apply s_mvIv; exact rfl; exact rfl) | (apply s_mvTup; exact rfl; exact rfl) | (apply s_asIv; exact rfl; exact rfl) | (apply s_loadAP; exact rfl; exact rfl; exact rfl; (focus repeat' (first | exact nl_nil rfl | (apply nl_cons; exact rfl) | exact nIm rfl | exact nSl rfl | exact nIv rfl | exact nRow rfl | exact nNil rfl | exact nPtr rfl | exact nBsh rfl | exact nBsl rfl | exact nAny rfl | exact nIIm rfl | exact nISl rfl | exact rfl)); exact rfl) | (apply s_not; exact rfl; exact rfl) | (apply s_extract; exact rfl; exact rfl; (apply n_some; exact rfl; (first | exact nIm rfl | exact nSl rfl | exact nIv rfl | exact nRow rfl | exact nNil rfl | exact nPtr rfl | exact nBsh rfl | exact nBsl rfl | exact nAny rfl | exact rfl))) | (apply s_box; exact rfl; exact rfl; exact rfl; (focus repeat' (first | exact nl_nil rfl | (apply nl_cons; exact rfl) | exact nIm rfl | exact nSl rfl | exact nIv rfl | exact nRow rfl | exact nNil rfl | exact nPtr rfl | exact nBsh rfl | exact nBsl rfl | exact nAny rfl | exact nIIm rfl | exact nISl rfl | exact rfl)); exact rfl; exact rfl)) | (refine c_seq ?_) | (refine s_region ?_) | (refine L.thenN ?_) | (refine L.thenR ?_) | (refine L.ret ?_) | (refine L.skip ?_) | (apply c_condT; exact rfl; (first | exact rfl | assumption)) | (apply c_condF; exact rfl; (first | exact rfl | assumption))))
      all_goals (first | (apply L.ends1; exact rfl; exact rfl; exact rfl) | (apply L.ends2; exact rfl; exact rfl; exact rfl) | (apply L.ends3; exact rfl; exact rfl; exact rfl) | (apply L.ends1A; exact rfl; exact rfl; exact rfl) | (apply L.ends2A; exact rfl; exact rfl; exact rfl))
      all_goals rfl
    | some p =>
      have em : placeM ps key = (pgOf ps key, lbM p.ks key, foundM p.ks key) := by rw [placeM, hp]
      rw [em] at kp
      have hv := hs.vs p (List.mem_of_getElem? hp)
      cases hf : foundM p.ks key with
      | false =>
        rw [hf] at kp
        have e : getM ps key = ([], false) := by simp [getM, hp, hf]
        rw [e]
        (repeat' (first | (refine LW.is ?_; first | ((apply s_call0; exact rfl; exact kg; exact rfl; exact rfl)) | ((apply s_call0; exact rfl; exact kp; exact rfl; exact rfl)) | (refine s_nil ?_) | (apply s_mvIv; exact rfl; exact rfl) | (apply s_mvTup; exact rfl; exact rfl) | (apply s_asIv; exact rfl; exact rfl) | (apply s_loadAP; exact rfl; exact rfl; exact rfl; (focus repeat' (first | exact nl_nil rfl | (apply nl_cons; exact rfl) | exact nIm rfl | exact nSl rfl | exact nIv rfl | exact nRow rfl | exact nNil rfl | exact nPtr rfl | exact nBsh rfl | exact nBsl rfl | exact nAny rfl | exact nIIm rfl | exact nISl rfl | exact rfl)); exact rfl) | (apply s_not; exact rfl; exact rfl) | (apply s_extract; exact rfl; exact rfl; (apply n_some; exact rfl; (first | exact nIm rfl | exact nSl rfl | exact nIv rfl | exact nRow rfl | exact nNil rfl | exact nPtr rfl | exact nBsh rfl | exact nBsl rfl | exact nAny rfl | exact rfl))) | (apply s_box; exact rfl; exact rfl; exact rfl; (focus repeat' (first | exact nl_nil rfl | (apply nl_cons; exact rfl) | exact nIm rfl | exact nSl rfl | exact nIv rfl | exact nRow rfl | exact nNil rfl | exact nPtr rfl | exact nBsh rfl | exact nBsl rfl | exact nAny rfl | exact nIIm rfl | exact nISl rfl | exact rfl)); exact rfl; exact rfl)) | (refine c_seq ?_) | (refine s_region ?_) | (refine L.thenN ?_) | (refine L.thenR ?_) | (refine L.ret ?_) | (refine L.skip ?_) | (apply c_condT; exact rfl; (first | exact rfl | assumption)) | (apply c_condF; exact rfl; (first | exact rfl | assumption))))
        all_goals (first | (apply L.ends1; exact rfl; exact rfl; exact rfl) | (apply L.ends2; exact rfl; exact rfl; exact rfl) | (apply L.ends3; exact rfl; exact rfl; exact rfl) | (apply L.ends1A; exact rfl; exact rfl; exact rfl) | (apply L.ends2A; exact rfl; exact rfl; exact rfl))
        all_goals rfl
      | true =>
        rw [hf] at kp
        have hlt : lbM p.ks key < p.vs.length := by
          rw [hv]
          unfold foundM at hf
          have : p.ks[lbM p.ks key]? = some key := by simpa using hf
          exact (List.getElem?_eq_some_iff.1 this).1
        obtain ⟨x, hx⟩ : ∃ x, p.vs[lbM p.ks key]? = some x := ⟨_, List.getElem?_eq_getElem hlt⟩
        have e : getM ps key = (x, true) := by simp [getM, hg, hp, hf, hx]
        rw [e]
        have g1 : (ps.map Pg.c)[((pgOf ps key : Nat) : Int).toNat]? = some [.sl (p.ks.map Str.c), .sl (p.vs.map Str.c)] := by rw [Int.toNat_natCast, List.getElem?_map, hp]; rfl
        have g2 : (p.vs.map Str.c)[((lbM p.ks key : Nat) : Int).toNat]? = some [S x] := by rw [Int.toNat_natCast, List.getElem?_map, hx]; rfl
        (repeat' (first | (refine LW.is ?_; first | ((apply s_call0; exact rfl; exact kg; exact rfl; exact rfl)) | ((apply s_call0; exact rfl; exact kp; exact rfl; exact rfl)) | ((apply s_indexA; exact rfl; exact rfl; exact rfl; omega; exact g1; exact rfl)) | ((apply s_indexA; exact rfl; exact rfl; exact rfl; omega; exact g2; exact rfl)) | (refine s_nil ?_) | (apply s_mvIv; exact rfl; exact rfl) | (apply s_mvTup; exact rfl; exact rfl) | (apply s_asIv; exact rfl; exact rfl) | (apply s_fieldP; exact rfl; exact rfl; exact rfl) | (apply s_fieldE; exact rfl; exact rfl; exact rfl) | (apply s_load1P; exact rfl; exact rfl; exact rfl; (apply n_some; exact rfl; (first | exact nIm rfl | exact nSl rfl | exact nIv rfl | exact nRow rfl | exact nNil rfl | exact nPtr rfl | exact nBsh rfl | exact nBsl rfl | exact nAny rfl | exact rfl))) | (apply s_loadAP; exact rfl; exact rfl; exact rfl; (focus repeat' (first | exact nl_nil rfl | (apply nl_cons; exact rfl) | exact nIm rfl | exact nSl rfl | exact nIv rfl | exact nRow rfl | exact nNil rfl | exact nPtr rfl | exact nBsh rfl | exact nBsl rfl | exact nAny rfl | exact nIIm rfl | exact nISl rfl | exact rfl)); exact rfl) | (apply s_load1E; exact rfl; exact rfl; exact rfl) | (apply s_not; exact rfl; exact rfl) | (apply s_extract; exact rfl; exact rfl; (apply n_some; exact rfl; (first | exact nIm rfl | exact nSl rfl | exact nIv rfl | exact nRow rfl | exact nNil rfl | exact nPtr rfl | exact nBsh rfl | exact nBsl rfl | exact nAny rfl | exact rfl))) | (apply s_box; exact rfl; exact rfl; exact rfl; (focus repeat' (first | exact nl_nil rfl | (apply nl_cons; exact rfl) | exact nIm rfl | exact nSl rfl | exact nIv rfl | exact nRow rfl | exact nNil rfl | exact nPtr rfl | exact nBsh rfl | exact nBsl rfl | exact nAny rfl | exact nIIm rfl | exact nISl rfl | exact rfl)); exact rfl; exact rfl)) | (refine c_seq ?_) | (refine s_region ?_) | (refine L.thenN ?_) | (refine L.ret ?_) | (refine L.skip ?_) | (apply c_condF; exact rfl; (first | exact rfl | assumption))))
        all_goals (first | (apply L.ends1; exact rfl; exact rfl; exact rfl) | (apply L.ends2; exact rfl; exact rfl; exact rfl) | (apply L.ends3; exact rfl; exact rfl; exact rfl) | (apply L.ends1A; exact rfl; exact rfl; exact rfl) | (apply L.ends2A; exact rfl; exact rfl; exact rfl))
        all_goals rfl

abbrev Pr := Str × Str
def Pg.prs (p : Pg) : List Pr := p.ks.zip p.vs
def flatP (ps : List Pg) : List Pr := ps.flatMap Pg.prs
/-- what stands from a place on -/
def fromP (ps : List Pg) (i k : Nat) : List Pr := match ps[i]? with
  | some p => p.prs.drop k ++ flatP (ps.drop (i + 1))
  | none => []
def rangeM (ps : List Pg) (lo hi : Str) : List Pr :=
  if goodTree ps then (fromP ps (placeM ps lo).1 (placeM ps lo).2.1).takeWhile (fun x => decide (x.1 < hi)) else []
theorem fromP_next {ps : List Pg} {i : Nat} {p : Pg} (hp : ps[i]? = some p) {k : Nat} (hk : p.prs.length ≤ k) : fromP ps i k = fromP ps (i + 1) 0 := by
  rw [fromP, hp]
  simp only [List.drop_eq_nil_of_le hk, List.nil_append]
  rw [fromP]
  cases hq : ps[i + 1]? with
  | none => rw [dropN hq]; rfl
  | some q => rw [dropC hq]; simp [flatP]
theorem fromP_step {ps : List Pg} {i k : Nat} {p : Pg} (hp : ps[i]? = some p) {s x : Str} (hs : p.ks[k]? = some s) (hx : p.vs[k]? = some x) : fromP ps i k = (s, x) :: fromP ps i (k + 1) := by
  have h : p.prs[k]? = some (s, x) := by simp [Pg.prs, List.getElem?_zip_eq_some, hs, hx]
  rw [fromP, fromP, hp]
  simp only [dropC h, List.cons_append]

theorem flatP_len {ps : List Pg} (h : ∀ p ∈ ps, p.ks.length ≤ 4) : (flatP ps).length ≤ 4 * ps.length := by
  induction ps with
  | nil => simp [flatP]
  | cons p ps ih =>
    have h1 := ih (fun q hq => h q (by simp [hq]))
    have h2 := h p (by simp)
    have h3 : p.prs.length ≤ 4 := by simp only [Pg.prs, List.length_zip]; omega
    have e : flatP (p :: ps) = p.prs ++ flatP ps := rfl
    rw [e, List.length_append, List.length_cons]; omega
theorem fromP_len {ps : List Pg} (h : ∀ p ∈ ps, p.ks.length ≤ 4) (i k : Nat) : (fromP ps i k).length ≤ 4 * ps.length := by
  unfold fromP
  cases hp : ps[i]? with
  | none => simp
  | some p =>
    have hi := (List.getElem?_eq_some_iff.1 hp).1
    have h1 := flatP_len (ps := ps.drop (i + 1)) (fun q hq => h q (List.mem_of_mem_drop hq))
    have h2 := h p (List.mem_of_getElem? hp)
    simp only [List.length_append, List.length_drop, Pg.prs, List.length_zip] at h1 ⊢
    omega

set_option maxRecDepth 100000 in
set_option maxHeartbeats 4000000 in
theorem range_any (ps : List Pg) (lo hi : Str) (hl : 64 * ps.length ≤ 225000000000000) :
    CallA Try.prog 28 [.agg [.iv (.sl (ps.map Pg.c))], aS lo, aS hi] [] [] [] (.tup [.iv (.sl ((rangeM ps lo hi).map fun x => Str.c x.1)), .iv (.sl ((rangeM ps lo hi).map fun x => Str.c x.2))]) := by
  have kg := goodtree_any ps (by omega)
  refine CallA.intro _ Try.func28 rfl Try.ntmps28 rfl (fun w0 E0 => ?_)
  cases hg : goodTree ps with
  | false =>
    rw [hg] at kg
    have e : rangeM ps lo hi = [] := by simp [rangeM, hg]
    rw [e]
    (repeat' (first | (refine LW.is ?_; first | ((apply s_call0; exact rfl; exact kg; exact rfl; exact rfl)) | (refine s_nil ?_) | (apply s_asNil; exact rfl; exact rfl) | (apply s_loadAP; exact rfl; exact rfl; exact rfl; (focus repeat' (first | exact nl_nil rfl | (apply nl_cons; exact rfl) | exact nIm rfl | exact nSl rfl | exact nIv rfl | exact nRow rfl | exact nNil rfl | exact nPtr rfl | exact nBsh rfl | exact nBsl rfl | exact nAny rfl | exact nIIm rfl | exact nISl rfl | exact rfl)); exact rfl) | (apply s_not; exact rfl; exact rfl) | (apply s_box; exact rfl; exact rfl; exact rfl; (focus repeat' (first | exact nl_nil rfl | (apply nl_cons; exact rfl) | exact nIm rfl | exact nSl rfl | exact nIv rfl | exact nRow rfl | exact nNil rfl | exact nPtr rfl | exact nBsh rfl | exact nBsl rfl | exact nAny rfl | exact nIIm rfl | exact nISl rfl | exact rfl)); exact rfl; exact rfl)) | (refine c_seq ?_) | (refine s_region ?_) | (refine L.thenN ?_) | (refine L.thenR ?_) | (refine L.ret ?_) | (apply c_condT; exact rfl; (first | exact rfl | assumption))))
    all_goals (first | (apply L.ends1; exact rfl; exact rfl; exact rfl) | (apply L.ends2; exact rfl; exact rfl; exact rfl) | (apply L.ends3; exact rfl; exact rfl; exact rfl) | (apply L.ends1A; exact rfl; exact rfl; exact rfl) | (apply L.ends2A; exact rfl; exact rfl; exact rfl))
    all_goals rfl
  | true =>
    rw [hg] at kg
    have hs := sorted_of_good lo hg
    have kp := place_any ps lo (by omega) hs
    have e : rangeM ps lo hi = (fromP ps (placeM ps lo).1 (placeM ps lo).2.1).takeWhile (fun x => decide (x.1 < hi)) := by simp [rangeM, hg]
    rw [e]
    clear e
    generalize placeM ps lo = pl at kp
    obtain ⟨i0, k0, ok⟩ := pl
    dsimp only at kp ⊢
    (repeat' (first | (refine LW.is ?_; first | ((apply s_call0; exact rfl; exact kg; exact rfl; exact rfl)) | ((apply s_call0; exact rfl; exact kp; exact rfl; exact rfl)) | (refine s_nil ?_) | (apply s_mvIv; exact rfl; exact rfl) | (apply s_mvTup; exact rfl; exact rfl) | (apply s_asIv; exact rfl; exact rfl) | (apply s_asNil; exact rfl; exact rfl) | (apply s_loadAP; exact rfl; exact rfl; exact rfl; (focus repeat' (first | exact nl_nil rfl | (apply nl_cons; exact rfl) | exact nIm rfl | exact nSl rfl | exact nIv rfl | exact nRow rfl | exact nNil rfl | exact nPtr rfl | exact nBsh rfl | exact nBsl rfl | exact nAny rfl | exact nIIm rfl | exact nISl rfl | exact rfl)); exact rfl) | (apply s_not; exact rfl; exact rfl) | (apply s_extract; exact rfl; exact rfl; (apply n_some; exact rfl; (first | exact nIm rfl | exact nSl rfl | exact nIv rfl | exact nRow rfl | exact nNil rfl | exact nPtr rfl | exact nBsh rfl | exact nBsl rfl | exact nAny rfl | exact rfl))) | (apply s_box; exact rfl; exact rfl; exact rfl; (focus repeat' (first | exact nl_nil rfl | (apply nl_cons; exact rfl) | exact nIm rfl | exact nSl rfl | exact nIv rfl | exact nRow rfl | exact nNil rfl | exact nPtr rfl | exact nBsh rfl | exact nBsl rfl | exact nAny rfl | exact nIIm rfl | exact nISl rfl | exact rfl)); exact rfl; exact rfl)) | (refine c_seq ?_) | (refine L.block ?_) | (refine s_region ?_) | (refine L.thenN ?_) | (refine L.skip ?_) | (apply c_condF; exact rfl; (first | exact rfl | assumption))))
    refine L.adopt 8 (s := 8) (t := 9) (k := 1) rfl rfl rfl ?_
    refine L.adopt 9 (s := 9) (t := 9) (k := 1) rfl rfl rfl ?_
    have hb0 := fromP_len hs.len i0 k0
    refine L.loopP (ι := Nat × Nat × List Pr) (fun i => ⟨[(10, aI (i.1 : Int)), (11, aI (i.2.1 : Int)), (8, .row 8 (i.2.2.map fun x => Str.c x.1)), (9, .row 9 (i.2.2.map fun x => Str.c x.2)), (2, aS hi), (3, .ptr 3 0)], [(3, ⟨45, .l [.iv (.sl (ps.map Pg.c))]⟩)], [(9, ⟨9, 1⟩), (8, ⟨9, 1⟩)]⟩) (fun i => ps.length - i.1)
      (fun i => (fromP ps i0 k0).takeWhile (fun x => decide (x.1 < hi)) = i.2.2 ++ (fromP ps i.1 i.2.1).takeWhile (fun x => decide (x.1 < hi)) ∧ i.2.2.length + (fromP ps i.1 i.2.1).length ≤ 4 * ps.length) (i0 := (i0, k0, [])) ?_ ⟨by simp, by simpa using hb0⟩ ?_
    · (refine Wk.mk' (by intro id h; cases h) ?_ ?_ ?_ <;> repeat' (first | exact WkF.nil | exact WkB.nil | exact WkT.nil | (refine WkF.cons rfl (Sub.refl _) ?_) | (refine WkB.cons rfl rfl (Subs.refl _) ?_) | (refine WkT.cons rfl ?_)))
    rintro ⟨i, k, acc⟩ ⟨hi', hb⟩ K hK
    dsimp only at hi' hb ⊢
    cases hp : ps[i]? with
    | none =>
      have hlt := ltF (l := ps.map Pg.c) (getFN hp)
      have ef : fromP ps i k = [] := by rw [fromP, hp]
      rw [ef] at hi'
      (repeat' (first | (refine LW.is ?_; first | (refine s_nil ?_) | (apply s_mvIv; exact rfl; exact rfl) | (apply s_mvRow; exact rfl; exact rfl) | (apply s_asRow; exact rfl; exact rfl) | (apply s_fieldP; exact rfl; exact rfl; exact rfl) | (apply s_load1P; exact rfl; exact rfl; exact rfl; (apply n_some; exact rfl; (first | exact nIm rfl | exact nSl rfl | exact nIv rfl | exact nRow rfl | exact nNil rfl | exact nPtr rfl | exact nBsh rfl | exact nBsl rfl | exact nAny rfl | exact rfl))) | (apply s_lenSl; exact rfl; exact rfl) | (apply s_lssI; exact rfl; exact rfl; exact rfl)) | (refine c_seq ?_) | (refine s_region ?_) | (refine L.thenN ?_) | (refine L.thenE ?_) | (refine L.inE ?_) | (refine L.ret ?_) | (refine L.exit ?_) | (apply c_condF; exact rfl; (first | exact rfl | assumption))))
      all_goals (first | (apply L.ends1; exact rfl; exact rfl; exact rfl) | (apply L.ends2; exact rfl; exact rfl; exact rfl) | (apply L.ends3; exact rfl; exact rfl; exact rfl) | (apply L.ends1A; exact rfl; exact rfl; exact rfl) | (apply L.ends2A; exact rfl; exact rfl; exact rfl))
      rw [hi']; simp
    | some p =>
      have hlt := ltT (l := ps.map Pg.c) (getF hp)
      have hlt' := ltN hp
      have hv := hs.vs p (List.mem_of_getElem? hp)
      have hk4 := hs.len p (List.mem_of_getElem? hp)
      obtain ⟨ks, vs⟩ := p
      dsimp only at hv hk4
      have g1 : (ps.map Pg.c)[((i : Nat) : Int).toNat]? = some [.sl (ks.map Str.c), .sl (vs.map Str.c)] := by rw [Int.toNat_natCast, List.getElem?_map, hp]; rfl
      (repeat' (first | (refine LW.is ?_; first | (refine s_nil ?_) | (apply s_mvIv; exact rfl; exact rfl) | (apply s_fieldP; exact rfl; exact rfl; exact rfl) | (apply s_load1P; exact rfl; exact rfl; exact rfl; (apply n_some; exact rfl; (first | exact nIm rfl | exact nSl rfl | exact nIv rfl | exact nRow rfl | exact nNil rfl | exact nPtr rfl | exact nBsh rfl | exact nBsl rfl | exact nAny rfl | exact rfl))) | (apply s_lenSl; exact rfl; exact rfl) | (apply s_lssI; exact rfl; exact rfl; exact rfl)) | (refine c_seq ?_) | (refine L.block ?_) | (refine s_region ?_) | (refine L.thenN ?_) | (refine L.skip ?_) | (apply c_condT; exact rfl; (first | exact rfl | assumption))))
      refine L.loopP (ι := Nat × List Pr) (fun j => ⟨[(10, aI (i : Int)), (11, aI (j.1 : Int)), (8, .row 8 (j.2.map fun x => Str.c x.1)), (9, .row 9 (j.2.map fun x => Str.c x.2)), (2, aS hi), (3, .ptr 3 0)], [(3, ⟨45, .l [.iv (.sl (ps.map Pg.c))]⟩)], [(9, ⟨9, 1⟩), (8, ⟨9, 1⟩)]⟩) (fun j => ks.length - j.1)
        (fun j => (fromP ps i0 k0).takeWhile (fun x => decide (x.1 < hi)) = j.2 ++ (fromP ps i j.1).takeWhile (fun x => decide (x.1 < hi)) ∧ j.2.length + (fromP ps i j.1).length ≤ 4 * ps.length) (i0 := (k, acc)) ?_ ⟨hi', hb⟩ ?_
      · (refine Wk.mk' (by intro id h; cases h) ?_ ?_ ?_ <;> repeat' (first | exact WkF.nil | exact WkB.nil | exact WkT.nil | (refine WkF.cons rfl (Sub.refl _) ?_) | (refine WkB.cons rfl rfl (Subs.refl _) ?_) | (refine WkT.cons rfl ?_)))
      clear hi' hb
      rintro ⟨k, acc⟩ ⟨hi', hb⟩ K2 hK2
      dsimp only at hi' hb ⊢
      cases hw : ks[k]? with
      | none =>
        have hlt2 := ltF (l := ks.map Str.c) (getFN hw)
        have hk : (Pg.prs ⟨ks, vs⟩).length ≤ k := by
          have := List.getElem?_eq_none_iff.1 hw
          simp [Pg.prs]; omega
        rw [fromP_next hp hk] at hi' hb
        (repeat' (first | (refine LW.is ?_; first | ((apply s_indexA; exact rfl; exact rfl; exact rfl; omega; exact g1; exact rfl)) | (refine s_nil ?_) | (apply s_mvIv; exact rfl; exact rfl) | (apply s_asIv; exact rfl; exact rfl) | (apply s_fieldP; exact rfl; exact rfl; exact rfl) | (apply s_fieldE; exact rfl; exact rfl; exact rfl) | (apply s_load1P; exact rfl; exact rfl; exact rfl; (apply n_some; exact rfl; (first | exact nIm rfl | exact nSl rfl | exact nIv rfl | exact nRow rfl | exact nNil rfl | exact nPtr rfl | exact nBsh rfl | exact nBsl rfl | exact nAny rfl | exact rfl))) | (apply s_load1E; exact rfl; exact rfl; exact rfl) | (apply s_lenSl; exact rfl; exact rfl) | (apply s_lssI; exact rfl; exact rfl; exact rfl) | (apply s_addI; exact rfl; exact rfl; exact rfl; (first | omega | decide | (dsimp only; omega)); (first | omega | decide | (dsimp only; omega)))) | (refine c_seq ?_) | (refine s_region ?_) | (refine L.thenN ?_) | (refine L.thenE ?_) | (refine L.inN ?_) | (refine L.inE ?_) | (refine L.exit ?_) | (apply c_condF; exact rfl; (first | exact rfl | assumption))))
        refine hK _ (i + 1, 0, acc) ⟨hi', hb⟩ (by dsimp only; omega) ?_
        (refine Wk.mk' (by intro id h; cases h) ?_ ?_ ?_ <;> repeat' (first | exact WkF.nil | exact WkB.nil | exact WkT.nil | (refine WkF.cons rfl (Sub.refl _) ?_) | (refine WkB.cons rfl rfl (Subs.refl _) ?_) | (refine WkT.cons rfl ?_)))
      | some s =>
        have hlt2 := ltT (l := ks.map Str.c) (getF hw)
        have hlt2' := ltN hw
        obtain ⟨x, hx⟩ : ∃ x, vs[k]? = some x := ⟨_, List.getElem?_eq_getElem (by omega)⟩
        have g2 : (ks.map Str.c)[((k : Nat) : Int).toNat]? = some [S s] := by rw [Int.toNat_natCast, List.getElem?_map, hw]; rfl
        have g3 : (vs.map Str.c)[((k : Nat) : Int).toNat]? = some [S x] := by rw [Int.toNat_natCast, List.getElem?_map, hx]; rfl
        rw [fromP_step hp hw hx] at hi' hb
        simp only [List.length_cons] at hb
        have hge : (!(Op.bytesLess s hi)) = (!decide (s < hi)) := by rw [ltS]
        cases hq : decide (s < hi) with
        | false =>
          rw [hq] at hge
          (repeat' (first | (refine LW.is ?_; first | ((apply s_indexA; exact rfl; exact rfl; exact rfl; omega; exact g1; exact rfl)) | ((apply s_indexA; exact rfl; exact rfl; exact rfl; omega; exact g2; exact rfl)) | (refine s_nil ?_) | (apply s_mvIv; exact rfl; exact rfl) | (apply s_mvRow; exact rfl; exact rfl) | (apply s_asRow; exact rfl; exact rfl) | (apply s_fieldP; exact rfl; exact rfl; exact rfl) | (apply s_fieldE; exact rfl; exact rfl; exact rfl) | (apply s_load1P; exact rfl; exact rfl; exact rfl; (apply n_some; exact rfl; (first | exact nIm rfl | exact nSl rfl | exact nIv rfl | exact nRow rfl | exact nNil rfl | exact nPtr rfl | exact nBsh rfl | exact nBsl rfl | exact nAny rfl | exact rfl))) | (apply s_load1E; exact rfl; exact rfl; exact rfl) | (apply s_lenSl; exact rfl; exact rfl) | (apply s_lssI; exact rfl; exact rfl; exact rfl) | (apply s_geqS; exact rfl; exact rfl; exact rfl)) | (refine c_seq ?_) | (refine L.block ?_) | (refine s_region ?_) | (refine L.thenN ?_) | (refine L.thenR ?_) | (refine L.inR ?_) | (refine L.ret ?_) | (refine L.skip ?_) | (apply c_condT; exact rfl; (first | exact rfl | assumption))))
          all_goals (first | (apply L.ends1; exact rfl; exact rfl; exact rfl) | (apply L.ends2; exact rfl; exact rfl; exact rfl) | (apply L.ends3; exact rfl; exact rfl; exact rfl) | (apply L.ends1A; exact rfl; exact rfl; exact rfl) | (apply L.ends2A; exact rfl; exact rfl; exact rfl))
          rw [hi', List.takeWhile_cons, hq]; simp
        | true =>
          rw [hq] at hge
          rw [List.takeWhile_cons, hq] at hi'
          (repeat' (first | (refine LW.is ?_; first | ((apply s_indexA; exact rfl; exact rfl; exact rfl; omega; exact g1; exact rfl)) | ((apply s_indexA; exact rfl; exact rfl; exact rfl; omega; exact g2; exact rfl)) | (refine s_nil ?_) | (apply s_mvIv; exact rfl; exact rfl) | (apply s_asIv; exact rfl; exact rfl) | (apply s_fieldP; exact rfl; exact rfl; exact rfl) | (apply s_fieldE; exact rfl; exact rfl; exact rfl) | (apply s_load1P; exact rfl; exact rfl; exact rfl; (apply n_some; exact rfl; (first | exact nIm rfl | exact nSl rfl | exact nIv rfl | exact nRow rfl | exact nNil rfl | exact nPtr rfl | exact nBsh rfl | exact nBsl rfl | exact nAny rfl | exact rfl))) | (apply s_load1E; exact rfl; exact rfl; exact rfl) | (apply s_lenSl; exact rfl; exact rfl) | (apply s_lssI; exact rfl; exact rfl; exact rfl) | (apply s_geqS; exact rfl; exact rfl; exact rfl) | (apply s_addI; exact rfl; exact rfl; exact rfl; (first | omega | decide | (dsimp only; omega)); (first | omega | decide | (dsimp only; omega)))) | (refine DR.is ?_; first | ((apply d_indexA; exact rfl; exact rfl; exact rfl; omega; exact g1; exact rfl)) | ((apply d_indexA; exact rfl; exact rfl; exact rfl; omega; exact g2; exact rfl)) | ((apply d_indexA; exact rfl; exact rfl; exact rfl; omega; exact g3; exact rfl)) | (apply d_nil; kernel_rfl) | (apply d_mvIv; exact rfl; exact rfl) | (apply d_mvRow; exact rfl; exact rfl) | (apply d_asRow; exact rfl; exact rfl) | (apply d_fieldP; exact rfl; exact rfl; exact rfl) | (apply d_fieldE; exact rfl; exact rfl; exact rfl) | (apply d_load1P; exact rfl; exact rfl; exact rfl; (apply n_some; exact rfl; (first | exact nIm rfl | exact nSl rfl | exact nIv rfl | exact nRow rfl | exact nNil rfl | exact nPtr rfl | exact nBsh rfl | exact nBsl rfl | exact nAny rfl | exact rfl))) | (apply d_load1E; exact rfl; exact rfl; exact rfl) | (apply d_bslice; exact rfl; exact rfl; exact rfl; exact rfl; exact rfl; (apply n_some; exact rfl; (focus repeat' (first | exact nl_nil rfl | (apply nl_cons; exact rfl) | exact nIm rfl | exact nSl rfl | exact nIv rfl | exact nRow rfl | exact nNil rfl | exact nPtr rfl | exact nBsh rfl | exact nBsl rfl | exact nAny rfl | exact nIIm rfl | exact nISl rfl | exact rfl))); (apply n_some; exact rfl; (focus repeat' (first | exact nl_nil rfl | (apply nl_cons; exact rfl) | exact nIm rfl | exact nSl rfl | exact nIv rfl | exact nRow rfl | exact nNil rfl | exact nPtr rfl | exact nBsh rfl | exact nBsl rfl | exact nAny rfl | exact nIIm rfl | exact nISl rfl | exact rfl))); exact rfl; (focus repeat' (first | exact nl_nil rfl | (apply nl_cons; exact rfl) | exact nIm rfl | exact nSl rfl | exact nIv rfl | exact nRow rfl | exact nNil rfl | exact nPtr rfl | exact nBsh rfl | exact nBsl rfl | exact nAny rfl | exact nIIm rfl | exact nISl rfl | exact rfl)); exact rfl) | (apply d_append; exact rfl; exact rfl; exact rfl; exact rfl; (focus repeat' (first | exact len_nil | apply len_app | (refine len_map (fun x => rfl)) | (refine len_cons rfl ?_) | exact len_chunks rfl | assumption)); (focus repeat' (first | exact len_nil | apply len_app | (refine len_map (fun x => rfl)) | (refine len_cons rfl ?_) | exact len_chunks rfl | assumption)); (first | (simp [maxLen, chunks_length]; done) | (simp [maxLen, chunks_length]; omega)); (first | (simp [maxLen, chunks_length]; done) | (simp [maxLen, chunks_length]; omega)); exact rfl; exact rfl)) | (refine c_seq ?_) | (refine L.block ?_) | (refine s_region ?_) | (refine d_region ?_) | (refine L.thenN ?_) | (refine L.inN ?_) | (refine L.skip ?_) | (apply c_condT; exact rfl; (first | exact rfl | assumption)) | (apply c_condF; exact rfl; (first | exact rfl | assumption))))
          refine L.only [10, 11, 8, 9, 2, 3] ?_
          refine L.retok 8 65 8 rfl rfl rfl rfl ?_
          refine L.retok 9 77 9 rfl rfl rfl rfl ?_
          refine hK2 _ (k + 1, acc ++ [(s, x)]) ⟨by rw [hi']; simp, by simp; omega⟩ (by dsimp only; omega) (Wk.mk' (by intro id h; cases h) (.cons rfl (Sub.refl _) (.cons rfl (Sub.refl _) (.cons rfl (Sub.of_eq (congrArg (AV.row 8) ?_)) (.cons rfl (Sub.of_eq (congrArg (AV.row 9) ?_)) (.cons rfl (Sub.refl _) (.cons rfl (Sub.refl _) .nil)))))) (.cons rfl rfl (Subs.refl _) .nil) (.cons rfl (.cons rfl .nil)))
          · simp [chunks, Str.c]
          · simp [chunks, Str.c]
end Go.Proofs.Ytanlhpdjgelehaa
