/- Values: what 'same' computes; the law ValueBack answers true. Conditions: how much there is of what comes in. -/
import Derived.Test.YtanlhpdjgelehaaV5
import Derived.Test.YtanlhpdjgelehaaP1
namespace Go.Proofs.Ytanlhpdjgelehaa
open Go.Abs
attribute [local irreducible] L Code.wp bodyPost Exit.then Exit.inBlock
set_option linter.unusedVariables false
set_option linter.unusedSimpArgs false

def veq (v w : Val) : Bool := v.k == w.k && (v.n == w.n && (v.s == w.s && true))
theorem veq_iff {v w : Val} : veq v w = true ↔ v = w := by
  obtain ⟨a, b, c⟩ := v
  obtain ⟨a', b', c'⟩ := w
  simp [veq]
theorem veq_refl (v : Val) : veq v v = true := veq_iff.2 rfl
def sameM : List Val → List Val → Bool
  | [], [] => true
  | v :: l, w :: m => veq v w && sameM l m
  | _, _ => false
theorem sameM_iff : ∀ {l m : List Val}, sameM l m = true ↔ l = m
  | [], [] => by simp [sameM]
  | [], _ :: _ => by simp [sameM]
  | _ :: _, [] => by simp [sameM]
  | v :: l, w :: m => by simp [sameM, veq_iff, sameM_iff]
theorem sameM_len : ∀ {l m : List Val}, l.length ≠ m.length → sameM l m = false
  | [], [], h => by simp at h
  | [], _ :: _, _ => rfl
  | _ :: _, [], _ => rfl
  | v :: l, w :: m, h => by simp [sameM, sameM_len (l := l) (m := m) (by simpa using h)]
theorem sameM_refl (l : List Val) : sameM l l = true := sameM_iff.2 rfl

theorem same_any (a b : List Val) (hlen : a.length ≤ 140737488355328) : CallA Try.prog 14 [.iv (.sl (a.map Val.c)), .iv (.sl (b.map Val.c))] [] [] [] (aB (sameM a b)) := by
  refine CallA.intro _ Try.func14 rfl Try.ntmps14 rfl (fun w0 E0 => ?_)
  by_cases hl : a.length = b.length
  · have hne : (((a.map Val.c).length : Int) != ((b.map Val.c).length : Int)) = false := by simp [hl]
    (repeat' (first | (refine LW.is ?_; first | (refine s_nil ?_) | (apply s_mvIv; exact rfl; exact rfl) | (apply s_asIv; exact rfl; exact rfl) | (apply s_lenSl; exact rfl; exact rfl) | (apply s_neqI; exact rfl; exact rfl; exact rfl)) | (refine c_seq ?_) | (refine L.block ?_) | (refine s_region ?_) | (refine L.thenN ?_) | (refine L.skip ?_) | (apply c_condF; exact rfl; (first | exact rfl | assumption))))
    refine L.loopP (ι := Nat) (fun i => ⟨[(13, aI (i : Int)), (12, aI ((a.map Val.c).length : Int)), (0, .iv (.sl (a.map Val.c))), (1, .iv (.sl (b.map Val.c)))], [], []⟩) (fun i => a.length - i) (fun i => sameM a b = sameM (a.drop i) (b.drop i)) (i0 := 0) ?_ rfl ?_
    · (refine Wk.mk' (by intro id h; cases h) ?_ ?_ ?_ <;> repeat' (first | exact WkF.nil | exact WkB.nil | exact WkT.nil | (refine WkF.cons rfl (Sub.refl _) ?_) | (refine WkB.cons rfl rfl (Subs.refl _) ?_) | (refine WkT.cons rfl ?_)))
    intro i hi K hK
    cases hv : a[i]? with
    | none =>
      have hlt := ltF (l := a.map Val.c) (getFN hv)
      have hv' : b[i]? = none := by rw [List.getElem?_eq_none_iff] at hv ⊢; omega
      (repeat' (first | (refine LW.is ?_; first | (refine s_nil ?_) | (apply s_asIv; exact rfl; exact rfl) | (apply s_lssI; exact rfl; exact rfl; exact rfl)) | (refine c_seq ?_) | (refine s_region ?_) | (refine L.thenN ?_) | (refine L.thenE ?_) | (refine L.inE ?_) | (refine L.ret ?_) | (refine L.exit ?_) | (apply c_condF; exact rfl; (first | exact rfl | assumption))))
      all_goals (first | (apply L.ends1; exact rfl; exact rfl; exact rfl) | (apply L.ends2; exact rfl; exact rfl; exact rfl) | (apply L.ends3; exact rfl; exact rfl; exact rfl) | (apply L.ends1A; exact rfl; exact rfl; exact rfl) | (apply L.ends2A; exact rfl; exact rfl; exact rfl))
      rw [hi, dropN hv, dropN hv']; rfl
    | some v =>
      have hlt := ltT (l := a.map Val.c) (getF hv)
      have hlt' := ltN hv
      obtain ⟨w, hw⟩ : ∃ w, b[i]? = some w := ⟨_, List.getElem?_eq_getElem (by omega)⟩
      rw [dropC hv, dropC hw] at hi
      cases hq : veq v w with
      | false =>
        have hq' : (!veq v w) = true := by rw [hq]; rfl
        (repeat' (first | (refine LW.is ?_; first | (refine s_nil ?_) | (apply s_mvIv; exact rfl; exact rfl) | (apply s_asIv; exact rfl; exact rfl) | (apply s_lssI; exact rfl; exact rfl; exact rfl)) | (refine DR.is ?_; first | (apply d_nil; kernel_rfl) | (apply d_mvIv; exact rfl; exact rfl) | (apply d_loadAE; exact rfl; exact rfl; (focus repeat' (first | exact nl_nil rfl | (apply nl_cons; exact rfl) | exact nIm rfl | exact nSl rfl | exact nIv rfl | exact nRow rfl | exact nNil rfl | exact nPtr rfl | exact nAny rfl | exact nIIm rfl | exact nISl rfl | exact rfl)); exact rfl) | (apply d_neqAgg; exact rfl; exact rfl; exact rfl; exact rfl; exact rfl) | (apply d_indexA; exact rfl; exact rfl; exact rfl; (first | omega | decide); (exact getM (by assumption)); exact rfl)) | (refine c_seq ?_) | (refine L.block ?_) | (refine s_region ?_) | (refine d_region ?_) | (refine L.thenN ?_) | (refine L.thenR ?_) | (refine L.inR ?_) | (refine L.ret ?_) | (refine L.skip ?_) | (apply c_condT; exact rfl; (first | exact rfl | assumption))))
        all_goals (first | (apply L.ends1; exact rfl; exact rfl; exact rfl) | (apply L.ends2; exact rfl; exact rfl; exact rfl) | (apply L.ends3; exact rfl; exact rfl; exact rfl) | (apply L.ends1A; exact rfl; exact rfl; exact rfl) | (apply L.ends2A; exact rfl; exact rfl; exact rfl))
        rw [hi]; simp [sameM, hq]
      | true =>
        have hq' : (!veq v w) = false := by rw [hq]; rfl
        (repeat' (first | (refine LW.is ?_; first | (refine s_nil ?_) | (apply s_mvIv; exact rfl; exact rfl) | (apply s_asIv; exact rfl; exact rfl) | (apply s_lssI; exact rfl; exact rfl; exact rfl) | (apply s_addI; exact rfl; exact rfl; exact rfl; (first | omega | decide); (first | omega | decide))) | (refine DR.is ?_; first | (apply d_nil; kernel_rfl) | (apply d_mvIv; exact rfl; exact rfl) | (apply d_loadAE; exact rfl; exact rfl; (focus repeat' (first | exact nl_nil rfl | (apply nl_cons; exact rfl) | exact nIm rfl | exact nSl rfl | exact nIv rfl | exact nRow rfl | exact nNil rfl | exact nPtr rfl | exact nAny rfl | exact nIIm rfl | exact nISl rfl | exact rfl)); exact rfl) | (apply d_neqAgg; exact rfl; exact rfl; exact rfl; exact rfl; exact rfl) | (apply d_indexA; exact rfl; exact rfl; exact rfl; (first | omega | decide); (exact getM (by assumption)); exact rfl)) | (refine c_seq ?_) | (refine L.block ?_) | (refine s_region ?_) | (refine d_region ?_) | (refine L.thenN ?_) | (refine L.inN ?_) | (refine L.skip ?_) | (apply c_condT; exact rfl; (first | exact rfl | assumption)) | (apply c_condF; exact rfl; (first | exact rfl | assumption))))
        refine hK _ (i + 1) (by rw [hi]; simp [sameM, hq]) (by omega) ?_
        (refine Wk.mk' (by intro id h; cases h) ?_ ?_ ?_ <;> repeat' (first | exact WkF.nil | exact WkB.nil | exact WkT.nil | (refine WkF.cons rfl (Sub.refl _) ?_) | (refine WkB.cons rfl rfl (Subs.refl _) ?_) | (refine WkT.cons rfl ?_)))
  · have hne : (((a.map Val.c).length : Int) != ((b.map Val.c).length : Int)) = true := by simp; omega
    (repeat' (first | (refine LW.is ?_; first | (refine s_nil ?_) | (apply s_mvIv; exact rfl; exact rfl) | (apply s_asIv; exact rfl; exact rfl) | (apply s_lenSl; exact rfl; exact rfl) | (apply s_neqI; exact rfl; exact rfl; exact rfl)) | (refine c_seq ?_) | (refine s_region ?_) | (refine L.thenN ?_) | (refine L.thenR ?_) | (refine L.ret ?_) | (apply c_condT; exact rfl; (first | exact rfl | assumption))))
    all_goals (first | (apply L.ends1; exact rfl; exact rfl; exact rfl) | (apply L.ends2; exact rfl; exact rfl; exact rfl) | (apply L.ends3; exact rfl; exact rfl; exact rfl) | (apply L.ends1A; exact rfl; exact rfl; exact rfl) | (apply L.ends2A; exact rfl; exact rfl; exact rfl))
    rw [sameM_len hl]


theorem back_any (l : List Val) (s : List UInt8) (hl : l.length ≤ 1048576) (hs : s.length ≤ 1048576) : CallA Try.prog 4 [.iv (.sl (l.map Val.c)), aS s] [] [] [] (aB true) := by
  have hk := keyM_length l
  have hv := valsR_length s
  have hv' := valsR_length (keyM l).1
  have c1 := key_any l (by omega)
  have c2 := vals_any (keyM l).1 (by omega)
  have c3 := same_any l (valsR (keyM l).1).1 (by omega)
  have c4 := vals_any s (by omega)
  have c5 := key_any (valsR s).1 (by omega)
  refine CallA.intro _ Try.func4 rfl Try.ntmps4 rfl (fun w0 E0 => ?_)
  have b1 : ((keyM l).2 == 0) = true → ((valsR (keyM l).1).2 != 0) = false ∧ (!sameM l (valsR (keyM l).1).1) = false := by
    intro h
    have := vals_of_key (vs := l) (by simpa using h)
    rw [this, sameM_refl]; exact ⟨rfl, rfl⟩
  have b2 : ((valsR s).2 != 0) = false → ((keyM (valsR s).1).2 == 0) = true ∧ ((keyM (valsR s).1).1 == s) = true := by
    intro h
    have := key_of_vals (s := s) (by simpa using h)
    rw [this]; simp
  generalize keyM l = kl at *
  generalize valsR kl.1 = vl at *
  generalize valsR s = ws at *
  generalize keyM ws.1 = kw at *
  cases h1 : kl.2 == 0 with
  | false =>
    cases h2 : ws.2 != 0 with
    | false =>
      obtain ⟨h3, h4⟩ := b2 h2
      (repeat' (first | (refine LW.is ?_; first | ((apply s_call0; exact rfl; exact keep_values; exact rfl; exact rfl)) | ((apply s_call0; exact rfl; rotate_left; exact rfl; rotate_left 3; exact c1; exact rfl)) | ((apply s_call0; exact rfl; rotate_left; exact rfl; rotate_left 3; exact c2; exact rfl)) | ((apply s_call0; exact rfl; rotate_left; exact rfl; rotate_left 3; exact c4; exact rfl)) | ((apply s_call0; exact rfl; rotate_left; exact rfl; rotate_left 3; exact c5; exact rfl)) | (refine s_nil ?_) | (apply s_mvIv; exact rfl; exact rfl) | (apply s_mvTup; exact rfl; exact rfl) | (apply s_asIv; exact rfl; exact rfl) | (apply s_eqlI; exact rfl; exact rfl; exact rfl) | (apply s_neqI; exact rfl; exact rfl; exact rfl) | (apply s_eqlS; exact rfl; exact rfl; exact rfl) | (apply s_extract; exact rfl; exact rfl; (apply n_some; exact rfl; (first | exact nIm rfl | exact nSl rfl | exact nIv rfl | exact nRow rfl | exact nNil rfl | exact nPtr rfl | exact nAny rfl | exact rfl))) | (apply s_gdo; exact rfl; exact rfl; (first | exact rfl | assumption)) | (apply s_gskipT; exact rfl; exact rfl; exact rfl; (first | exact rfl | assumption)) | (apply s_gskipU; exact rfl; exact rfl; exact rfl) | (apply s_pickTIv; exact rfl; exact rfl; (first | exact rfl | assumption); exact rfl) | (apply s_pickFIv; exact rfl; exact rfl; (first | exact rfl | assumption); exact rfl)) | (refine c_seq ?_) | (refine s_region ?_) | (refine L.thenN ?_) | (refine L.ret ?_) | (refine L.skip ?_) | (apply c_condF; exact rfl; (first | exact rfl | assumption))))
      all_goals (first | (apply L.ends1; exact rfl; exact rfl; exact rfl) | (apply L.ends2; exact rfl; exact rfl; exact rfl) | (apply L.ends3; exact rfl; exact rfl; exact rfl) | (apply L.ends1A; exact rfl; exact rfl; exact rfl) | (apply L.ends2A; exact rfl; exact rfl; exact rfl))
      all_goals rfl
    | true =>
      (repeat' (first | (refine LW.is ?_; first | ((apply s_call0; exact rfl; exact keep_values; exact rfl; exact rfl)) | ((apply s_call0; exact rfl; rotate_left; exact rfl; rotate_left 3; exact c1; exact rfl)) | ((apply s_call0; exact rfl; rotate_left; exact rfl; rotate_left 3; exact c2; exact rfl)) | ((apply s_call0; exact rfl; rotate_left; exact rfl; rotate_left 3; exact c4; exact rfl)) | ((apply s_call0; exact rfl; rotate_left; exact rfl; rotate_left 3; exact c5; exact rfl)) | (refine s_nil ?_) | (apply s_mvIv; exact rfl; exact rfl) | (apply s_mvTup; exact rfl; exact rfl) | (apply s_asIv; exact rfl; exact rfl) | (apply s_eqlI; exact rfl; exact rfl; exact rfl) | (apply s_neqI; exact rfl; exact rfl; exact rfl) | (apply s_extract; exact rfl; exact rfl; (apply n_some; exact rfl; (first | exact nIm rfl | exact nSl rfl | exact nIv rfl | exact nRow rfl | exact nNil rfl | exact nPtr rfl | exact nAny rfl | exact rfl))) | (apply s_gdo; exact rfl; exact rfl; (first | exact rfl | assumption)) | (apply s_gskipT; exact rfl; exact rfl; exact rfl; (first | exact rfl | assumption)) | (apply s_gskipF; exact rfl; exact rfl; exact rfl; (first | exact rfl | assumption)) | (apply s_gskipU; exact rfl; exact rfl; exact rfl) | (apply s_pickTIv; exact rfl; exact rfl; (first | exact rfl | assumption); exact rfl) | (apply s_pickFIv; exact rfl; exact rfl; (first | exact rfl | assumption); exact rfl)) | (refine c_seq ?_) | (refine s_region ?_) | (refine L.thenN ?_) | (refine L.ret ?_) | (refine L.skip ?_) | (apply c_condF; exact rfl; (first | exact rfl | assumption))))
      all_goals (first | (apply L.ends1; exact rfl; exact rfl; exact rfl) | (apply L.ends2; exact rfl; exact rfl; exact rfl) | (apply L.ends3; exact rfl; exact rfl; exact rfl) | (apply L.ends1A; exact rfl; exact rfl; exact rfl) | (apply L.ends2A; exact rfl; exact rfl; exact rfl))
      all_goals rfl
  | true =>
    obtain ⟨h5, h6⟩ := b1 h1
    cases h2 : ws.2 != 0 with
    | false =>
      obtain ⟨h3, h4⟩ := b2 h2
      (repeat' (first | (refine LW.is ?_; first | ((apply s_call0; exact rfl; exact keep_values; exact rfl; exact rfl)) | ((apply s_call0; exact rfl; rotate_left; exact rfl; rotate_left 3; exact c1; exact rfl)) | ((apply s_call0; exact rfl; rotate_left; exact rfl; rotate_left 3; exact c2; exact rfl)) | ((apply s_call0; exact rfl; rotate_left; exact rfl; rotate_left 3; exact c3; exact rfl)) | ((apply s_call0; exact rfl; rotate_left; exact rfl; rotate_left 3; exact c4; exact rfl)) | ((apply s_call0; exact rfl; rotate_left; exact rfl; rotate_left 3; exact c5; exact rfl)) | (refine s_nil ?_) | (apply s_mvIv; exact rfl; exact rfl) | (apply s_mvTup; exact rfl; exact rfl) | (apply s_asIv; exact rfl; exact rfl) | (apply s_eqlI; exact rfl; exact rfl; exact rfl) | (apply s_neqI; exact rfl; exact rfl; exact rfl) | (apply s_eqlS; exact rfl; exact rfl; exact rfl) | (apply s_not; exact rfl; exact rfl) | (apply s_extract; exact rfl; exact rfl; (apply n_some; exact rfl; (first | exact nIm rfl | exact nSl rfl | exact nIv rfl | exact nRow rfl | exact nNil rfl | exact nPtr rfl | exact nAny rfl | exact rfl))) | (apply s_gdo; exact rfl; exact rfl; (first | exact rfl | assumption)) | (apply s_pickTIv; exact rfl; exact rfl; (first | exact rfl | assumption); exact rfl) | (apply s_pickFIv; exact rfl; exact rfl; (first | exact rfl | assumption); exact rfl)) | (refine c_seq ?_) | (refine s_region ?_) | (refine L.thenN ?_) | (refine L.ret ?_) | (refine L.skip ?_) | (apply c_condF; exact rfl; (first | exact rfl | assumption))))
      all_goals (first | (apply L.ends1; exact rfl; exact rfl; exact rfl) | (apply L.ends2; exact rfl; exact rfl; exact rfl) | (apply L.ends3; exact rfl; exact rfl; exact rfl) | (apply L.ends1A; exact rfl; exact rfl; exact rfl) | (apply L.ends2A; exact rfl; exact rfl; exact rfl))
      all_goals rfl
    | true =>
      (repeat' (first | (refine LW.is ?_; first | ((apply s_call0; exact rfl; exact keep_values; exact rfl; exact rfl)) | ((apply s_call0; exact rfl; rotate_left; exact rfl; rotate_left 3; exact c1; exact rfl)) | ((apply s_call0; exact rfl; rotate_left; exact rfl; rotate_left 3; exact c2; exact rfl)) | ((apply s_call0; exact rfl; rotate_left; exact rfl; rotate_left 3; exact c3; exact rfl)) | ((apply s_call0; exact rfl; rotate_left; exact rfl; rotate_left 3; exact c4; exact rfl)) | ((apply s_call0; exact rfl; rotate_left; exact rfl; rotate_left 3; exact c5; exact rfl)) | (refine s_nil ?_) | (apply s_mvIv; exact rfl; exact rfl) | (apply s_mvTup; exact rfl; exact rfl) | (apply s_asIv; exact rfl; exact rfl) | (apply s_eqlI; exact rfl; exact rfl; exact rfl) | (apply s_neqI; exact rfl; exact rfl; exact rfl) | (apply s_not; exact rfl; exact rfl) | (apply s_extract; exact rfl; exact rfl; (apply n_some; exact rfl; (first | exact nIm rfl | exact nSl rfl | exact nIv rfl | exact nRow rfl | exact nNil rfl | exact nPtr rfl | exact nAny rfl | exact rfl))) | (apply s_gdo; exact rfl; exact rfl; (first | exact rfl | assumption)) | (apply s_gskipF; exact rfl; exact rfl; exact rfl; (first | exact rfl | assumption)) | (apply s_gskipU; exact rfl; exact rfl; exact rfl) | (apply s_pickTIv; exact rfl; exact rfl; (first | exact rfl | assumption); exact rfl) | (apply s_pickFIv; exact rfl; exact rfl; (first | exact rfl | assumption); exact rfl)) | (refine c_seq ?_) | (refine s_region ?_) | (refine L.thenN ?_) | (refine L.ret ?_) | (refine L.skip ?_) | (apply c_condF; exact rfl; (first | exact rfl | assumption))))
      all_goals (first | (apply L.ends1; exact rfl; exact rfl; exact rfl) | (apply L.ends2; exact rfl; exact rfl; exact rfl) | (apply L.ends3; exact rfl; exact rfl; exact rfl) | (apply L.ends1A; exact rfl; exact rfl; exact rfl) | (apply L.ends2A; exact rfl; exact rfl; exact rfl))
      all_goals rfl
end Go.Proofs.Ytanlhpdjgelehaa
