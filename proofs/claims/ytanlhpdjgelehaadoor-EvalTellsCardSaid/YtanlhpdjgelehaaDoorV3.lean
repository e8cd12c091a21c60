/- Values: what Key computes. Conditions: the values are not more than a slice may have. -/
import Derived.Test.YtanlhpdjgelehaaDoorV2
namespace Go.Proofs.YtanlhpdjgelehaaDoor
open Go.Abs
attribute [local irreducible] L Code.wp bodyPost Exit.then Exit.inBlock
set_option linter.unusedVariables false
set_option linter.unusedSimpArgs false

def u8 (n : Int) : UInt8 := UInt8.ofNat (IntKind.u8.wrap n).toNat
theorem u8_wrap (n : Int) : (((u8 n).toNat : Nat) : Int) = IntKind.u8.wrap n := by
  rw [u8, UInt8.toNat_ofNat']
  have : IntKind.u8.wrap n = n % 256 := IntKind.wrap_u8 n
  rw [this]; omega
def be4 (x : Int) : List UInt8 := [u8 (x / 16777216), u8 (x / 65536), u8 (x / 256), u8 x]
def keyOne (v : Val) : List UInt8 := u8 (v.k + 1) :: (if v.k = 1 then be4 (v.n + 1073741824) else if v.k = 2 then v.s ++ [0] else [])
def keyM (vs : List Val) : List UInt8 × Int := if vs.all goodM then (vs.flatMap keyOne, 0) else ([], 1)

theorem goodM_bounds {v : Val} (h : goodM v = true) : 0 ≤ v.k ∧ v.k ≤ 2 ∧ -1000000 ≤ v.n ∧ v.n ≤ 1000000 ∧ v.s.length ≤ 8 := by
  unfold goodM at h
  split at h
  · simp at h; simp [h]; omega
  · split at h
    · simp at h; simp [h]; omega
    · split at h
      · simp at h; simp [h]; omega
      · cases h
theorem keyOne_length {v : Val} (h : goodM v = true) : (keyOne v).length ≤ 10 := by
  unfold goodM at h
  unfold keyOne
  split at h
  · rename_i h0; simp [h0]
  · split at h
    · rename_i h0 h1; simp [h1, be4]
    · split at h
      · rename_i h0 h1 h2
        simp at h
        simp [h2]; omega
      · cases h
theorem flat_length {vs : List Val} : vs.all goodM = true → (vs.flatMap keyOne).length ≤ 10 * vs.length := by
  induction vs with
  | nil => simp
  | cons v vs ih =>
    intro h
    simp only [List.all_cons, Bool.and_eq_true] at h
    have := keyOne_length h.1
    have := ih h.2
    simp only [List.flatMap_cons, List.length_append, List.length_cons]; omega

theorem key_any (vs : List Val) (hlen : 10 * vs.length ≤ 140737488355328) : CallA Tryd.prog 26 [.iv (.sl (vs.map Val.c))] [] [] [] (.tup [.iv (S (keyM vs).1), .iv (I (keyM vs).2)]) := by
  refine CallA.intro 57 Tryd.func26 rfl rfl rfl (fun w0 E0 => ?_)
  (repeat' (first | (refine LW.is ?_; first | (refine s_nil ?_) | (apply s_mvIv; exact rfl; exact rfl) | (apply s_asIv; exact rfl; exact rfl) | (apply s_asNil; exact rfl; exact rfl) | (apply s_lenSl; exact rfl; exact rfl)) | (refine c_seq ?_) | (refine L.block ?_) | (refine s_region ?_) | (refine L.thenN ?_)))
  refine L.adopt 4 (s := 4) (t := 5) (k := 1) rfl rfl rfl ?_
  refine L.loopP (ι := Nat) (fun i => ⟨[(4, .row 4 (((vs.take i).flatMap keyOne).map cB)), (8, .iv (.sl (vs.map Val.c))), (9, aI ((vs.map Val.c).length : Int)), (10, aI (i : Int))], [], [(4, ⟨5, 1⟩)]⟩) (fun i => vs.length - i) (fun i => (vs.take i).all goodM = true) (i0 := 0) ?_ rfl ?_
  · (refine Wk.mk' (by intro id h; cases h) ?_ ?_ ?_ <;> repeat' (first | exact WkF.nil | exact WkB.nil | exact WkT.nil | (refine WkF.cons rfl (Sub.refl _) ?_) | (refine WkB.cons rfl rfl (Subs.refl _) ?_) | (refine WkT.cons rfl ?_)))
  intro i hi K hK
  cases hv : vs[i]? with
  | none =>
    have hlt := ltF (l := vs.map Val.c) (getFN hv)
    (repeat' (first | (refine LW.is ?_; first | (refine s_nil ?_) | (apply s_mvRow; exact rfl; exact rfl) | (apply s_asIv; exact rfl; exact rfl) | (apply s_lssI; exact rfl; exact rfl; exact rfl) | (apply s_bytesS; exact rfl; exact rfl)) | (refine c_seq ?_) | (refine s_region ?_) | (refine L.thenN ?_) | (refine L.thenE ?_) | (refine L.inE ?_) | (refine L.ret ?_) | (refine L.exit ?_) | (apply c_condF; exact rfl; (first | exact rfl | assumption))))
    all_goals (first | (apply L.ends1; exact rfl; exact rfl; exact rfl) | (apply L.ends2; exact rfl; exact rfl; exact rfl) | (apply L.ends3; exact rfl; exact rfl; exact rfl) | (apply L.ends1A; exact rfl; exact rfl; exact rfl) | (apply L.ends2A; exact rfl; exact rfl; exact rfl))
    rw [takeN hv] at hi ⊢
    simp [keyM, hi]
  | some v =>
    have hlt := ltT (l := vs.map Val.c) (getF hv)
    have hlt' := ltN hv
    have hfl := flat_length hi
    have htl : (vs.take i).length = i := by simp; omega
    cases hg : goodM v with
    | false =>
      have hng : (!goodM v) = true := by rw [hg]; rfl
      (repeat' (first | (refine LW.is ?_; first | ((apply s_call0; exact rfl; exact good_any v; exact rfl; exact rfl)) | (refine s_nil ?_) | (apply s_asIv; exact rfl; exact rfl) | (apply s_loadAP; exact rfl; exact rfl; exact rfl; (focus repeat' (first | exact nl_nil rfl | (apply nl_cons; exact rfl) | exact nIm rfl | exact nSl rfl | exact nIv rfl | exact nRow rfl | exact nNil rfl | exact nPtr rfl | exact nAny rfl | exact nIIm rfl | exact nISl rfl | exact rfl)); exact rfl) | (apply s_loadAE; exact rfl; exact rfl; (focus repeat' (first | exact nl_nil rfl | (apply nl_cons; exact rfl) | exact nIm rfl | exact nSl rfl | exact nIv rfl | exact nRow rfl | exact nNil rfl | exact nPtr rfl | exact nAny rfl | exact nIIm rfl | exact nISl rfl | exact rfl)); exact rfl) | (apply s_lssI; exact rfl; exact rfl; exact rfl) | (apply s_not; exact rfl; exact rfl) | (apply s_alloc; exact rfl; exact rfl; (focus repeat' (first | exact nl_nil rfl | (apply nl_cons; exact rfl) | exact nIm rfl | exact nSl rfl | exact nIv rfl | exact nRow rfl | exact nNil rfl | exact nPtr rfl | exact nAny rfl | exact nIIm rfl | exact nISl rfl | exact rfl)); exact rfl; exact rfl) | (apply s_store; exact rfl; exact rfl; exact rfl; exact rfl; exact rfl; exact rfl; (focus repeat' (first | exact nl_nil rfl | (apply nl_cons; exact rfl) | exact nIm rfl | exact nSl rfl | exact nIv rfl | exact nRow rfl | exact nNil rfl | exact nPtr rfl | exact nAny rfl | exact nIIm rfl | exact nISl rfl | exact rfl))) | (apply s_indexA; exact rfl; exact rfl; exact rfl; (first | omega | decide | (dsimp only; omega)); (exact getM (by assumption)); exact rfl)) | (refine c_seq ?_) | (refine L.block ?_) | (refine s_region ?_) | (refine L.thenN ?_) | (refine L.thenR ?_) | (refine L.inR ?_) | (refine L.ret ?_) | (refine L.skip ?_) | (apply c_condT; exact rfl; (first | exact rfl | assumption))))
      all_goals (first | (apply L.ends1; exact rfl; exact rfl; exact rfl) | (apply L.ends2; exact rfl; exact rfl; exact rfl) | (apply L.ends3; exact rfl; exact rfl; exact rfl) | (apply L.ends1A; exact rfl; exact rfl; exact rfl) | (apply L.ends2A; exact rfl; exact rfl; exact rfl))
      have : vs.all goodM = false := by
        rw [List.all_eq_false]
        exact ⟨v, List.mem_of_getElem? hv, by simp [hg]⟩
      simp [keyM, this]
    | true =>
      have hng : (!goodM v) = false := by rw [hg]; rfl
      have hb3 : 0 ≤ v.k ∧ v.k ≤ 2 ∧ -1000000 ≤ v.n ∧ v.n ≤ 1000000 ∧ v.s.length ≤ 8 := goodM_bounds hg
      obtain ⟨hk0, hk2, hn0, hn1, hs8⟩ := hb3
      have hnext : (vs.take (i + 1)).all goodM = true := by rw [takeC hv]; simp [hi, hg]
      have hacc : (vs.take (i + 1)).flatMap keyOne = (vs.take i).flatMap keyOne ++ keyOne v := by rw [takeC hv]; simp
      generalize hq : (vs.take (i + 1)).flatMap keyOne = acc' at hacc
      generalize (vs.take i).flatMap keyOne = acc at hfl hacc ⊢
      rw [htl] at hfl
      (repeat' (first | (refine LW.is ?_; first | ((apply s_call0; exact rfl; exact good_any v; exact rfl; exact rfl)) | (refine s_nil ?_) | (apply s_mvIv; exact rfl; exact rfl) | (apply s_mvRow; exact rfl; exact rfl) | (apply s_asIv; exact rfl; exact rfl) | (apply s_asRow; exact rfl; exact rfl) | (apply s_fieldP; exact rfl; exact rfl; exact rfl) | (apply s_load1P; exact rfl; exact rfl; exact rfl; (apply n_some; exact rfl; (first | exact nIm rfl | exact nSl rfl | exact nIv rfl | exact nRow rfl | exact nNil rfl | exact nPtr rfl | exact nAny rfl | exact rfl))) | (apply s_loadAP; exact rfl; exact rfl; exact rfl; (focus repeat' (first | exact nl_nil rfl | (apply nl_cons; exact rfl) | exact nIm rfl | exact nSl rfl | exact nIv rfl | exact nRow rfl | exact nNil rfl | exact nPtr rfl | exact nAny rfl | exact nIIm rfl | exact nISl rfl | exact rfl)); exact rfl) | (apply s_loadAE; exact rfl; exact rfl; (focus repeat' (first | exact nl_nil rfl | (apply nl_cons; exact rfl) | exact nIm rfl | exact nSl rfl | exact nIv rfl | exact nRow rfl | exact nNil rfl | exact nPtr rfl | exact nAny rfl | exact nIIm rfl | exact nISl rfl | exact rfl)); exact rfl) | (apply s_eqlI; exact rfl; exact rfl; exact rfl) | (apply s_lssI; exact rfl; exact rfl; exact rfl) | (apply s_not; exact rfl; exact rfl) | (apply s_alloc; exact rfl; exact rfl; (focus repeat' (first | exact nl_nil rfl | (apply nl_cons; exact rfl) | exact nIm rfl | exact nSl rfl | exact nIv rfl | exact nRow rfl | exact nNil rfl | exact nPtr rfl | exact nAny rfl | exact nIIm rfl | exact nISl rfl | exact rfl)); exact rfl; exact rfl) | (apply s_bslice; exact rfl; exact rfl; exact rfl; exact rfl; exact rfl; (apply n_some; exact rfl; (focus repeat' (first | exact nl_nil rfl | (apply nl_cons; exact rfl) | exact nIm rfl | exact nSl rfl | exact nIv rfl | exact nRow rfl | exact nNil rfl | exact nPtr rfl | exact nAny rfl | exact nIIm rfl | exact nISl rfl | exact rfl))); (apply n_some; exact rfl; (focus repeat' (first | exact nl_nil rfl | (apply nl_cons; exact rfl) | exact nIm rfl | exact nSl rfl | exact nIv rfl | exact nRow rfl | exact nNil rfl | exact nPtr rfl | exact nAny rfl | exact nIIm rfl | exact nISl rfl | exact rfl))); exact rfl; (focus repeat' (first | exact nl_nil rfl | (apply nl_cons; exact rfl) | exact nIm rfl | exact nSl rfl | exact nIv rfl | exact nRow rfl | exact nNil rfl | exact nPtr rfl | exact nAny rfl | exact nIIm rfl | exact nISl rfl | exact rfl)); exact rfl) | (apply s_store; exact rfl; exact rfl; exact rfl; exact rfl; exact rfl; exact rfl; (focus repeat' (first | exact nl_nil rfl | (apply nl_cons; exact rfl) | exact nIm rfl | exact nSl rfl | exact nIv rfl | exact nRow rfl | exact nNil rfl | exact nPtr rfl | exact nAny rfl | exact nIIm rfl | exact nISl rfl | exact rfl))) | (apply s_addI; exact rfl; exact rfl; exact rfl; (first | omega | decide | (dsimp only; omega)); (first | omega | decide | (dsimp only; omega))) | (apply s_conv; exact rfl; exact rfl) | (apply s_shrI; exact rfl; exact rfl; exact rfl; (first | decide | omega | (dsimp only; omega))) | (apply s_indexA; exact rfl; exact rfl; exact rfl; (first | omega | decide | (dsimp only; omega)); (exact getM (by assumption)); exact rfl) | (apply s_append; exact rfl; exact rfl; exact rfl; exact rfl; (focus repeat' (first | exact len_nil | apply len_app | (refine len_map (fun x => rfl)) | (refine len_cons rfl ?_) | exact len_chunks rfl | assumption)); (focus repeat' (first | exact len_nil | apply len_app | (refine len_map (fun x => rfl)) | (refine len_cons rfl ?_) | exact len_chunks rfl | assumption)); (first | (simp [maxLen, chunks_length]; done) | (simp [maxLen, chunks_length]; omega)); (first | (simp [maxLen, chunks_length]; done) | (simp [maxLen, chunks_length]; omega)); exact rfl; exact rfl) | (apply s_appendS; exact rfl; exact rfl; exact rfl; exact rfl; (focus repeat' (first | exact len_nil | apply len_app | (refine len_map (fun x => rfl)) | (refine len_cons rfl ?_) | exact len_chunks rfl | assumption)); (first | (simp [maxLen, chunks_length]; done) | (simp [maxLen, chunks_length]; omega)); (first | (simp [maxLen, chunks_length]; done) | (simp [maxLen, chunks_length]; omega)); exact rfl; exact rfl)) | (refine c_seq ?_) | (refine L.block ?_) | (refine s_region ?_) | (refine L.thenN ?_) | (refine L.inN ?_) | (refine L.skip ?_) | (apply c_condT; exact rfl; (first | exact rfl | assumption)) | (apply c_condF; exact rfl; (first | exact rfl | assumption)) | (refine L.cond rfl (fun hb => ?_) (fun hb => ?_) <;> (have hp := hb; try simp only [decide_eq_true_eq, decide_eq_false_iff_not, beq_iff_eq, beq_eq_false_iff_ne, bne_iff_ne, bne_eq_false_iff_eq, ne_eq, Bool.not_eq_true, Bool.not_eq_false, Bool.not_eq_eq_eq_not, Bool.not_true, Bool.not_false, Bool.or_eq_true, Bool.or_eq_false_iff, Bool.and_eq_true, Bool.and_eq_false_iff, Int.not_lt, Int.not_le] at hp))))
      · refine L.only [4, 8, 9, 10] ?_
        refine L.retok 4 45 4 rfl rfl rfl rfl ?_
        refine hK _ (i + 1) hnext (by omega) (Wk.mk' (by intro id h; cases h) (.cons rfl (Sub.of_eq (congrArg (AV.row 4) ?_)) (.cons rfl (Sub.refl _) (.cons rfl (Sub.refl _) (.cons rfl (Sub.refl _) .nil)))) .nil (.cons rfl .nil))
        have hw : IntKind.u32.wrap (v.n + 1073741824) = v.n + 1073741824 := by rw [IntKind.wrap_u32]; omega
        have h24 : ∀ x : Int, x.fdiv (2 ^ min 24 IntKind.u32.bits) = x / 16777216 := fun x => Int.fdiv_eq_ediv_of_nonneg x (by decide)
        have h16 : ∀ x : Int, x.fdiv (2 ^ min 16 IntKind.u32.bits) = x / 65536 := fun x => Int.fdiv_eq_ediv_of_nonneg x (by decide)
        have h8 : ∀ x : Int, x.fdiv (2 ^ min 8 IntKind.u32.bits) = x / 256 := fun x => Int.fdiv_eq_ediv_of_nonneg x (by decide)
        rw [hq, hacc]
        simp [keyOne, *, be4, cB, u8_wrap, chunks]
      · refine L.only [4, 8, 9, 10] ?_
        refine L.retok 4 53 4 rfl rfl rfl rfl ?_
        refine hK _ (i + 1) hnext (by omega) (Wk.mk' (by intro id h; cases h) (.cons rfl (Sub.of_eq (congrArg (AV.row 4) ?_)) (.cons rfl (Sub.refl _) (.cons rfl (Sub.refl _) (.cons rfl (Sub.refl _) .nil)))) .nil (.cons rfl .nil))
        rw [hq, hacc]
        simp [keyOne, *, cB, u8_wrap, chunks]
      · refine L.only [4, 8, 9, 10] ?_
        refine L.retok 4 23 4 rfl rfl rfl rfl ?_
        refine hK _ (i + 1) hnext (by omega) (Wk.mk' (by intro id h; cases h) (.cons rfl (Sub.of_eq (congrArg (AV.row 4) ?_)) (.cons rfl (Sub.refl _) (.cons rfl (Sub.refl _) (.cons rfl (Sub.refl _) .nil)))) .nil (.cons rfl .nil))
        rw [hq, hacc]
        simp [keyOne, *, cB, u8_wrap, chunks]
end Go.Proofs.YtanlhpdjgelehaaDoor
