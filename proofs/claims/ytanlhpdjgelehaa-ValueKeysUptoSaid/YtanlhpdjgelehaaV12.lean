/- Values: what the reference's ValuesOf and SameValues compute; the law ValueKeys answers true. Conditions: how much there is of what comes in. -/
import Derived.Test.YtanlhpdjgelehaaV11
namespace Go.Proofs.Ytanlhpdjgelehaa
open Go.Abs
attribute [local irreducible] L Code.wp bodyPost Exit.then Exit.inBlock
set_option linter.unusedVariables false
set_option linter.unusedSimpArgs false

theorem idxB0 : ∀ l : List UInt8, Lib.indexByte l 0 = if (upto0 l).length = l.length then -1 else ((upto0 l).length : Int)
  | [] => rfl
  | b :: l => by
    by_cases hb : b = 0
    · subst hb; simp [Lib.indexByte, upto0]
    · have e : upto0 (b :: l) = b :: upto0 l := by simp [upto0, hb]
      have ih := idxB0 l
      rw [Lib.indexByte, if_neg (by simpa using hb), ih, e]
      by_cases h : (upto0 l).length = l.length
      · simp [h]
      · rw [if_neg h]
        have : ¬ (((upto0 l).length : Int) == -1) = true := by simp <;> omega
        rw [if_neg this]
        simp [h]
theorem idx3_any (m : List UInt8) : CallA Try.prog 59 [aS m, .iv (.im (.int .u8 0))] [] [] [] (aI (Lib.indexByte m 0)) := by
  refine CallA.intro _ Try.func59 rfl Try.ntmps59 rfl (fun w0 E0 => ?_)
  (repeat' (first | (refine LW.is ?_; first | (refine s_nil ?_) | (apply s_mvIv; exact rfl; exact rfl) | (apply s_asIv; exact rfl; exact rfl) | (apply s_idxB; exact rfl; exact rfl; exact rfl)) | (refine c_seq ?_) | (refine s_region ?_) | (refine L.thenN ?_) | (refine L.ret ?_)))
  all_goals (first | (apply L.ends1; exact rfl; exact rfl; exact rfl) | (apply L.ends2; exact rfl; exact rfl; exact rfl) | (apply L.ends3; exact rfl; exact rfl; exact rfl) | (apply L.ends1A; exact rfl; exact rfl; exact rfl) | (apply L.ends2A; exact rfl; exact rfl; exact rfl))
  all_goals rfl
theorem idx_any (m : List UInt8) : CallA Try.prog 43 [aS m, .iv (.im (.int .u8 0))] [] [] [] (aI (Lib.indexByte m 0)) := by
  refine CallA.intro _ Try.func43 rfl Try.ntmps43 rfl (fun w0 E0 => ?_)
  (repeat' (first | (refine LW.is ?_; first | ((apply s_call0; exact rfl; rotate_left; exact rfl; rotate_left 3; exact idx3_any _; exact rfl)) | (refine s_nil ?_) | (apply s_mvIv; exact rfl; exact rfl) | (apply s_asIv; exact rfl; exact rfl)) | (refine c_seq ?_) | (refine s_region ?_) | (refine L.thenN ?_) | (refine L.ret ?_)))
  all_goals (first | (apply L.ends1; exact rfl; exact rfl; exact rfl) | (apply L.ends2; exact rfl; exact rfl; exact rfl) | (apply L.ends3; exact rfl; exact rfl; exact rfl) | (apply L.ends1A; exact rfl; exact rfl; exact rfl) | (apply L.ends2A; exact rfl; exact rfl; exact rfl))
  all_goals rfl

set_option maxRecDepth 100000 in
set_option maxHeartbeats 4000000 in
theorem vals_of_any (s : List UInt8) (hlen : 32 * s.length ≤ 140737488355328) : CallA Try.prog 17 [aS s] [] [] [] (.tup [.iv (.sl ((valsR s).1.map Val.c)), .iv (I (valsR s).2)]) := by
  refine CallA.intro _ Try.func17 rfl Try.ntmps17 rfl (fun w0 E0 => ?_)
  (repeat' (first | (refine LW.is ?_; first | (refine s_nil ?_) | (apply s_asIv; exact rfl; exact rfl) | (apply s_asNil; exact rfl; exact rfl)) | (refine c_seq ?_) | (refine L.block ?_) | (refine s_region ?_) | (refine L.thenN ?_)))
  refine L.adopt 4 (s := 4) (t := 36) (k := 3) rfl rfl rfl ?_
  refine L.loopP (ι := List Val × Nat) (fun i => ⟨[(4, .row 4 (i.1.map Val.c)), (5, aI (i.2 : Int)), (0, aS s)], [], [(4, ⟨36, 3⟩)]⟩) (fun i => s.length - i.2) (fun i => valsM s = (valsM (s.drop i.2)).map (i.1 ++ ·) ∧ i.1.length ≤ i.2 ∧ i.2 ≤ s.length) (i0 := ([], 0)) ?_ (by simp) ?_
  · (refine Wk.mk' (by intro id h; cases h) ?_ ?_ ?_ <;> repeat' (first | exact WkF.nil | exact WkB.nil | exact WkT.nil | (refine WkF.cons rfl (Sub.refl _) ?_) | (refine WkB.cons rfl rfl (Subs.refl _) ?_) | (refine WkT.cons rfl ?_)))
  rintro ⟨acc, i⟩ ⟨hi, hl, hls⟩ K hK
  dsimp only at hi hl hls ⊢
  cases hv : s[i]? with
  | none =>
    have hlt := ltF hv
    (repeat' (first | (refine LW.is ?_; first | (refine s_nil ?_) | (apply s_mvIv; exact rfl; exact rfl) | (apply s_mvRow; exact rfl; exact rfl) | (apply s_asIv; exact rfl; exact rfl) | (apply s_asRow; exact rfl; exact rfl) | (apply s_lenS; exact rfl; exact rfl) | (apply s_lssI; exact rfl; exact rfl; exact rfl)) | (refine c_seq ?_) | (refine s_region ?_) | (refine L.thenN ?_) | (refine L.thenE ?_) | (refine L.inE ?_) | (refine L.ret ?_) | (refine L.exit ?_) | (apply c_condF; exact rfl; (first | exact rfl | assumption))))
    all_goals (first | (apply L.ends1; exact rfl; exact rfl; exact rfl) | (apply L.ends2; exact rfl; exact rfl; exact rfl) | (apply L.ends3; exact rfl; exact rfl; exact rfl) | (apply L.ends1A; exact rfl; exact rfl; exact rfl) | (apply L.ends2A; exact rfl; exact rfl; exact rfl))
    rw [dropN hv, valsM_nil] at hi
    simp [valsR, hi]
  | some b =>
    have hlt := ltT hv
    have hlt' := ltN hv
    have hdr : s.drop ((i : Int)).toNat = b :: s.drop (i + 1) := by simpa using dropC hv
    rw [dropC hv] at hi
    have hrl : (s.drop (i + 1)).length = s.length - (i + 1) := by simp
    have hb := b.toNat_lt
    by_cases h1 : b = 1
    · subst h1
      have hv1 : valOne (1 :: s.drop (i + 1)) = some (⟨0, 0, []⟩, s.drop (i + 1)) := rfl
      have hg : goodM ⟨0, 0, []⟩ = true := rfl
      have hng : (!goodM ⟨0, 0, []⟩) = false := rfl
      (repeat' (first | (refine LW.is ?_; first | ((apply s_call0; exact rfl; rotate_left; exact rfl; rotate_left 3; exact isval_any ⟨0, 0, []⟩ (by simp); exact rfl)) | (refine s_nil ?_) | (apply s_mvIv; exact rfl; exact rfl) | (apply s_mvRow; exact rfl; exact rfl) | (apply s_asIv; exact rfl; exact rfl) | (apply s_asRow; exact rfl; exact rfl) | (apply s_loadAP; exact rfl; exact rfl; exact rfl; (focus repeat' (first | exact nl_nil rfl | (apply nl_cons; exact rfl) | exact nIm rfl | exact nSl rfl | exact nIv rfl | exact nRow rfl | exact nNil rfl | exact nPtr rfl | exact nAny rfl | exact nIIm rfl | exact nISl rfl | exact rfl)); exact rfl) | (apply s_lenS; exact rfl; exact rfl) | (apply s_eqlI; exact rfl; exact rfl; exact rfl) | (apply s_lssI; exact rfl; exact rfl; exact rfl) | (apply s_not; exact rfl; exact rfl) | (apply s_alloc; exact rfl; exact rfl; (focus repeat' (first | exact nl_nil rfl | (apply nl_cons; exact rfl) | exact nIm rfl | exact nSl rfl | exact nIv rfl | exact nRow rfl | exact nNil rfl | exact nPtr rfl | exact nAny rfl | exact nIIm rfl | exact nISl rfl | exact rfl)); exact rfl; exact rfl) | (apply s_bslice; exact rfl; exact rfl; exact rfl; exact rfl; exact rfl; (apply n_some; exact rfl; (focus repeat' (first | exact nl_nil rfl | (apply nl_cons; exact rfl) | exact nIm rfl | exact nSl rfl | exact nIv rfl | exact nRow rfl | exact nNil rfl | exact nPtr rfl | exact nAny rfl | exact nIIm rfl | exact nISl rfl | exact rfl))); (apply n_some; exact rfl; (focus repeat' (first | exact nl_nil rfl | (apply nl_cons; exact rfl) | exact nIm rfl | exact nSl rfl | exact nIv rfl | exact nRow rfl | exact nNil rfl | exact nPtr rfl | exact nAny rfl | exact nIIm rfl | exact nISl rfl | exact rfl))); exact rfl; (focus repeat' (first | exact nl_nil rfl | (apply nl_cons; exact rfl) | exact nIm rfl | exact nSl rfl | exact nIv rfl | exact nRow rfl | exact nNil rfl | exact nPtr rfl | exact nAny rfl | exact nIIm rfl | exact nISl rfl | exact rfl)); exact rfl) | (apply s_addI; exact rfl; exact rfl; exact rfl; (first | omega | decide | (dsimp only; omega)); (first | omega | decide | (dsimp only; omega))) | (apply s_indexS; exact rfl; exact rfl; exact rfl; (first | omega | decide | (dsimp only; omega)); (exact getS (by assumption))) | (apply s_append; exact rfl; exact rfl; exact rfl; exact rfl; (focus repeat' (first | exact len_nil | apply len_app | (refine len_map (fun x => rfl)) | (refine len_cons rfl ?_) | exact len_chunks rfl | assumption)); (focus repeat' (first | exact len_nil | apply len_app | (refine len_map (fun x => rfl)) | (refine len_cons rfl ?_) | exact len_chunks rfl | assumption)); (first | (simp [maxLen, chunks_length]; done) | (simp [maxLen, chunks_length]; omega)); (first | (simp [maxLen, chunks_length]; done) | (simp [maxLen, chunks_length]; omega)); exact rfl; exact rfl)) | (refine c_seq ?_) | (refine L.block ?_) | (refine s_region ?_) | (refine L.thenN ?_) | (refine L.inN ?_) | (refine L.skip ?_) | (apply c_condT; exact rfl; (first | exact rfl | assumption)) | (apply c_condF; exact rfl; (first | exact rfl | assumption))))
      refine L.only [4, 5, 0] ?_
      refine L.retok 4 95 4 rfl rfl rfl rfl ?_
      refine hK _ (acc ++ [⟨0, 0, []⟩], i + 1) ⟨step_some hi hv1 hg, by simp <;> omega, by simp <;> omega⟩ (by simp <;> omega) (Wk.mk' (by intro id h; cases h) (.cons rfl (Sub.of_eq (congrArg (AV.row 4) ?_)) (.cons rfl (Sub.refl _) (.cons rfl (Sub.refl _) .nil))) .nil (.cons rfl .nil))
      simp [chunks, Val.c]
    have n1 : b.toNat ≠ 1 := fun h => h1 (UInt8.toNat_inj.1 h)
    have q1 : ((b.toNat : Int) == 1) = false := by simp; omega
    by_cases h2 : b = 2
    · subst h2
      by_cases hr : (s.drop (i + 1)).length < 4
      · have hv1 : valOne (2 :: s.drop (i + 1)) = none := by rw [valOne2, if_pos hr]
        have hlt5 : decide ((5 : Int) ≤ (s.length : Int) - (i : Int)) = false := by simp; omega
        (repeat' (first | (refine LW.is ?_; first | (refine s_nil ?_) | (apply s_mvIv; exact rfl; exact rfl) | (apply s_asIv; exact rfl; exact rfl) | (apply s_asNil; exact rfl; exact rfl) | (apply s_lenS; exact rfl; exact rfl) | (apply s_eqlI; exact rfl; exact rfl; exact rfl) | (apply s_lssI; exact rfl; exact rfl; exact rfl) | (apply s_geqI; exact rfl; exact rfl; exact rfl) | (apply s_alloc; exact rfl; exact rfl; (focus repeat' (first | exact nl_nil rfl | (apply nl_cons; exact rfl) | exact nIm rfl | exact nSl rfl | exact nIv rfl | exact nRow rfl | exact nNil rfl | exact nPtr rfl | exact nAny rfl | exact nIIm rfl | exact nISl rfl | exact rfl)); exact rfl; exact rfl) | (apply s_subI; exact rfl; exact rfl; exact rfl; (first | omega | decide | (dsimp only; omega)); (first | omega | decide | (dsimp only; omega))) | (apply s_indexS; exact rfl; exact rfl; exact rfl; (first | omega | decide | (dsimp only; omega)); (exact getS (by assumption))) | (apply s_gdo; exact rfl; exact rfl; (first | exact rfl | assumption)) | (apply s_gskipT; exact rfl; exact rfl; exact rfl; (first | exact rfl | assumption)) | (apply s_pickTIv; exact rfl; exact rfl; (first | exact rfl | assumption); exact rfl) | (apply s_pickFIv; exact rfl; exact rfl; (first | exact rfl | assumption); exact rfl)) | (refine c_seq ?_) | (refine L.block ?_) | (refine s_region ?_) | (refine L.thenN ?_) | (refine L.thenR ?_) | (refine L.inR ?_) | (refine L.ret ?_) | (refine L.skip ?_) | (apply c_condT; exact rfl; (first | exact rfl | assumption)) | (apply c_condF; exact rfl; (first | exact rfl | assumption))))
        all_goals (first | (apply L.ends1; exact rfl; exact rfl; exact rfl) | (apply L.ends2; exact rfl; exact rfl; exact rfl) | (apply L.ends3; exact rfl; exact rfl; exact rfl) | (apply L.ends1A; exact rfl; exact rfl; exact rfl) | (apply L.ends2A; exact rfl; exact rfl; exact rfl))
        rw [step_none hi hv1]; rfl
      · have hlt5 : decide ((5 : Int) ≤ (s.length : Int) - (i : Int)) = true := by simp; omega
        have hs5 : i + 5 ≤ s.length := by omega
        obtain ⟨c0, c1, c2, c3, t, ht⟩ : ∃ c0 c1 c2 c3 t, s.drop (i + 1) = c0 :: c1 :: c2 :: c3 :: t := by
          match s.drop (i + 1), hr with
          | [], h => simp at h
          | [_], h => simp at h
          | [_, _], h => simp at h
          | [_, _, _], h => simp at h
          | c0 :: c1 :: c2 :: c3 :: t, _ => exact ⟨c0, c1, c2, c3, t, rfl⟩
        have gt : ∀ j : Nat, s[i + 1 + j]? = (c0 :: c1 :: c2 :: c3 :: t)[j]? := fun j => by rw [← ht]; simp
        have g0 : s[((i : Int) + 1).toNat]? = some c0 := by have := gt 0; simpa using this
        have g1 : s[((i : Int) + 2).toNat]? = some c1 := by have := gt 1; simpa [show ((i : Int) + 2).toNat = i + 1 + 1 by omega] using this
        have g2 : s[((i : Int) + 3).toNat]? = some c2 := by have := gt 2; simpa [show ((i : Int) + 3).toNat = i + 1 + 2 by omega] using this
        have g3 : s[((i : Int) + 4).toNat]? = some c3 := by have := gt 3; simpa [show ((i : Int) + 4).toNat = i + 1 + 3 by omega] using this
        have ht5 : s.drop (i + 5) = t := by
          have := congrArg (List.drop 4) ht
          simpa [List.drop_drop] using this
        have k0 := c0.toNat_lt
        have k1 := c1.toNat_lt
        have k2 := c2.toNat_lt
        have k3 := c3.toNat_lt
        rw [ht] at hi
        have hv1 : valOne (2 :: c0 :: c1 :: c2 :: c3 :: t) = some (⟨1, dec4 (c0 :: c1 :: c2 :: c3 :: t), []⟩, t) := by rw [valOne2]; simp
        have he : 16777216 * (c0.toNat : Int) + 65536 * c1.toNat + 256 * c2.toNat + c3.toNat - 1073741824 = dec4 (c0 :: c1 :: c2 :: c3 :: t) := by
          simp only [dec4, List.getD_cons_zero, List.getD_cons_succ]; omega
        rw [← he] at hv1
        have A1 : -9223372036854775808 ≤ 16777216 * (c0.toNat : Int) + 65536 * c1.toNat + 256 * c2.toNat + c3.toNat := by clear he hv1; omega
        have A2 : 16777216 * (c0.toNat : Int) + 65536 * c1.toNat + 256 * c2.toNat + c3.toNat ≤ 9223372036854775807 := by clear he hv1; omega
        have A3 : -9223372036854775808 ≤ 16777216 * (c0.toNat : Int) + 65536 * c1.toNat + 256 * c2.toNat + c3.toNat - 1073741824 := by clear he hv1; omega
        have A4 : 16777216 * (c0.toNat : Int) + 65536 * c1.toNat + 256 * c2.toNat + c3.toNat - 1073741824 ≤ 9223372036854775807 := by clear he hv1; omega
        clear he gt
        generalize hx : 16777216 * (c0.toNat : Int) + 65536 * c1.toNat + 256 * c2.toNat + c3.toNat - 1073741824 = x at hv1
        cases hg : goodM ⟨1, x, []⟩ with
        | false =>
          have hng : (!goodM ⟨1, 16777216 * (c0.toNat : Int) + 65536 * c1.toNat + 256 * c2.toNat + c3.toNat - 1073741824, []⟩) = true := by rw [hx, hg]; rfl
          (repeat' (first | (refine LW.is ?_; first | ((apply s_call0; exact rfl; rotate_left; exact rfl; rotate_left 3; exact isval_any ⟨1, 16777216 * (c0.toNat : Int) + 65536 * c1.toNat + 256 * c2.toNat + c3.toNat - 1073741824, []⟩ (by simp); exact rfl)) | (refine s_nil ?_) | (apply s_mvIv; exact rfl; exact rfl) | (apply s_asIv; exact rfl; exact rfl) | (apply s_asNil; exact rfl; exact rfl) | (apply s_loadAP; exact rfl; exact rfl; exact rfl; (focus repeat' (first | exact nl_nil rfl | (apply nl_cons; exact rfl) | exact nIm rfl | exact nSl rfl | exact nIv rfl | exact nRow rfl | exact nNil rfl | exact nPtr rfl | exact nAny rfl | exact nIIm rfl | exact nISl rfl | exact rfl)); exact rfl) | (apply s_lenS; exact rfl; exact rfl) | (apply s_eqlI; exact rfl; exact rfl; exact rfl) | (apply s_lssI; exact rfl; exact rfl; exact rfl) | (apply s_geqI; exact rfl; exact rfl; exact rfl) | (apply s_not; exact rfl; exact rfl) | (apply s_alloc; exact rfl; exact rfl; (focus repeat' (first | exact nl_nil rfl | (apply nl_cons; exact rfl) | exact nIm rfl | exact nSl rfl | exact nIv rfl | exact nRow rfl | exact nNil rfl | exact nPtr rfl | exact nAny rfl | exact nIIm rfl | exact nISl rfl | exact rfl)); exact rfl; exact rfl) | (apply s_addI; exact rfl; exact rfl; exact rfl; (first | omega | decide | (dsimp only; omega)); (first | omega | decide | (dsimp only; omega))) | (apply s_subI; exact rfl; exact rfl; exact rfl; (first | omega | decide | (dsimp only; omega)); (first | omega | decide | (dsimp only; omega))) | (apply s_indexS; exact rfl; exact rfl; exact rfl; (first | omega | decide | (dsimp only; omega)); (exact getS (by assumption))) | (apply s_gdo; exact rfl; exact rfl; (first | exact rfl | assumption)) | (apply s_pickTIv; exact rfl; exact rfl; (first | exact rfl | assumption); exact rfl)) | (refine DR.is ?_; first | ((apply d_addI; exact rfl; exact rfl; exact rfl; exact A1; exact A2)) | ((apply d_subI; exact rfl; exact rfl; exact rfl; exact A3; exact A4)) | ((apply d_indexS; exact rfl; exact rfl; exact rfl; omega; first | exact g0 | exact g1 | exact g2 | exact g3)) | (apply d_nil; kernel_rfl) | (apply d_mvIv; exact rfl; exact rfl) | (apply d_build; exact rfl; exact rfl; (apply n_some; exact rfl; (focus repeat' (first | exact nl_nil rfl | (apply nl_cons; exact rfl) | exact nIm rfl | exact nSl rfl | exact nIv rfl | exact nRow rfl | exact nNil rfl | exact nPtr rfl | exact nAny rfl | exact nIIm rfl | exact nISl rfl | exact rfl)))) | (apply d_store; exact rfl; exact rfl; exact rfl; exact rfl; exact rfl; exact rfl; (focus repeat' (first | exact nl_nil rfl | (apply nl_cons; exact rfl) | exact nIm rfl | exact nSl rfl | exact nIv rfl | exact nRow rfl | exact nNil rfl | exact nPtr rfl | exact nAny rfl | exact nIIm rfl | exact nISl rfl | exact rfl))) | (apply d_addI; exact rfl; exact rfl; exact rfl; (first | omega | decide | (dsimp only; omega)); (first | omega | decide | (dsimp only; omega))) | (apply d_convU8; exact rfl; exact rfl) | (apply d_mulI; exact rfl; exact rfl; exact rfl; (first | omega | decide | (dsimp only; omega)); (first | omega | decide | (dsimp only; omega)))) | (refine c_seq ?_) | (refine L.block ?_) | (refine s_region ?_) | (refine d_region ?_) | (refine L.thenN ?_) | (refine L.thenR ?_) | (refine L.inN ?_) | (refine L.inR ?_) | (refine L.ret ?_) | (refine L.skip ?_) | (apply c_condT; exact rfl; (first | exact rfl | assumption)) | (apply c_condF; exact rfl; (first | exact rfl | assumption))))
          all_goals (first | (apply L.ends1; exact rfl; exact rfl; exact rfl) | (apply L.ends2; exact rfl; exact rfl; exact rfl) | (apply L.ends3; exact rfl; exact rfl; exact rfl) | (apply L.ends1A; exact rfl; exact rfl; exact rfl) | (apply L.ends2A; exact rfl; exact rfl; exact rfl))
          rw [step_bad hi hv1 hg]; rfl
        | true =>
          have hng : (!goodM ⟨1, 16777216 * (c0.toNat : Int) + 65536 * c1.toNat + 256 * c2.toNat + c3.toNat - 1073741824, []⟩) = false := by rw [hx, hg]; rfl
          (repeat' (first | (refine LW.is ?_; first | ((apply s_call0; exact rfl; rotate_left; exact rfl; rotate_left 3; exact isval_any ⟨1, 16777216 * (c0.toNat : Int) + 65536 * c1.toNat + 256 * c2.toNat + c3.toNat - 1073741824, []⟩ (by simp); exact rfl)) | (refine s_nil ?_) | (apply s_mvIv; exact rfl; exact rfl) | (apply s_mvRow; exact rfl; exact rfl) | (apply s_asIv; exact rfl; exact rfl) | (apply s_asRow; exact rfl; exact rfl) | (apply s_loadAP; exact rfl; exact rfl; exact rfl; (focus repeat' (first | exact nl_nil rfl | (apply nl_cons; exact rfl) | exact nIm rfl | exact nSl rfl | exact nIv rfl | exact nRow rfl | exact nNil rfl | exact nPtr rfl | exact nAny rfl | exact nIIm rfl | exact nISl rfl | exact rfl)); exact rfl) | (apply s_lenS; exact rfl; exact rfl) | (apply s_eqlI; exact rfl; exact rfl; exact rfl) | (apply s_lssI; exact rfl; exact rfl; exact rfl) | (apply s_geqI; exact rfl; exact rfl; exact rfl) | (apply s_not; exact rfl; exact rfl) | (apply s_alloc; exact rfl; exact rfl; (focus repeat' (first | exact nl_nil rfl | (apply nl_cons; exact rfl) | exact nIm rfl | exact nSl rfl | exact nIv rfl | exact nRow rfl | exact nNil rfl | exact nPtr rfl | exact nAny rfl | exact nIIm rfl | exact nISl rfl | exact rfl)); exact rfl; exact rfl) | (apply s_bslice; exact rfl; exact rfl; exact rfl; exact rfl; exact rfl; (apply n_some; exact rfl; (focus repeat' (first | exact nl_nil rfl | (apply nl_cons; exact rfl) | exact nIm rfl | exact nSl rfl | exact nIv rfl | exact nRow rfl | exact nNil rfl | exact nPtr rfl | exact nAny rfl | exact nIIm rfl | exact nISl rfl | exact rfl))); (apply n_some; exact rfl; (focus repeat' (first | exact nl_nil rfl | (apply nl_cons; exact rfl) | exact nIm rfl | exact nSl rfl | exact nIv rfl | exact nRow rfl | exact nNil rfl | exact nPtr rfl | exact nAny rfl | exact nIIm rfl | exact nISl rfl | exact rfl))); exact rfl; (focus repeat' (first | exact nl_nil rfl | (apply nl_cons; exact rfl) | exact nIm rfl | exact nSl rfl | exact nIv rfl | exact nRow rfl | exact nNil rfl | exact nPtr rfl | exact nAny rfl | exact nIIm rfl | exact nISl rfl | exact rfl)); exact rfl) | (apply s_addI; exact rfl; exact rfl; exact rfl; (first | omega | decide | (dsimp only; omega)); (first | omega | decide | (dsimp only; omega))) | (apply s_subI; exact rfl; exact rfl; exact rfl; (first | omega | decide | (dsimp only; omega)); (first | omega | decide | (dsimp only; omega))) | (apply s_indexS; exact rfl; exact rfl; exact rfl; (first | omega | decide | (dsimp only; omega)); (exact getS (by assumption))) | (apply s_append; exact rfl; exact rfl; exact rfl; exact rfl; (focus repeat' (first | exact len_nil | apply len_app | (refine len_map (fun x => rfl)) | (refine len_cons rfl ?_) | exact len_chunks rfl | assumption)); (focus repeat' (first | exact len_nil | apply len_app | (refine len_map (fun x => rfl)) | (refine len_cons rfl ?_) | exact len_chunks rfl | assumption)); (first | (simp [maxLen, chunks_length]; done) | (simp [maxLen, chunks_length]; omega)); (first | (simp [maxLen, chunks_length]; done) | (simp [maxLen, chunks_length]; omega)); exact rfl; exact rfl) | (apply s_gdo; exact rfl; exact rfl; (first | exact rfl | assumption)) | (apply s_pickTIv; exact rfl; exact rfl; (first | exact rfl | assumption); exact rfl)) | (refine DR.is ?_; first | ((apply d_addI; exact rfl; exact rfl; exact rfl; exact A1; exact A2)) | ((apply d_subI; exact rfl; exact rfl; exact rfl; exact A3; exact A4)) | ((apply d_indexS; exact rfl; exact rfl; exact rfl; omega; first | exact g0 | exact g1 | exact g2 | exact g3)) | (apply d_nil; kernel_rfl) | (apply d_mvIv; exact rfl; exact rfl) | (apply d_build; exact rfl; exact rfl; (apply n_some; exact rfl; (focus repeat' (first | exact nl_nil rfl | (apply nl_cons; exact rfl) | exact nIm rfl | exact nSl rfl | exact nIv rfl | exact nRow rfl | exact nNil rfl | exact nPtr rfl | exact nAny rfl | exact nIIm rfl | exact nISl rfl | exact rfl)))) | (apply d_store; exact rfl; exact rfl; exact rfl; exact rfl; exact rfl; exact rfl; (focus repeat' (first | exact nl_nil rfl | (apply nl_cons; exact rfl) | exact nIm rfl | exact nSl rfl | exact nIv rfl | exact nRow rfl | exact nNil rfl | exact nPtr rfl | exact nAny rfl | exact nIIm rfl | exact nISl rfl | exact rfl))) | (apply d_addI; exact rfl; exact rfl; exact rfl; (first | omega | decide | (dsimp only; omega)); (first | omega | decide | (dsimp only; omega))) | (apply d_convU8; exact rfl; exact rfl) | (apply d_mulI; exact rfl; exact rfl; exact rfl; (first | omega | decide | (dsimp only; omega)); (first | omega | decide | (dsimp only; omega)))) | (refine c_seq ?_) | (refine L.block ?_) | (refine s_region ?_) | (refine d_region ?_) | (refine L.thenN ?_) | (refine L.inN ?_) | (refine L.skip ?_) | (apply c_condT; exact rfl; (first | exact rfl | assumption)) | (apply c_condF; exact rfl; (first | exact rfl | assumption))))
          refine L.only [4, 5, 0] ?_
          refine L.retok 4 95 4 rfl rfl rfl rfl ?_
          refine hK _ (acc ++ [⟨1, x, []⟩], i + 5) ⟨by dsimp only; rw [ht5]; exact step_some hi hv1 hg, by simp <;> omega, by dsimp only; exact hs5⟩ (by simp <;> omega) (Wk.mk' (by intro id h; cases h) (.cons rfl (Sub.of_eq (congrArg (AV.row 4) ?_)) (.cons rfl (Sub.refl _) (.cons rfl (Sub.refl _) .nil))) .nil (.cons rfl .nil))
          simp [chunks, Val.c, ← hx]
    have n2 : b.toNat ≠ 2 := fun h => h2 (UInt8.toNat_inj.1 h)
    have q2 : ((b.toNat : Int) == 2) = false := by simp; omega
    by_cases h3 : b = 3
    · subst h3
      generalize hr0 : s.drop (i + 1) = r at *
      have hix : Lib.indexByte (3 :: r) 0 = if (upto0 r).length = r.length then -1 else ((upto0 r).length : Int) + 1 := by
        rw [idxB0]
        have e : upto0 (3 :: r) = 3 :: upto0 r := by simp [upto0]
        rw [e]; simp
      have hule := upto0_le r
      by_cases hu : (upto0 r).length = r.length
      · rw [if_pos hu] at hix
        have c1 := idx_any (3 :: r)
        rw [hix] at c1
        have hv1 : valOne (3 :: r) = none := by rw [valOne3, if_pos hu]
        (repeat' (first | (refine LW.is ?_; first | ((apply s_sliceSl; exact rfl; exact rfl; exact rfl; omega; omega; exact hdr)) | ((apply s_call0; exact rfl; rotate_left; exact rfl; rotate_left 3; exact c1; exact rfl)) | (refine s_nil ?_) | (apply s_mvIv; exact rfl; exact rfl) | (apply s_asIv; exact rfl; exact rfl) | (apply s_asNil; exact rfl; exact rfl) | (apply s_lenS; exact rfl; exact rfl) | (apply s_eqlI; exact rfl; exact rfl; exact rfl) | (apply s_lssI; exact rfl; exact rfl; exact rfl) | (apply s_gtrI; exact rfl; exact rfl; exact rfl) | (apply s_alloc; exact rfl; exact rfl; (focus repeat' (first | exact nl_nil rfl | (apply nl_cons; exact rfl) | exact nIm rfl | exact nSl rfl | exact nIv rfl | exact nRow rfl | exact nNil rfl | exact nPtr rfl | exact nAny rfl | exact nIIm rfl | exact nISl rfl | exact rfl)); exact rfl; exact rfl) | (apply s_indexS; exact rfl; exact rfl; exact rfl; (first | omega | decide | (dsimp only; omega)); (exact getS (by assumption))) | (apply s_gdo; exact rfl; exact rfl; (first | exact rfl | assumption)) | (apply s_gskipT; exact rfl; exact rfl; exact rfl; (first | exact rfl | assumption)) | (apply s_pickTIv; exact rfl; exact rfl; (first | exact rfl | assumption); exact rfl) | (apply s_pickFIv; exact rfl; exact rfl; (first | exact rfl | assumption); exact rfl)) | (refine c_seq ?_) | (refine L.block ?_) | (refine s_region ?_) | (refine L.thenN ?_) | (refine L.thenR ?_) | (refine L.inR ?_) | (refine L.ret ?_) | (refine L.skip ?_) | (apply c_condT; exact rfl; (first | exact rfl | assumption)) | (apply c_condF; exact rfl; (first | exact rfl | assumption))))
        all_goals (first | (apply L.ends1; exact rfl; exact rfl; exact rfl) | (apply L.ends2; exact rfl; exact rfl; exact rfl) | (apply L.ends3; exact rfl; exact rfl; exact rfl) | (apply L.ends1A; exact rfl; exact rfl; exact rfl) | (apply L.ends2A; exact rfl; exact rfl; exact rfl))
        rw [step_none hi hv1]; rfl
      · rw [if_neg hu] at hix
        have c1 := idx_any (3 :: r)
        rw [hix] at c1
        have hv1 : valOne (3 :: r) = some (⟨2, 0, upto0 r⟩, r.drop ((upto0 r).length + 1)) := by rw [valOne3, if_neg hu]
        have hp : decide ((0 : Int) < ((upto0 r).length : Int) + 1) = true := by simp <;> omega
        have hsl : (s.drop ((i : Int) + 1).toNat).take (((i : Int) + (((upto0 r).length : Int) + 1)).toNat - ((i : Int) + 1).toNat) = upto0 r := by
          rw [show ((i : Int) + 1).toNat = i + 1 by omega, hr0, show ((i : Int) + (((upto0 r).length : Int) + 1)).toNat - (i + 1) = (upto0 r).length by omega]
          exact upto0_take r
        have hdr2 : s.drop (i + ((upto0 r).length + 1 + 1)) = r.drop ((upto0 r).length + 1) := by
          rw [← hr0, List.drop_drop]; congr 1; omega
        have hlu : (upto0 r).length ≤ 140737488355328 := by omega
        cases hg : goodM ⟨2, 0, upto0 r⟩ with
        | false =>
          have hng : (!goodM ⟨2, 0, upto0 r⟩) = true := by rw [hg]; rfl
          (repeat' (first | (refine LW.is ?_; first | ((apply s_sliceSlh; exact rfl; exact rfl; exact rfl; exact rfl; omega; omega; omega; exact hsl)) | ((apply s_sliceSl; exact rfl; exact rfl; exact rfl; omega; omega; exact hdr)) | ((apply s_call0; exact rfl; rotate_left; exact rfl; rotate_left 3; exact c1; exact rfl)) | ((apply s_call0; exact rfl; rotate_left; exact rfl; rotate_left 3; exact isval_any ⟨2, 0, upto0 r⟩ hlu; exact rfl)) | (refine s_nil ?_) | (apply s_mvIv; exact rfl; exact rfl) | (apply s_asIv; exact rfl; exact rfl) | (apply s_asNil; exact rfl; exact rfl) | (apply s_loadAP; exact rfl; exact rfl; exact rfl; (focus repeat' (first | exact nl_nil rfl | (apply nl_cons; exact rfl) | exact nIm rfl | exact nSl rfl | exact nIv rfl | exact nRow rfl | exact nNil rfl | exact nPtr rfl | exact nAny rfl | exact nIIm rfl | exact nISl rfl | exact rfl)); exact rfl) | (apply s_lenS; exact rfl; exact rfl) | (apply s_eqlI; exact rfl; exact rfl; exact rfl) | (apply s_lssI; exact rfl; exact rfl; exact rfl) | (apply s_gtrI; exact rfl; exact rfl; exact rfl) | (apply s_not; exact rfl; exact rfl) | (apply s_alloc; exact rfl; exact rfl; (focus repeat' (first | exact nl_nil rfl | (apply nl_cons; exact rfl) | exact nIm rfl | exact nSl rfl | exact nIv rfl | exact nRow rfl | exact nNil rfl | exact nPtr rfl | exact nAny rfl | exact nIIm rfl | exact nISl rfl | exact rfl)); exact rfl; exact rfl) | (apply s_build; exact rfl; exact rfl; (apply n_some; exact rfl; (focus repeat' (first | exact nl_nil rfl | (apply nl_cons; exact rfl) | exact nIm rfl | exact nSl rfl | exact nIv rfl | exact nRow rfl | exact nNil rfl | exact nPtr rfl | exact nAny rfl | exact nIIm rfl | exact nISl rfl | exact rfl)))) | (apply s_store; exact rfl; exact rfl; exact rfl; exact rfl; exact rfl; exact rfl; (focus repeat' (first | exact nl_nil rfl | (apply nl_cons; exact rfl) | exact nIm rfl | exact nSl rfl | exact nIv rfl | exact nRow rfl | exact nNil rfl | exact nPtr rfl | exact nAny rfl | exact nIIm rfl | exact nISl rfl | exact rfl))) | (apply s_addI; exact rfl; exact rfl; exact rfl; (first | omega | decide | (dsimp only; omega)); (first | omega | decide | (dsimp only; omega))) | (apply s_indexS; exact rfl; exact rfl; exact rfl; (first | omega | decide | (dsimp only; omega)); (exact getS (by assumption))) | (apply s_gdo; exact rfl; exact rfl; (first | exact rfl | assumption)) | (apply s_gskipT; exact rfl; exact rfl; exact rfl; (first | exact rfl | assumption)) | (apply s_pickTIv; exact rfl; exact rfl; (first | exact rfl | assumption); exact rfl) | (apply s_pickFIv; exact rfl; exact rfl; (first | exact rfl | assumption); exact rfl)) | (refine c_seq ?_) | (refine L.block ?_) | (refine s_region ?_) | (refine L.thenN ?_) | (refine L.thenR ?_) | (refine L.inN ?_) | (refine L.inR ?_) | (refine L.ret ?_) | (refine L.skip ?_) | (apply c_condT; exact rfl; (first | exact rfl | assumption)) | (apply c_condF; exact rfl; (first | exact rfl | assumption))))
          all_goals (first | (apply L.ends1; exact rfl; exact rfl; exact rfl) | (apply L.ends2; exact rfl; exact rfl; exact rfl) | (apply L.ends3; exact rfl; exact rfl; exact rfl) | (apply L.ends1A; exact rfl; exact rfl; exact rfl) | (apply L.ends2A; exact rfl; exact rfl; exact rfl))
          rw [step_bad hi hv1 hg]; rfl
        | true =>
          have hng : (!goodM ⟨2, 0, upto0 r⟩) = false := by rw [hg]; rfl
          (repeat' (first | (refine LW.is ?_; first | ((apply s_sliceSlh; exact rfl; exact rfl; exact rfl; exact rfl; omega; omega; omega; exact hsl)) | ((apply s_sliceSl; exact rfl; exact rfl; exact rfl; omega; omega; exact hdr)) | ((apply s_call0; exact rfl; rotate_left; exact rfl; rotate_left 3; exact c1; exact rfl)) | ((apply s_call0; exact rfl; rotate_left; exact rfl; rotate_left 3; exact isval_any ⟨2, 0, upto0 r⟩ hlu; exact rfl)) | (refine s_nil ?_) | (apply s_mvIv; exact rfl; exact rfl) | (apply s_mvRow; exact rfl; exact rfl) | (apply s_asIv; exact rfl; exact rfl) | (apply s_asRow; exact rfl; exact rfl) | (apply s_loadAP; exact rfl; exact rfl; exact rfl; (focus repeat' (first | exact nl_nil rfl | (apply nl_cons; exact rfl) | exact nIm rfl | exact nSl rfl | exact nIv rfl | exact nRow rfl | exact nNil rfl | exact nPtr rfl | exact nAny rfl | exact nIIm rfl | exact nISl rfl | exact rfl)); exact rfl) | (apply s_lenS; exact rfl; exact rfl) | (apply s_eqlI; exact rfl; exact rfl; exact rfl) | (apply s_lssI; exact rfl; exact rfl; exact rfl) | (apply s_gtrI; exact rfl; exact rfl; exact rfl) | (apply s_not; exact rfl; exact rfl) | (apply s_alloc; exact rfl; exact rfl; (focus repeat' (first | exact nl_nil rfl | (apply nl_cons; exact rfl) | exact nIm rfl | exact nSl rfl | exact nIv rfl | exact nRow rfl | exact nNil rfl | exact nPtr rfl | exact nAny rfl | exact nIIm rfl | exact nISl rfl | exact rfl)); exact rfl; exact rfl) | (apply s_build; exact rfl; exact rfl; (apply n_some; exact rfl; (focus repeat' (first | exact nl_nil rfl | (apply nl_cons; exact rfl) | exact nIm rfl | exact nSl rfl | exact nIv rfl | exact nRow rfl | exact nNil rfl | exact nPtr rfl | exact nAny rfl | exact nIIm rfl | exact nISl rfl | exact rfl)))) | (apply s_bslice; exact rfl; exact rfl; exact rfl; exact rfl; exact rfl; (apply n_some; exact rfl; (focus repeat' (first | exact nl_nil rfl | (apply nl_cons; exact rfl) | exact nIm rfl | exact nSl rfl | exact nIv rfl | exact nRow rfl | exact nNil rfl | exact nPtr rfl | exact nAny rfl | exact nIIm rfl | exact nISl rfl | exact rfl))); (apply n_some; exact rfl; (focus repeat' (first | exact nl_nil rfl | (apply nl_cons; exact rfl) | exact nIm rfl | exact nSl rfl | exact nIv rfl | exact nRow rfl | exact nNil rfl | exact nPtr rfl | exact nAny rfl | exact nIIm rfl | exact nISl rfl | exact rfl))); exact rfl; (focus repeat' (first | exact nl_nil rfl | (apply nl_cons; exact rfl) | exact nIm rfl | exact nSl rfl | exact nIv rfl | exact nRow rfl | exact nNil rfl | exact nPtr rfl | exact nAny rfl | exact nIIm rfl | exact nISl rfl | exact rfl)); exact rfl) | (apply s_store; exact rfl; exact rfl; exact rfl; exact rfl; exact rfl; exact rfl; (focus repeat' (first | exact nl_nil rfl | (apply nl_cons; exact rfl) | exact nIm rfl | exact nSl rfl | exact nIv rfl | exact nRow rfl | exact nNil rfl | exact nPtr rfl | exact nAny rfl | exact nIIm rfl | exact nISl rfl | exact rfl))) | (apply s_addI; exact rfl; exact rfl; exact rfl; (first | omega | decide | (dsimp only; omega)); (first | omega | decide | (dsimp only; omega))) | (apply s_indexS; exact rfl; exact rfl; exact rfl; (first | omega | decide | (dsimp only; omega)); (exact getS (by assumption))) | (apply s_append; exact rfl; exact rfl; exact rfl; exact rfl; (focus repeat' (first | exact len_nil | apply len_app | (refine len_map (fun x => rfl)) | (refine len_cons rfl ?_) | exact len_chunks rfl | assumption)); (focus repeat' (first | exact len_nil | apply len_app | (refine len_map (fun x => rfl)) | (refine len_cons rfl ?_) | exact len_chunks rfl | assumption)); (first | (simp [maxLen, chunks_length]; done) | (simp [maxLen, chunks_length]; omega)); (first | (simp [maxLen, chunks_length]; done) | (simp [maxLen, chunks_length]; omega)); exact rfl; exact rfl) | (apply s_gdo; exact rfl; exact rfl; (first | exact rfl | assumption)) | (apply s_gskipT; exact rfl; exact rfl; exact rfl; (first | exact rfl | assumption)) | (apply s_pickTIv; exact rfl; exact rfl; (first | exact rfl | assumption); exact rfl) | (apply s_pickFIv; exact rfl; exact rfl; (first | exact rfl | assumption); exact rfl)) | (refine c_seq ?_) | (refine L.block ?_) | (refine s_region ?_) | (refine L.thenN ?_) | (refine L.inN ?_) | (refine L.skip ?_) | (apply c_condT; exact rfl; (first | exact rfl | assumption)) | (apply c_condF; exact rfl; (first | exact rfl | assumption))))
          refine L.only [4, 5, 0] ?_
          refine L.retok 4 95 4 rfl rfl rfl rfl ?_
          refine hK _ (acc ++ [⟨2, 0, upto0 r⟩], i + ((upto0 r).length + 1 + 1)) ⟨by dsimp only; rw [hdr2]; exact step_some hi hv1 hg, by simp <;> omega, by simp <;> omega⟩ (by simp <;> omega) (Wk.mk' (by intro id h; cases h) (.cons rfl (Sub.of_eq (congrArg (AV.row 4) ?_)) (.cons rfl (Sub.of_eq (congrArg (fun z => aI z) ?_)) (.cons rfl (Sub.refl _) .nil))) .nil (.cons rfl .nil))
          · simp [chunks, Val.c]
          · simp
    · have n3 : b.toNat ≠ 3 := fun h => h3 (UInt8.toNat_inj.1 h)
      have q3 : ((b.toNat : Int) == 3) = false := by simp; omega
      have hv1 : valOne (b :: s.drop (i + 1)) = none := by simp [valOne, n1, n2, n3]
      (repeat' (first | (refine LW.is ?_; first | (refine s_nil ?_) | (apply s_mvIv; exact rfl; exact rfl) | (apply s_asIv; exact rfl; exact rfl) | (apply s_asNil; exact rfl; exact rfl) | (apply s_lenS; exact rfl; exact rfl) | (apply s_eqlI; exact rfl; exact rfl; exact rfl) | (apply s_lssI; exact rfl; exact rfl; exact rfl) | (apply s_alloc; exact rfl; exact rfl; (focus repeat' (first | exact nl_nil rfl | (apply nl_cons; exact rfl) | exact nIm rfl | exact nSl rfl | exact nIv rfl | exact nRow rfl | exact nNil rfl | exact nPtr rfl | exact nAny rfl | exact nIIm rfl | exact nISl rfl | exact rfl)); exact rfl; exact rfl) | (apply s_indexS; exact rfl; exact rfl; exact rfl; (first | omega | decide | (dsimp only; omega)); (exact getS (by assumption))) | (apply s_gskipT; exact rfl; exact rfl; exact rfl; (first | exact rfl | assumption)) | (apply s_pickFIv; exact rfl; exact rfl; (first | exact rfl | assumption); exact rfl)) | (refine c_seq ?_) | (refine L.block ?_) | (refine s_region ?_) | (refine L.thenN ?_) | (refine L.thenR ?_) | (refine L.inR ?_) | (refine L.ret ?_) | (refine L.skip ?_) | (apply c_condT; exact rfl; (first | exact rfl | assumption)) | (apply c_condF; exact rfl; (first | exact rfl | assumption))))
      all_goals (first | (apply L.ends1; exact rfl; exact rfl; exact rfl) | (apply L.ends2; exact rfl; exact rfl; exact rfl) | (apply L.ends3; exact rfl; exact rfl; exact rfl) | (apply L.ends1A; exact rfl; exact rfl; exact rfl) | (apply L.ends2A; exact rfl; exact rfl; exact rfl))
      rw [step_none hi hv1]; rfl

theorem same_of_any (a b : List Val) (hlen : a.length ≤ 140737488355328) : CallA Try.prog 18 [.iv (.sl (a.map Val.c)), .iv (.sl (b.map Val.c))] [] [] [] (aB (sameM a b)) := by
  refine CallA.intro _ Try.func18 rfl Try.ntmps18 rfl (fun w0 E0 => ?_)
  by_cases hl : a.length = b.length
  · have hne : (((a.map Val.c).length : Int) != ((b.map Val.c).length : Int)) = false := by simp [hl]
    (repeat' (first | (refine LW.is ?_; first | (refine s_nil ?_) | (apply s_mvIv; exact rfl; exact rfl) | (apply s_asIv; exact rfl; exact rfl) | (apply s_lenSl; exact rfl; exact rfl) | (apply s_neqI; exact rfl; exact rfl; exact rfl)) | (refine c_seq ?_) | (refine L.block ?_) | (refine s_region ?_) | (refine L.thenN ?_) | (refine L.skip ?_) | (apply c_condF; exact rfl; (first | exact rfl | assumption))))
    refine L.loopP (ι := Nat) (fun i => ⟨[(13, aI (i : Int)), (12, aI ((a.map Val.c).length : Int)), (0, .iv (.sl (a.map Val.c))), (1, .iv (.sl (b.map Val.c)))], [], []⟩) (fun i => a.length - i) (fun i => sameM a b = sameM (a.drop i) (b.drop i)) (i0 := 0) ?_ rfl ?_
    · (refine Wk.mk' (by intro id h; cases h) ?_ ?_ ?_ <;> repeat' (first | exact WkF.nil | exact WkB.nil | exact WkT.nil | (refine WkF.cons rfl (Sub.refl _) ?_) | (refine WkB.cons rfl rfl (Subs.refl _) ?_) | (refine WkT.cons rfl ?_)))
    intro i hi K hK
    cases hv : a[i]? with
    | none =>
      have hlt := ltF (l := a.map Val.c) (getFN hv)
      have hv' : b[i]? = none := by rw [List.getElem?_eq_none_iff] at hv ⊢; omega
      (repeat' (first | (refine LW.is ?_; first | (refine s_nil ?_) | (apply s_asIv; exact rfl; exact rfl) | (apply s_lssI; exact rfl; exact rfl; exact rfl)) | (refine c_seq ?_) | (refine s_region ?_) | (refine L.thenN ?_) | (refine L.thenE ?_) | (refine L.inE ?_) | (refine L.ret ?_) | (refine L.exit ?_) | (apply c_condF; exact rfl; (first | exact rfl | assumption))))
      all_goals (first | (apply L.ends1; exact rfl; exact rfl; exact rfl) | (apply L.ends2; exact rfl; exact rfl; exact rfl) | (apply L.ends3; exact rfl; exact rfl; exact rfl) | (apply L.ends1A; exact rfl; exact rfl; exact rfl) | (apply L.ends2A; exact rfl; exact rfl; exact rfl))
      rw [hi, dropN hv, dropN hv']; rfl
    | some v =>
      have hlt := ltT (l := a.map Val.c) (getF hv)
      have hlt' := ltN hv
      obtain ⟨w, hw⟩ : ∃ w, b[i]? = some w := ⟨_, List.getElem?_eq_getElem (by omega)⟩
      rw [dropC hv, dropC hw] at hi
      cases hq : veq v w with
      | false =>
        have hq' : (!veq v w) = true := by rw [hq]; rfl
        (repeat' (first | (refine LW.is ?_; first | (refine s_nil ?_) | (apply s_mvIv; exact rfl; exact rfl) | (apply s_asIv; exact rfl; exact rfl) | (apply s_lssI; exact rfl; exact rfl; exact rfl)) | (refine DR.is ?_; first | (apply d_nil; kernel_rfl) | (apply d_mvIv; exact rfl; exact rfl) | (apply d_loadAE; exact rfl; exact rfl; (focus repeat' (first | exact nl_nil rfl | (apply nl_cons; exact rfl) | exact nIm rfl | exact nSl rfl | exact nIv rfl | exact nRow rfl | exact nNil rfl | exact nPtr rfl | exact nAny rfl | exact nIIm rfl | exact nISl rfl | exact rfl)); exact rfl) | (apply d_neqAgg; exact rfl; exact rfl; exact rfl; exact rfl; exact rfl) | (apply d_indexA; exact rfl; exact rfl; exact rfl; (first | omega | decide | (dsimp only; omega)); (exact getM (by assumption)); exact rfl)) | (refine c_seq ?_) | (refine L.block ?_) | (refine s_region ?_) | (refine d_region ?_) | (refine L.thenN ?_) | (refine L.thenR ?_) | (refine L.inR ?_) | (refine L.ret ?_) | (refine L.skip ?_) | (apply c_condT; exact rfl; (first | exact rfl | assumption))))
        all_goals (first | (apply L.ends1; exact rfl; exact rfl; exact rfl) | (apply L.ends2; exact rfl; exact rfl; exact rfl) | (apply L.ends3; exact rfl; exact rfl; exact rfl) | (apply L.ends1A; exact rfl; exact rfl; exact rfl) | (apply L.ends2A; exact rfl; exact rfl; exact rfl))
        rw [hi]; simp [sameM, hq]
      | true =>
        have hq' : (!veq v w) = false := by rw [hq]; rfl
        (repeat' (first | (refine LW.is ?_; first | (refine s_nil ?_) | (apply s_mvIv; exact rfl; exact rfl) | (apply s_asIv; exact rfl; exact rfl) | (apply s_lssI; exact rfl; exact rfl; exact rfl) | (apply s_addI; exact rfl; exact rfl; exact rfl; (first | omega | decide | (dsimp only; omega)); (first | omega | decide | (dsimp only; omega)))) | (refine DR.is ?_; first | (apply d_nil; kernel_rfl) | (apply d_mvIv; exact rfl; exact rfl) | (apply d_loadAE; exact rfl; exact rfl; (focus repeat' (first | exact nl_nil rfl | (apply nl_cons; exact rfl) | exact nIm rfl | exact nSl rfl | exact nIv rfl | exact nRow rfl | exact nNil rfl | exact nPtr rfl | exact nAny rfl | exact nIIm rfl | exact nISl rfl | exact rfl)); exact rfl) | (apply d_neqAgg; exact rfl; exact rfl; exact rfl; exact rfl; exact rfl) | (apply d_indexA; exact rfl; exact rfl; exact rfl; (first | omega | decide | (dsimp only; omega)); (exact getM (by assumption)); exact rfl)) | (refine c_seq ?_) | (refine L.block ?_) | (refine s_region ?_) | (refine d_region ?_) | (refine L.thenN ?_) | (refine L.inN ?_) | (refine L.skip ?_) | (apply c_condT; exact rfl; (first | exact rfl | assumption)) | (apply c_condF; exact rfl; (first | exact rfl | assumption))))
        refine hK _ (i + 1) (by rw [hi]; simp [sameM, hq]) (by omega) ?_
        (refine Wk.mk' (by intro id h; cases h) ?_ ?_ ?_ <;> repeat' (first | exact WkF.nil | exact WkB.nil | exact WkT.nil | (refine WkF.cons rfl (Sub.refl _) ?_) | (refine WkB.cons rfl rfl (Subs.refl _) ?_) | (refine WkT.cons rfl ?_)))
  · have hne : (((a.map Val.c).length : Int) != ((b.map Val.c).length : Int)) = true := by simp; omega
    (repeat' (first | (refine LW.is ?_; first | (refine s_nil ?_) | (apply s_mvIv; exact rfl; exact rfl) | (apply s_asIv; exact rfl; exact rfl) | (apply s_lenSl; exact rfl; exact rfl) | (apply s_neqI; exact rfl; exact rfl; exact rfl)) | (refine c_seq ?_) | (refine s_region ?_) | (refine L.thenN ?_) | (refine L.thenR ?_) | (refine L.ret ?_) | (apply c_condT; exact rfl; (first | exact rfl | assumption))))
    all_goals (first | (apply L.ends1; exact rfl; exact rfl; exact rfl) | (apply L.ends2; exact rfl; exact rfl; exact rfl) | (apply L.ends3; exact rfl; exact rfl; exact rfl) | (apply L.ends1A; exact rfl; exact rfl; exact rfl) | (apply L.ends2A; exact rfl; exact rfl; exact rfl))
    rw [sameM_len hl]

set_option maxRecDepth 100000 in
theorem law_values : CallA Try.prog 19 [] [] [] [] (aB true) := by
  have e1 : (keyM [⟨1, 1, []⟩, ⟨0, 0, []⟩]) = ([2, 64, 0, 0, 1, 1], 0) := by
    simp [keyM, goodM, keyOne, be4, u8, IntKind.wrap_u8]
  have e2 : valsR [2, 64, 0, 0, 1, 1] = ([⟨1, 1, []⟩, ⟨0, 0, []⟩], 0) := by
    have h1 : valsM [1] = some [⟨0, 0, []⟩] := by
      rw [valsM_some (v := ⟨0, 0, []⟩) (r := []) rfl, valsM_nil]; rfl
    have h2 : valsM [2, 64, 0, 0, 1, 1] = some [⟨1, 1, []⟩, ⟨0, 0, []⟩] := by
      rw [valsM_some (v := ⟨1, 1, []⟩) (r := [1]) (by simp [valOne, dec4]), h1]; rfl
    simp [valsR, h2]
  have k1 := key_any [⟨1, 1, []⟩, ⟨0, 0, []⟩] (by decide)
  rw [e1] at k1
  have k2 := vals_any [2, 64, 0, 0, 1, 1] (by decide)
  rw [e2] at k2
  have k3 := and_any 1 2
  refine CallA.intro _ Try.func19 rfl Try.ntmps19 rfl (fun w0 E0 => ?_)
  (repeat' (first | (refine LW.is ?_; first | ((apply s_call0; exact rfl; exact k1; exact rfl; exact rfl)) | ((apply s_call0; exact rfl; exact k2; exact rfl; exact rfl)) | ((apply s_call0; exact rfl; exact k3; exact rfl; exact rfl)) | (refine s_nil ?_) | (apply s_mvIv; exact rfl; exact rfl) | (apply s_mvTup; exact rfl; exact rfl) | (apply s_asIv; exact rfl; exact rfl) | (apply s_lenSl; exact rfl; exact rfl) | (apply s_eqlI; exact rfl; exact rfl; exact rfl) | (apply s_eqlS; exact rfl; exact rfl; exact rfl) | (apply s_extract; exact rfl; exact rfl; (apply n_some; exact rfl; (first | exact nIm rfl | exact nSl rfl | exact nIv rfl | exact nRow rfl | exact nNil rfl | exact nPtr rfl | exact nAny rfl | exact rfl))) | (apply s_build; exact rfl; exact rfl; (apply n_some; exact rfl; (focus repeat' (first | exact nl_nil rfl | (apply nl_cons; exact rfl) | exact nIm rfl | exact nSl rfl | exact nIv rfl | exact nRow rfl | exact nNil rfl | exact nPtr rfl | exact nAny rfl | exact nIIm rfl | exact nISl rfl | exact rfl)))) | (apply s_bslice; exact rfl; exact rfl; exact rfl; exact rfl; exact rfl; (apply n_some; exact rfl; (focus repeat' (first | exact nl_nil rfl | (apply nl_cons; exact rfl) | exact nIm rfl | exact nSl rfl | exact nIv rfl | exact nRow rfl | exact nNil rfl | exact nPtr rfl | exact nAny rfl | exact nIIm rfl | exact nISl rfl | exact rfl))); (apply n_some; exact rfl; (focus repeat' (first | exact nl_nil rfl | (apply nl_cons; exact rfl) | exact nIm rfl | exact nSl rfl | exact nIv rfl | exact nRow rfl | exact nNil rfl | exact nPtr rfl | exact nAny rfl | exact nIIm rfl | exact nISl rfl | exact rfl))); exact rfl; (focus repeat' (first | exact nl_nil rfl | (apply nl_cons; exact rfl) | exact nIm rfl | exact nSl rfl | exact nIv rfl | exact nRow rfl | exact nNil rfl | exact nPtr rfl | exact nAny rfl | exact nIIm rfl | exact nISl rfl | exact rfl)); exact rfl) | (apply s_gdo; exact rfl; exact rfl; (first | exact rfl | assumption)) | (apply s_pickTIv; exact rfl; exact rfl; (first | exact rfl | assumption); exact rfl)) | (refine c_seq ?_) | (refine s_region ?_) | (refine L.thenN ?_) | (refine L.ret ?_)))
  all_goals (first | (apply L.ends1; exact rfl; exact rfl; exact rfl) | (apply L.ends2; exact rfl; exact rfl; exact rfl) | (apply L.ends3; exact rfl; exact rfl; exact rfl) | (apply L.ends1A; exact rfl; exact rfl; exact rfl) | (apply L.ends2A; exact rfl; exact rfl; exact rfl))
  all_goals rfl

theorem keys_any (l : List Val) (s : List UInt8) (hl : l.length ≤ 1048576) (hs : s.length ≤ 1048576) (hv : ∀ v ∈ l, v.s.length ≤ 140737488355328) : CallA Try.prog 5 [.iv (.sl (l.map Val.c)), aS s] [] [] [] (aB true) := by
  have c1 := key_any l (by omega)
  have c2 := key_of_any l (by omega) hv
  have c3 := vals_any s (by omega)
  have c4 := vals_of_any s (by omega)
  have c5 := same_of_any (valsR s).1 (valsR s).1 (by have := valsR_length s; omega)
  rw [sameM_refl] at c5
  refine CallA.intro _ Try.func5 rfl Try.ntmps5 rfl (fun w0 E0 => ?_)
  generalize keyM l = kl at *
  generalize valsR s = ws at *
  have b1 : (kl.1 == kl.1) = true := by simp
  have b2 : (kl.2 == kl.2) = true := by simp
  have b3 : (ws.2 == ws.2) = true := by simp
  (repeat' (first | (refine LW.is ?_; first | ((apply s_call0; exact rfl; exact law_values; exact rfl; exact rfl)) | ((apply s_call0; exact rfl; rotate_left; exact rfl; rotate_left 3; exact c1; exact rfl)) | ((apply s_call0; exact rfl; rotate_left; exact rfl; rotate_left 3; exact c2; exact rfl)) | ((apply s_call0; exact rfl; rotate_left; exact rfl; rotate_left 3; exact c3; exact rfl)) | ((apply s_call0; exact rfl; rotate_left; exact rfl; rotate_left 3; exact c4; exact rfl)) | ((apply s_call0; exact rfl; rotate_left; exact rfl; rotate_left 3; exact c5; exact rfl)) | (refine s_nil ?_) | (apply s_mvIv; exact rfl; exact rfl) | (apply s_mvTup; exact rfl; exact rfl) | (apply s_asIv; exact rfl; exact rfl) | (apply s_eqlI; exact rfl; exact rfl; exact rfl) | (apply s_eqlS; exact rfl; exact rfl; exact rfl) | (apply s_extract; exact rfl; exact rfl; (apply n_some; exact rfl; (first | exact nIm rfl | exact nSl rfl | exact nIv rfl | exact nRow rfl | exact nNil rfl | exact nPtr rfl | exact nAny rfl | exact rfl))) | (apply s_appendNil; exact rfl; exact rfl; exact rfl; (focus repeat' (first | exact len_nil | apply len_app | (refine len_map (fun x => rfl)) | (refine len_cons rfl ?_) | exact len_chunks rfl | assumption)); (first | (simp [maxLen, chunks_length]; done) | (simp [maxLen, chunks_length]; omega)); (first | (simp [maxLen, chunks_length]; done) | (simp [maxLen, chunks_length]; omega)); exact rfl) | (apply s_gdo; exact rfl; exact rfl; (first | exact rfl | assumption)) | (apply s_pickTIv; exact rfl; exact rfl; (first | exact rfl | assumption); exact rfl)) | (refine c_seq ?_) | (refine s_region ?_) | (refine L.thenN ?_) | (refine L.ret ?_)))
  all_goals (first | (apply L.ends1; exact rfl; exact rfl; exact rfl) | (apply L.ends2; exact rfl; exact rfl; exact rfl) | (apply L.ends3; exact rfl; exact rfl; exact rfl) | (apply L.ends1A; exact rfl; exact rfl; exact rfl) | (apply L.ends2A; exact rfl; exact rfl; exact rfl))
  all_goals rfl
end Go.Proofs.Ytanlhpdjgelehaa
