/- Values: what Good computes. Conditions: none. -/
import Derived.Test.YtanlhpdjgelehaaDoorV1
namespace Go.Proofs.YtanlhpdjgelehaaDoor
open Go.Abs
attribute [local irreducible] L Code.wp bodyPost Exit.then Exit.inBlock
set_option linter.unusedVariables false
set_option linter.unusedSimpArgs false

structure Val where
  k : Int
  n : Int
  s : List UInt8
def Val.c (v : Val) : List IV := [I v.k, I v.n, S v.s]
def charOk (b : UInt8) : Bool := 32 ≤ b.toNat && b.toNat ≤ 126 && b.toNat != 39
def goodM (v : Val) : Bool :=
  if v.k = 0 then v.n == 0 && v.s == []
  else if v.k = 1 then v.s == [] && (-1000000 ≤ v.n && v.n ≤ 1000000)
  else if v.k = 2 then v.n == 0 && (v.s.length ≤ 8 && v.s.all charOk)
  else false

theorem good_any (v : Val) : CallA Tryd.prog 5 [.agg (v.c.map .iv)] [] [] [] (aB (goodM v)) := by
  obtain ⟨k, n, s⟩ := v
  refine CallA.intro 63 Tryd.func5 rfl rfl rfl (fun w0 E0 => ?_)
  (repeat' (first | (refine LW.is ?_; first | (refine s_nil ?_) | (apply s_mvIv; exact rfl; exact rfl) | (apply s_asIv; exact rfl; exact rfl) | (apply s_fieldP; exact rfl; exact rfl; exact rfl) | (apply s_load1P; exact rfl; exact rfl; exact rfl; (apply n_some; exact rfl; (first | exact nIm rfl | exact nSl rfl | exact nIv rfl | exact nRow rfl | exact nNil rfl | exact nPtr rfl | exact nAny rfl | exact rfl))) | (apply s_loadAP; exact rfl; exact rfl; exact rfl; (focus repeat' (first | exact nl_nil rfl | (apply nl_cons; exact rfl) | exact nIm rfl | exact nSl rfl | exact nIv rfl | exact nRow rfl | exact nNil rfl | exact nPtr rfl | exact nAny rfl | exact nIIm rfl | exact nISl rfl | exact rfl)); exact rfl) | (apply s_lenS; exact rfl; exact rfl) | (apply s_eqlI; exact rfl; exact rfl; exact rfl) | (apply s_neqI; exact rfl; exact rfl; exact rfl) | (apply s_leqI; exact rfl; exact rfl; exact rfl) | (apply s_gtrI; exact rfl; exact rfl; exact rfl) | (apply s_geqI; exact rfl; exact rfl; exact rfl) | (apply s_eqlS; exact rfl; exact rfl; exact rfl) | (apply s_box; exact rfl; exact rfl; exact rfl; (focus repeat' (first | exact nl_nil rfl | (apply nl_cons; exact rfl) | exact nIm rfl | exact nSl rfl | exact nIv rfl | exact nRow rfl | exact nNil rfl | exact nPtr rfl | exact nAny rfl | exact nIIm rfl | exact nISl rfl | exact rfl)); exact rfl; exact rfl) | (apply s_build; exact rfl; exact rfl; (apply n_some; exact rfl; (focus repeat' (first | exact nl_nil rfl | (apply nl_cons; exact rfl) | exact nIm rfl | exact nSl rfl | exact nIv rfl | exact nRow rfl | exact nNil rfl | exact nPtr rfl | exact nAny rfl | exact nIIm rfl | exact nISl rfl | exact rfl)))) | (apply s_eqlAgg; exact rfl; exact rfl; exact rfl; exact rfl; exact rfl) | (apply s_gdo; exact rfl; exact rfl; (first | exact rfl | assumption)) | (apply s_gskipT; exact rfl; exact rfl; exact rfl; (first | exact rfl | assumption)) | (apply s_gskipF; exact rfl; exact rfl; exact rfl; (first | exact rfl | assumption)) | (apply s_pickTIv; exact rfl; exact rfl; (first | exact rfl | assumption); exact rfl) | (apply s_pickFIv; exact rfl; exact rfl; (first | exact rfl | assumption); exact rfl) | (refine s_gsplit rfl rfl rfl (fun hb => ?_) (fun hb => ?_) <;> (have hp := hb; try simp only [decide_eq_true_eq, decide_eq_false_iff_not, beq_iff_eq, beq_eq_false_iff_ne, bne_iff_ne, bne_eq_false_iff_eq, ne_eq, Bool.not_eq_true, Bool.not_eq_false, Bool.not_eq_eq_eq_not, Bool.not_true, Bool.not_false, Bool.or_eq_true, Bool.or_eq_false_iff, Bool.and_eq_true, Bool.and_eq_false_iff, Int.not_lt, Int.not_le] at hp))) | (refine c_seq ?_) | (refine L.block ?_) | (refine s_region ?_) | (refine L.thenN ?_) | (refine L.thenR ?_) | (refine L.inN ?_) | (refine L.inR ?_) | (refine L.ret ?_) | (refine L.skip ?_) | (apply c_condT; exact rfl; (first | exact rfl | assumption)) | (refine L.cond rfl (fun hb => ?_) (fun hb => ?_) <;> (have hp := hb; try simp only [decide_eq_true_eq, decide_eq_false_iff_not, beq_iff_eq, beq_eq_false_iff_ne, bne_iff_ne, bne_eq_false_iff_eq, ne_eq, Bool.not_eq_true, Bool.not_eq_false, Bool.not_eq_eq_eq_not, Bool.not_true, Bool.not_false, Bool.or_eq_true, Bool.or_eq_false_iff, Bool.and_eq_true, Bool.and_eq_false_iff, Int.not_lt, Int.not_le] at hp))))
  all_goals try (first | (apply L.ends1; exact rfl; exact rfl; exact rfl) | (apply L.ends2; exact rfl; exact rfl; exact rfl) | (apply L.ends3; exact rfl; exact rfl; exact rfl) | (apply L.ends1A; exact rfl; exact rfl; exact rfl) | (apply L.ends2A; exact rfl; exact rfl; exact rfl))
  all_goals try (simp [goodM, *]; done)
  all_goals try (simp [goodM, *]; intros; omega)
  rename_i hk0 hk0' hk1 hk1' hk2 hk2' hn hn'

  subst hk2'; subst hn'
  have hg : goodM ⟨2, 0, s⟩ = s.all charOk := by simp [goodM]; omega
  rw [hg]
  refine L.loopP (ι := Nat) (fun i => ⟨[(40, aI (i : Int)), (39, aI (s.length : Int)), (1, .ptr 1 0)], [(1, ⟨23, [.iv (I 2), .iv (I 0), .iv (S s)]⟩)], []⟩) (fun i => s.length - i) (fun i => s.all charOk = (s.drop i).all charOk) (i0 := 0) ?_ rfl ?_
  · (refine Wk.mk' (by intro id h; cases h) ?_ ?_ ?_ <;> repeat' (first | exact WkF.nil | exact WkB.nil | exact WkT.nil | (refine WkF.cons rfl (Sub.refl _) ?_) | (refine WkB.cons rfl rfl (Subs.refl _) ?_) | (refine WkT.cons rfl ?_)))
  intro i hi K hK
  cases hv : s[i]? with
  | none =>
    have hlt := ltF hv
    (repeat' (first | (refine LW.is ?_; first | (refine s_nil ?_) | (apply s_asIv; exact rfl; exact rfl) | (apply s_lssI; exact rfl; exact rfl; exact rfl)) | (refine c_seq ?_) | (refine s_region ?_) | (refine L.thenN ?_) | (refine L.thenE ?_) | (refine L.thenR ?_) | (refine L.inR ?_) | (refine L.inE ?_) | (refine L.ret ?_) | (refine L.exit ?_) | (apply c_condF; exact rfl; (first | exact rfl | assumption))))
    all_goals (first | (apply L.ends1; exact rfl; exact rfl; exact rfl) | (apply L.ends2; exact rfl; exact rfl; exact rfl) | (apply L.ends3; exact rfl; exact rfl; exact rfl) | (apply L.ends1A; exact rfl; exact rfl; exact rfl) | (apply L.ends2A; exact rfl; exact rfl; exact rfl))
    rw [hi, dropN hv]; rfl
  | some b =>
    have hlt := ltT hv
    have hlt' := ltN hv
    rw [dropC hv, List.all_cons] at hi
    (repeat' (first | (refine LW.is ?_; first | (refine s_nil ?_) | (apply s_mvIv; exact rfl; exact rfl) | (apply s_asIv; exact rfl; exact rfl) | (apply s_fieldP; exact rfl; exact rfl; exact rfl) | (apply s_load1P; exact rfl; exact rfl; exact rfl; (apply n_some; exact rfl; (first | exact nIm rfl | exact nSl rfl | exact nIv rfl | exact nRow rfl | exact nNil rfl | exact nPtr rfl | exact nAny rfl | exact rfl))) | (apply s_eqlI; exact rfl; exact rfl; exact rfl) | (apply s_lssI; exact rfl; exact rfl; exact rfl) | (apply s_gtrI; exact rfl; exact rfl; exact rfl) | (apply s_addI; exact rfl; exact rfl; exact rfl; (first | omega | decide | (dsimp only; omega)); (first | omega | decide | (dsimp only; omega))) | (apply s_indexS; exact rfl; exact rfl; exact rfl; (first | omega | decide | (dsimp only; omega)); (exact getS (by assumption))) | (apply s_gdo; exact rfl; exact rfl; (first | exact rfl | assumption)) | (apply s_gskipF; exact rfl; exact rfl; exact rfl; (first | exact rfl | assumption)) | (apply s_pickTIv; exact rfl; exact rfl; (first | exact rfl | assumption); exact rfl) | (apply s_pickFIv; exact rfl; exact rfl; (first | exact rfl | assumption); exact rfl) | (refine s_gsplit rfl rfl rfl (fun hb => ?_) (fun hb => ?_) <;> (have hp := hb; try simp only [decide_eq_true_eq, decide_eq_false_iff_not, beq_iff_eq, beq_eq_false_iff_ne, bne_iff_ne, bne_eq_false_iff_eq, ne_eq, Bool.not_eq_true, Bool.not_eq_false, Bool.not_eq_eq_eq_not, Bool.not_true, Bool.not_false, Bool.or_eq_true, Bool.or_eq_false_iff, Bool.and_eq_true, Bool.and_eq_false_iff, Int.not_lt, Int.not_le] at hp))) | (refine c_seq ?_) | (refine L.block ?_) | (refine s_region ?_) | (refine L.thenN ?_) | (refine L.thenR ?_) | (refine L.inN ?_) | (refine L.inR ?_) | (refine L.ret ?_) | (refine L.skip ?_) | (apply c_condT; exact rfl; (first | exact rfl | assumption)) | (refine L.cond rfl (fun hb => ?_) (fun hb => ?_) <;> (have hp := hb; try simp only [decide_eq_true_eq, decide_eq_false_iff_not, beq_iff_eq, beq_eq_false_iff_ne, bne_iff_ne, bne_eq_false_iff_eq, ne_eq, Bool.not_eq_true, Bool.not_eq_false, Bool.not_eq_eq_eq_not, Bool.not_true, Bool.not_false, Bool.or_eq_true, Bool.or_eq_false_iff, Bool.and_eq_true, Bool.and_eq_false_iff, Int.not_lt, Int.not_le] at hp))))
    all_goals try (first | (apply L.ends1; exact rfl; exact rfl; exact rfl) | (apply L.ends2; exact rfl; exact rfl; exact rfl) | (apply L.ends3; exact rfl; exact rfl; exact rfl) | (apply L.ends1A; exact rfl; exact rfl; exact rfl) | (apply L.ends2A; exact rfl; exact rfl; exact rfl))
    all_goals try (rw [hi]; simp [charOk, *]; done)
    all_goals try (rw [hi]; simp [charOk, *]; intros; omega)
    refine hK _ (i + 1) ?_ (by omega) ?_
    · have h1 : charOk b = true := by

        simp [charOk]; omega
      rw [hi, h1]; rfl
    · (refine Wk.mk' (by intro id h; cases h) ?_ ?_ ?_ <;> repeat' (first | exact WkF.nil | exact WkB.nil | exact WkT.nil | (refine WkF.cons rfl (Sub.refl _) ?_) | (refine WkB.cons rfl rfl (Subs.refl _) ?_) | (refine WkT.cons rfl ?_)))
end Go.Proofs.YtanlhpdjgelehaaDoor
