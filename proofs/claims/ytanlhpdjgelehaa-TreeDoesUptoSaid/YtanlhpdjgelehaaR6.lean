/- The law TreeRanges answers true, if 'trees' does. Conditions: how much there is of what comes in. -/
import Derived.Test.YtanlhpdjgelehaaP4
namespace Go.Proofs.Ytanlhpdjgelehaa
open Go.Abs
attribute [local irreducible] L Code.wp bodyPost Exit.then Exit.inBlock
set_option linter.unusedVariables false
set_option linter.unusedSimpArgs false

theorem split_filter {lo mid hi : Str} (h1 : lo ≤ mid) (h2 : mid ≤ hi) : ∀ {l : List Pr}, (l.map Prod.fst).Pairwise (· < ·) →
    l.filter (fun x => !decide (x.1 < lo) && decide (x.1 < hi)) = l.filter (fun x => !decide (x.1 < lo) && decide (x.1 < mid)) ++ l.filter (fun x => !decide (x.1 < mid) && decide (x.1 < hi))
  | [], _ => rfl
  | x :: l, h => by
    simp only [List.map_cons] at h
    have hp := List.pairwise_cons.1 h
    have ih := split_filter h1 h2 hp.2
    have le_lt : ∀ {a b c : Str}, a ≤ b → ¬ a < c → ¬ b < c := fun {a b c} hab hac hbc => hac (le_trans' hab hbc)
    simp only [List.filter_cons]
    by_cases a : x.1 < lo
    · have b : x.1 < mid := by
        refine List.not_le.1 (fun hc => ?_)
        exact absurd a (List.not_lt.2 (List.le_trans h1 hc))
      simp only [a, b, decide_true, Bool.not_true, Bool.false_and, Bool.false_eq_true, if_false]
      exact ih
    · by_cases b : x.1 < mid
      · have c : x.1 < hi := by
          refine List.not_le.1 (fun hc => ?_)
          exact absurd b (List.not_lt.2 (List.le_trans h2 hc))
        simp only [a, b, c, decide_true, decide_false, Bool.not_true, Bool.not_false, Bool.false_and, Bool.true_and, Bool.false_eq_true, if_false, if_true, List.cons_append]
        rw [ih]
      · have none : l.filter (fun x => !decide (x.1 < lo) && decide (x.1 < mid)) = [] := by
          rw [List.filter_eq_nil_iff]
          intro y hy
          have hxy := hp.1 y.1 (List.mem_map.2 ⟨y, hy, rfl⟩)
          have : ¬ y.1 < mid := fun hc => b (lt_trans' hxy hc)
          simp [this]
        rw [none] at ih ⊢
        simp only [a, b, decide_true, decide_false, Bool.not_false, Bool.true_and, Bool.and_false, Bool.false_eq_true, if_false, List.nil_append] at ih ⊢
        rw [ih]
theorem range_split {ps : List Pg} {lo mid hi : Str} (h1 : lo ≤ mid) (h2 : mid ≤ hi) : rangeM ps lo hi = rangeM ps lo mid ++ rangeM ps mid hi := by
  cases hg : goodTree ps with
  | false => simp [rangeM, hg]
  | true =>
    obtain ⟨k1, k2⟩ := (good_iff ps).1 hg
    rw [range_law lo hi hg, range_law lo mid hg, range_law mid hi hg]
    exact split_filter h1 h2 (by rw [keys_flat k1]; exact k2)
theorem range_mem {ps : List Pg} {lo hi : Str} {x : Pr} (h : x ∈ rangeM ps lo hi) : ¬ x.1 < lo ∧ x.1 < hi := by
  cases hg : goodTree ps with
  | false => simp [rangeM, hg] at h
  | true =>
    rw [range_law lo hi hg] at h
    have := (List.mem_filter.1 h).2
    simpa using this
theorem range_len (ps : List Pg) (lo hi : Str) : (rangeM ps lo hi).length ≤ 4 * ps.length := by
  unfold rangeM
  split
  · rename_i hg
    exact Nat.le_trans (List.takeWhile_sublist _).length_le (fromP_len (sorted_of_good lo hg).len _ _)
  · simp

set_option maxRecDepth 100000 in
set_option maxHeartbeats 8000000 in
theorem ranges_any (kt : CallA Try.prog 27 [] [] [] [] (aB true)) (ps : List Pg) (lo mid hi : Str) (hl : 64 * ps.length ≤ 225000000000000) :
    CallA Try.prog 9 [.agg [.iv (.sl (ps.map Pg.c))], aS lo, aS mid, aS hi] [] [] [] (aB true) := by
  have ka := range_any ps lo mid hl
  have kb := range_any ps mid hi hl
  have kc := range_any ps lo hi hl
  have la := range_len ps lo mid
  have lb := range_len ps mid hi
  have hsp := fun (h1 : lo ≤ mid) (h2 : mid ≤ hi) => range_split (ps := ps) h1 h2
  have hmem := fun (x : Pr) (h : x ∈ rangeM ps lo hi) => range_mem h
  generalize rangeM ps lo mid = A at *
  generalize rangeM ps mid hi = Bl at *
  generalize rangeM ps lo hi = C at *
  refine CallA.intro _ Try.func9 rfl Try.ntmps9 rfl (fun w0 E0 => ?_)
  have g1 : (!(Op.bytesLess lo mid || lo == mid)) = !decide (lo ≤ mid) := by rw [leS]
  have g2 : (!(Op.bytesLess mid hi || mid == hi)) = !decide (mid ≤ hi) := by rw [leS]
  cases h1 : decide (lo ≤ mid) with
  | false =>
    rw [h1] at g1
    (repeat' (first | (refine LW.is ?_; first | ((apply s_call0; exact rfl; exact kt; exact rfl; exact rfl)) | (refine s_nil ?_) | (apply s_mvIv; exact rfl; exact rfl) | (apply s_asIv; exact rfl; exact rfl) | (apply s_gtrS; exact rfl; exact rfl; exact rfl) | (apply s_box; exact rfl; exact rfl; exact rfl; (focus repeat' (first | exact nl_nil rfl | (apply nl_cons; exact rfl) | exact nIm rfl | exact nSl rfl | exact nIv rfl | exact nRow rfl | exact nNil rfl | exact nPtr rfl | exact nBsh rfl | exact nBsl rfl | exact nAny rfl | exact nIIm rfl | exact nISl rfl | exact rfl)); exact rfl; exact rfl) | (apply s_gskipF; exact rfl; exact rfl; exact rfl; (first | exact rfl | assumption)) | (apply s_pickTIv; exact rfl; exact rfl; (first | exact rfl | assumption); exact rfl)) | (refine c_seq ?_) | (refine s_region ?_) | (refine L.thenN ?_) | (refine L.thenR ?_) | (refine L.ret ?_) | (apply c_condT; exact rfl; (first | exact rfl | assumption))))
    all_goals (first | (apply L.ends1; exact rfl; exact rfl; exact rfl) | (apply L.ends2; exact rfl; exact rfl; exact rfl) | (apply L.ends3; exact rfl; exact rfl; exact rfl) | (apply L.ends1A; exact rfl; exact rfl; exact rfl) | (apply L.ends2A; exact rfl; exact rfl; exact rfl))
    all_goals rfl
  | true =>
  rw [h1] at g1
  cases h2 : decide (mid ≤ hi) with
  | false =>
    rw [h2] at g2
    (repeat' (first | (refine LW.is ?_; first | ((apply s_call0; exact rfl; exact kt; exact rfl; exact rfl)) | (refine s_nil ?_) | (apply s_mvIv; exact rfl; exact rfl) | (apply s_asIv; exact rfl; exact rfl) | (apply s_gtrS; exact rfl; exact rfl; exact rfl) | (apply s_box; exact rfl; exact rfl; exact rfl; (focus repeat' (first | exact nl_nil rfl | (apply nl_cons; exact rfl) | exact nIm rfl | exact nSl rfl | exact nIv rfl | exact nRow rfl | exact nNil rfl | exact nPtr rfl | exact nBsh rfl | exact nBsl rfl | exact nAny rfl | exact nIIm rfl | exact nISl rfl | exact rfl)); exact rfl; exact rfl) | (apply s_gdo; exact rfl; exact rfl; (first | exact rfl | assumption)) | (apply s_pickFIv; exact rfl; exact rfl; (first | exact rfl | assumption); exact rfl)) | (refine c_seq ?_) | (refine s_region ?_) | (refine L.thenN ?_) | (refine L.thenR ?_) | (refine L.ret ?_) | (apply c_condT; exact rfl; (first | exact rfl | assumption))))
    all_goals (first | (apply L.ends1; exact rfl; exact rfl; exact rfl) | (apply L.ends2; exact rfl; exact rfl; exact rfl) | (apply L.ends3; exact rfl; exact rfl; exact rfl) | (apply L.ends1A; exact rfl; exact rfl; exact rfl) | (apply L.ends2A; exact rfl; exact rfl; exact rfl))
    all_goals rfl
  | true =>
  rw [h2] at g2
  have hC := hsp (of_decide_eq_true h1) (of_decide_eq_true h2)
  clear hsp h1 h2
  subst hC
  have e1 : ((((A.map fun x => Str.c x.1).length : Int) + ((Bl.map fun x => Str.c x.1).length : Int)) != (((A ++ Bl).map fun x => Str.c x.1).length : Int)) = false := by simp
  have e2 : (((A.map fun x => Str.c x.2).length : Int) != ((A.map fun x => Str.c x.1).length : Int)) = false := by simp
  have e3 : (((Bl.map fun x => Str.c x.2).length : Int) != ((Bl.map fun x => Str.c x.1).length : Int)) = false := by simp
  have e4 : ((((A ++ Bl).map fun x => Str.c x.2).length : Int) != (((A ++ Bl).map fun x => Str.c x.1).length : Int)) = false := by simp
  have b1 : -9223372036854775808 ≤ (((A.map fun x => Str.c x.1).length : Int) + ((Bl.map fun x => Str.c x.1).length : Int)) := by omega
  have b2 : (((A.map fun x => Str.c x.1).length : Int) + ((Bl.map fun x => Str.c x.1).length : Int)) ≤ 9223372036854775807 := by simp only [List.length_map]; omega
  (repeat' (first | (refine LW.is ?_; first | ((apply s_addI; exact rfl; exact rfl; exact rfl; exact b1; exact b2)) | ((apply s_call0; exact rfl; exact ka; exact rfl; exact rfl)) | ((apply s_call0; exact rfl; exact kb; exact rfl; exact rfl)) | ((apply s_call0; exact rfl; exact kc; exact rfl; exact rfl)) | (refine s_nil ?_) | (apply s_mvIv; exact rfl; exact rfl) | (apply s_mvTup; exact rfl; exact rfl) | (apply s_asIv; exact rfl; exact rfl) | (apply s_loadAP; exact rfl; exact rfl; exact rfl; (focus repeat' (first | exact nl_nil rfl | (apply nl_cons; exact rfl) | exact nIm rfl | exact nSl rfl | exact nIv rfl | exact nRow rfl | exact nNil rfl | exact nPtr rfl | exact nBsh rfl | exact nBsl rfl | exact nAny rfl | exact nIIm rfl | exact nISl rfl | exact rfl)); exact rfl) | (apply s_lenSl; exact rfl; exact rfl) | (apply s_neqI; exact rfl; exact rfl; exact rfl) | (apply s_gtrS; exact rfl; exact rfl; exact rfl) | (apply s_extract; exact rfl; exact rfl; (apply n_some; exact rfl; (first | exact nIm rfl | exact nSl rfl | exact nIv rfl | exact nRow rfl | exact nNil rfl | exact nPtr rfl | exact nBsh rfl | exact nBsl rfl | exact nAny rfl | exact rfl))) | (apply s_box; exact rfl; exact rfl; exact rfl; (focus repeat' (first | exact nl_nil rfl | (apply nl_cons; exact rfl) | exact nIm rfl | exact nSl rfl | exact nIv rfl | exact nRow rfl | exact nNil rfl | exact nPtr rfl | exact nBsh rfl | exact nBsl rfl | exact nAny rfl | exact nIIm rfl | exact nISl rfl | exact rfl)); exact rfl; exact rfl) | (apply s_gdo; exact rfl; exact rfl; (first | exact rfl | assumption)) | (apply s_pickFIv; exact rfl; exact rfl; (first | exact rfl | assumption); exact rfl)) | (refine c_seq ?_) | (refine L.block ?_) | (refine s_region ?_) | (refine L.thenN ?_) | (refine L.skip ?_) | (apply c_condF; exact rfl; (first | exact rfl | assumption))))
  refine L.loopP (ι := Nat) (fun i => ⟨[(78, aI (i : Int)), (77, aI (((A ++ Bl).map fun x => Str.c x.1).length : Int)), (76, .iv (.sl ((A ++ Bl).map fun x => Str.c x.1))), (14, .iv (.sl ((A ++ Bl).map fun x => Str.c x.2))), (9, .iv (.sl (A.map fun x => Str.c x.1))), (10, .iv (.sl (A.map fun x => Str.c x.2))), (11, .iv (.sl (Bl.map fun x => Str.c x.1))), (12, .iv (.sl (Bl.map fun x => Str.c x.2))), (1, aS lo), (3, aS hi)], [], []⟩) (fun i => (A ++ Bl).length - i) (fun i => True) (i0 := 0) ?_ trivial ?_
  · (refine Wk.mk' (by intro id h; cases h) ?_ ?_ ?_ <;> repeat' (first | exact WkF.nil | exact WkB.nil | exact WkT.nil | (refine WkF.cons rfl (Sub.refl _) ?_) | (refine WkB.cons rfl rfl (Subs.refl _) ?_) | (refine WkT.cons rfl ?_)))
  intro i _ K hK
  cases hv : (A ++ Bl)[i]? with
  | none =>
    have hlt := ltF (l := (A ++ Bl).map fun x => Str.c x.1) (getFN hv)
    (repeat' (first | (refine LW.is ?_; first | ((apply s_call0; exact rfl; exact kt; exact rfl; exact rfl)) | (refine s_nil ?_) | (apply s_asIv; exact rfl; exact rfl) | (apply s_lssI; exact rfl; exact rfl; exact rfl)) | (refine c_seq ?_) | (refine s_region ?_) | (refine L.thenN ?_) | (refine L.thenE ?_) | (refine L.inE ?_) | (refine L.ret ?_) | (refine L.exit ?_) | (apply c_condF; exact rfl; (first | exact rfl | assumption))))
    all_goals (first | (apply L.ends1; exact rfl; exact rfl; exact rfl) | (apply L.ends2; exact rfl; exact rfl; exact rfl) | (apply L.ends3; exact rfl; exact rfl; exact rfl) | (apply L.ends1A; exact rfl; exact rfl; exact rfl) | (apply L.ends2A; exact rfl; exact rfl; exact rfl))
    all_goals rfl
  | some x =>
    have hlt := ltT (l := (A ++ Bl).map fun x => Str.c x.1) (getF (f := fun x => Str.c x.1) hv)
    have hlt' := ltN hv
    have hm := hmem x (List.mem_of_getElem? hv)
    have q1 : Op.bytesLess x.1 lo = false := by rw [ltS]; simpa using hm.1
    have q2 : (!(Op.bytesLess x.1 hi)) = false := by rw [ltS]; simpa using hm.2
    have q3 : (!(x.1 == x.1)) = false := by simp
    have q4 : (!(x.2 == x.2)) = false := by simp
    have hln : (A ++ Bl).length ≤ 140737488355328 := by simp only [List.length_append]; omega
    have c1 : ((A ++ Bl).map fun x => Str.c x.1)[((i : Nat) : Int).toNat]? = some [S x.1] := by rw [Int.toNat_natCast, List.getElem?_map, hv]; rfl
    have c2 : ((A ++ Bl).map fun x => Str.c x.2)[((i : Nat) : Int).toNat]? = some [S x.2] := by rw [Int.toNat_natCast, List.getElem?_map, hv]; rfl
    clear hmem hl la lb e1 e2 e3 e4 b1 b2 g1 g2
    by_cases hi' : i < A.length
    · have ha : A[i]? = some x := by rw [List.getElem?_append_left hi'] at hv; exact hv
      have a1 : (A.map fun x => Str.c x.1)[((i : Nat) : Int).toNat]? = some [S x.1] := by rw [Int.toNat_natCast, List.getElem?_map, ha]; rfl
      have a2 : (A.map fun x => Str.c x.2)[((i : Nat) : Int).toNat]? = some [S x.2] := by rw [Int.toNat_natCast, List.getElem?_map, ha]; rfl
      have l1 : decide ((i : Int) < ((A.map fun x => Str.c x.1).length : Int)) = true := by simp; omega
      have l2 : decide (((A.map fun x => Str.c x.1).length : Int) ≤ (i : Int)) = false := by simp; omega
      (repeat' (first | (refine LW.is ?_; first | ((apply s_indexA; exact rfl; exact rfl; exact rfl; omega; (first | exact a1 | exact a2 | exact c1 | exact c2); exact rfl)) | (refine s_nil ?_) | (apply s_mvIv; exact rfl; exact rfl) | (apply s_asIv; exact rfl; exact rfl) | (apply s_load1E; exact rfl; exact rfl; exact rfl) | (apply s_lssI; exact rfl; exact rfl; exact rfl) | (apply s_addI; exact rfl; exact rfl; exact rfl; (first | omega | decide | (dsimp only; omega)); (first | omega | decide | (dsimp only; omega)))) | (refine DR.is ?_; first | ((apply d_indexA; exact rfl; exact rfl; exact rfl; omega; (first | exact a1 | exact a2 | exact c1 | exact c2); exact rfl)) | (apply d_nil; kernel_rfl) | (apply d_mvIv; exact rfl; exact rfl) | (apply d_load1E; exact rfl; exact rfl; exact rfl) | (apply d_lenSl; exact rfl; exact rfl) | (apply d_lssI; exact rfl; exact rfl; exact rfl) | (apply d_geqI; exact rfl; exact rfl; exact rfl) | (apply d_neqS; exact rfl; exact rfl; exact rfl) | (apply d_lssS; exact rfl; exact rfl; exact rfl) | (apply d_geqS; exact rfl; exact rfl; exact rfl) | (apply d_gdo; exact rfl; exact rfl; (first | exact rfl | assumption)) | (apply d_gskipT; exact rfl; exact rfl; exact rfl; (first | exact rfl | assumption)) | (apply d_gskipU; exact rfl; exact rfl; exact rfl) | (apply d_pickTIv; exact rfl; exact rfl; (first | exact rfl | assumption); exact rfl) | (apply d_pickFIv; exact rfl; exact rfl; (first | exact rfl | assumption); exact rfl)) | (refine c_seq ?_) | (refine L.block ?_) | (refine s_region ?_) | (refine d_region ?_) | (refine L.thenN ?_) | (refine L.inN ?_) | (refine L.skip ?_) | (apply c_condT; exact rfl; (first | exact rfl | assumption)) | (apply c_condF; exact rfl; (first | exact rfl | assumption))))
      refine hK _ (i + 1) trivial (by omega) ?_
      (refine Wk.mk' (by intro id h; cases h) ?_ ?_ ?_ <;> repeat' (first | exact WkF.nil | exact WkB.nil | exact WkT.nil | (refine WkF.cons rfl (Sub.refl _) ?_) | (refine WkB.cons rfl rfl (Subs.refl _) ?_) | (refine WkT.cons rfl ?_)))
    · have hb : Bl[i - A.length]? = some x := by rw [List.getElem?_append_right (by omega)] at hv; exact hv
      have s0 : 0 ≤ (i : Int) - ((A.map fun x => Str.c x.1).length : Int) := by simp; omega
      have s1 : ((i : Int) - ((A.map fun x => Str.c x.1).length : Int)).toNat = i - A.length := by simp only [List.length_map]; omega
      have a1 : (Bl.map fun x => Str.c x.1)[((i : Int) - ((A.map fun x => Str.c x.1).length : Int)).toNat]? = some [S x.1] := by rw [s1, List.getElem?_map, hb]; rfl
      have a2 : (Bl.map fun x => Str.c x.2)[((i : Int) - ((A.map fun x => Str.c x.1).length : Int)).toNat]? = some [S x.2] := by rw [s1, List.getElem?_map, hb]; rfl
      have l1 : decide ((i : Int) < ((A.map fun x => Str.c x.1).length : Int)) = false := by simp; omega
      have l2 : decide (((A.map fun x => Str.c x.1).length : Int) ≤ (i : Int)) = true := by simp; omega
      have s2 : -9223372036854775808 ≤ (i : Int) - ((A.map fun x => Str.c x.1).length : Int) := by omega
      have s3 : (i : Int) - ((A.map fun x => Str.c x.1).length : Int) ≤ 9223372036854775807 := by omega
      (repeat' (first | (refine LW.is ?_; first | ((apply s_indexA; exact rfl; exact rfl; exact rfl; (first | omega | exact s0); (first | exact a1 | exact a2 | exact c1 | exact c2); exact rfl)) | (refine s_nil ?_) | (apply s_mvIv; exact rfl; exact rfl) | (apply s_asIv; exact rfl; exact rfl) | (apply s_load1E; exact rfl; exact rfl; exact rfl) | (apply s_lssI; exact rfl; exact rfl; exact rfl) | (apply s_addI; exact rfl; exact rfl; exact rfl; (first | omega | decide | (dsimp only; omega)); (first | omega | decide | (dsimp only; omega)))) | (refine DR.is ?_; first | ((apply d_subI; exact rfl; exact rfl; exact rfl; exact s2; exact s3)) | ((apply d_indexA; exact rfl; exact rfl; exact rfl; (first | omega | exact s0); (first | exact a1 | exact a2 | exact c1 | exact c2); exact rfl)) | (apply d_nil; kernel_rfl) | (apply d_mvIv; exact rfl; exact rfl) | (apply d_load1E; exact rfl; exact rfl; exact rfl) | (apply d_lenSl; exact rfl; exact rfl) | (apply d_lssI; exact rfl; exact rfl; exact rfl) | (apply d_geqI; exact rfl; exact rfl; exact rfl) | (apply d_neqS; exact rfl; exact rfl; exact rfl) | (apply d_lssS; exact rfl; exact rfl; exact rfl) | (apply d_geqS; exact rfl; exact rfl; exact rfl) | (apply d_gdo; exact rfl; exact rfl; (first | exact rfl | assumption)) | (apply d_gskipT; exact rfl; exact rfl; exact rfl; (first | exact rfl | assumption)) | (apply d_gskipU; exact rfl; exact rfl; exact rfl) | (apply d_pickTIv; exact rfl; exact rfl; (first | exact rfl | assumption); exact rfl) | (apply d_pickFIv; exact rfl; exact rfl; (first | exact rfl | assumption); exact rfl)) | (refine c_seq ?_) | (refine L.block ?_) | (refine s_region ?_) | (refine d_region ?_) | (refine L.thenN ?_) | (refine L.inN ?_) | (refine L.skip ?_) | (apply c_condT; exact rfl; (first | exact rfl | assumption)) | (apply c_condF; exact rfl; (first | exact rfl | assumption))))
      refine hK _ (i + 1) trivial (by omega) ?_
      (refine Wk.mk' (by intro id h; cases h) ?_ ?_ ?_ <;> repeat' (first | exact WkF.nil | exact WkB.nil | exact WkT.nil | (refine WkF.cons rfl (Sub.refl _) ?_) | (refine WkB.cons rfl rfl (Subs.refl _) ?_) | (refine WkT.cons rfl ?_)))
end Go.Proofs.Ytanlhpdjgelehaa
