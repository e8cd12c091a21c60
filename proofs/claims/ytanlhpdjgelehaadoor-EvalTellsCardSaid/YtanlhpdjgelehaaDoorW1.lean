/- Truths by the reference's table, and comparing; the law ValueTells answers true. Conditions: the table stands; how much there is of what comes in. -/
import Derived.Test.YtanlhpdjgelehaaDoorV10
import Derived.Test.YtanlhpdjgelehaaDoorV12
namespace Go.Proofs.YtanlhpdjgelehaaDoor
open Go.Abs
attribute [local irreducible] L Code.wp bodyPost Exit.then Exit.inBlock
set_option linter.unusedVariables false
set_option linter.unusedSimpArgs false

abbrev tab : List Value := [.int .i64 0, .int .i64 2, .int .i64 1]
def rankM (a : Int) : Int := if a = 0 then 0 else if a = 1 then 2 else 1
theorem rank_any (a : Int) : CallA Tryd.prog 22 [aI a] [] [] [] (aI (rankM a)) := by
  refine CallA.intro _ Tryd.func22 rfl Tryd.ntmps22 rfl (fun w0 E0 => ?_)
  (repeat' (first | (refine LW.is ?_; first | (refine s_nil ?_) | (apply s_mvIv; exact rfl; exact rfl) | (apply s_asIv; exact rfl; exact rfl) | (apply s_eqlI; exact rfl; exact rfl; exact rfl)) | (refine c_seq ?_) | (refine L.block ?_) | (refine s_region ?_) | (refine L.thenN ?_) | (refine L.thenR ?_) | (refine L.inN ?_) | (refine L.inR ?_) | (refine L.ret ?_) | (refine L.skip ?_) | (refine L.cond rfl (fun hb => ?_) (fun hb => ?_) <;> (have hp := hb; try simp only [decide_eq_true_eq, decide_eq_false_iff_not, beq_iff_eq, beq_eq_false_iff_ne, bne_iff_ne, bne_eq_false_iff_eq, ne_eq, Bool.not_eq_true, Bool.not_eq_false, Bool.not_eq_eq_eq_not, Bool.not_true, Bool.not_false, Bool.or_eq_true, Bool.or_eq_false_iff, Bool.and_eq_true, Bool.and_eq_false_iff, Int.not_lt, Int.not_le] at hp))))
  all_goals (first | (apply L.ends1; exact rfl; exact rfl; exact rfl) | (apply L.ends2; exact rfl; exact rfl; exact rfl) | (apply L.ends3; exact rfl; exact rfl; exact rfl) | (apply L.ends1A; exact rfl; exact rfl; exact rfl) | (apply L.ends2A; exact rfl; exact rfl; exact rfl))
  all_goals simp [rankM, resOf, *]
theorem rank_cases (a : Int) : (rankM a = 0 ∧ a = 0) ∨ (rankM a = 2 ∧ a = 1) ∨ (rankM a = 1 ∧ a ≠ 0 ∧ a ≠ 1) := by
  unfold rankM
  split
  · left; exact ⟨rfl, by assumption⟩
  · split
    · right; left; exact ⟨rfl, by assumption⟩
    · right; right; exact ⟨rfl, by assumption, by assumption⟩

theorem notof_any (a : Int) : CallG 0 tab Tryd.prog 12 [aI a] [] [] [] (aI (notM a)) := by
  refine CallG.intro _ Tryd.func12 rfl Tryd.ntmps12 rfl (fun w0 E0 hG => ?_)
  have k := rank_any a
  rcases rank_cases a with ⟨h, h0⟩ | ⟨h, h0⟩ | ⟨h, h0, h1⟩
  all_goals rw [h] at k
  · subst h0
    (repeat' (first | (refine LW.is ?_; first | ((apply s_call0; exact rfl; rotate_left; exact rfl; rotate_left 3; exact k; exact rfl)) | ((apply s_indexG; exact rfl; exact hG; exact rfl; exact rfl; decide; exact rfl)) | (refine s_nil ?_) | (apply s_mvIv; exact rfl; exact rfl) | (apply s_asIv; exact rfl; exact rfl) | (apply s_load1E; exact rfl; exact rfl; exact rfl) | (apply s_subI; exact rfl; exact rfl; exact rfl; (first | omega | decide | (dsimp only; omega)); (first | omega | decide | (dsimp only; omega)))) | (refine c_seq ?_) | (refine s_region ?_) | (refine L.thenN ?_) | (refine L.ret ?_)))
    all_goals (first | (apply L.ends1; exact rfl; exact rfl; exact rfl) | (apply L.ends2; exact rfl; exact rfl; exact rfl) | (apply L.ends3; exact rfl; exact rfl; exact rfl) | (apply L.ends1A; exact rfl; exact rfl; exact rfl) | (apply L.ends2A; exact rfl; exact rfl; exact rfl))
    all_goals rfl
  · subst h0
    (repeat' (first | (refine LW.is ?_; first | ((apply s_call0; exact rfl; rotate_left; exact rfl; rotate_left 3; exact k; exact rfl)) | ((apply s_indexG; exact rfl; exact hG; exact rfl; exact rfl; decide; exact rfl)) | (refine s_nil ?_) | (apply s_mvIv; exact rfl; exact rfl) | (apply s_asIv; exact rfl; exact rfl) | (apply s_load1E; exact rfl; exact rfl; exact rfl) | (apply s_subI; exact rfl; exact rfl; exact rfl; (first | omega | decide | (dsimp only; omega)); (first | omega | decide | (dsimp only; omega)))) | (refine c_seq ?_) | (refine s_region ?_) | (refine L.thenN ?_) | (refine L.ret ?_)))
    all_goals (first | (apply L.ends1; exact rfl; exact rfl; exact rfl) | (apply L.ends2; exact rfl; exact rfl; exact rfl) | (apply L.ends3; exact rfl; exact rfl; exact rfl) | (apply L.ends1A; exact rfl; exact rfl; exact rfl) | (apply L.ends2A; exact rfl; exact rfl; exact rfl))
    all_goals rfl
  · have e : notM a = 2 := by rw [notM, if_neg (by omega)]
    rw [e]
    (repeat' (first | (refine LW.is ?_; first | ((apply s_call0; exact rfl; rotate_left; exact rfl; rotate_left 3; exact k; exact rfl)) | ((apply s_indexG; exact rfl; exact hG; exact rfl; exact rfl; decide; exact rfl)) | (refine s_nil ?_) | (apply s_mvIv; exact rfl; exact rfl) | (apply s_asIv; exact rfl; exact rfl) | (apply s_load1E; exact rfl; exact rfl; exact rfl) | (apply s_subI; exact rfl; exact rfl; exact rfl; (first | omega | decide | (dsimp only; omega)); (first | omega | decide | (dsimp only; omega)))) | (refine c_seq ?_) | (refine s_region ?_) | (refine L.thenN ?_) | (refine L.ret ?_)))
    all_goals (first | (apply L.ends1; exact rfl; exact rfl; exact rfl) | (apply L.ends2; exact rfl; exact rfl; exact rfl) | (apply L.ends3; exact rfl; exact rfl; exact rfl) | (apply L.ends1A; exact rfl; exact rfl; exact rfl) | (apply L.ends2A; exact rfl; exact rfl; exact rfl))
    all_goals rfl
theorem andof_any (a b : Int) : CallG 0 tab Tryd.prog 8 [aI a, aI b] [] [] [] (aI (andM a b)) := by
  refine CallG.intro _ Tryd.func8 rfl Tryd.ntmps8 rfl (fun w0 E0 hG => ?_)
  have k := rank_any a
  have k' := rank_any b
  have e : ∀ n : Int, (tab[n.toNat]? = some (.int .i64 (andM a b))) → andM a b = andM a b := fun _ _ => rfl
  have hi : 0 ≤ (if rankM b < rankM a then rankM b else rankM a) ∧ tab[(if rankM b < rankM a then rankM b else rankM a).toNat]? = some (.int .i64 (andM a b)) := by
    rcases rank_cases a with ⟨h, h0⟩ | ⟨h, h0⟩ | ⟨h, h0, h1⟩ <;> rcases rank_cases b with ⟨k, k0⟩ | ⟨k, k0⟩ | ⟨k, k0, k1⟩ <;> rw [h, k] <;> simp [andM, *]
  (repeat' (first | (refine LW.is ?_; first | ((apply s_call0; exact rfl; rotate_left; exact rfl; rotate_left 3; exact k; exact rfl)) | ((apply s_call0; exact rfl; rotate_left; exact rfl; rotate_left 3; exact k'; exact rfl)) | ((apply s_indexG; exact rfl; exact hG; exact rfl; exact rfl; exact hi.1; exact hi.2)) | (refine s_nil ?_) | (apply s_mvIv; exact rfl; exact rfl) | (apply s_asIv; exact rfl; exact rfl) | (apply s_load1E; exact rfl; exact rfl; exact rfl) | (apply s_min2; exact rfl; exact rfl; exact rfl)) | (refine c_seq ?_) | (refine s_region ?_) | (refine L.thenN ?_) | (refine L.ret ?_)))
  all_goals (first | (apply L.ends1; exact rfl; exact rfl; exact rfl) | (apply L.ends2; exact rfl; exact rfl; exact rfl) | (apply L.ends3; exact rfl; exact rfl; exact rfl) | (apply L.ends1A; exact rfl; exact rfl; exact rfl) | (apply L.ends2A; exact rfl; exact rfl; exact rfl))
  all_goals rfl
theorem orof_any (a b : Int) : CallG 0 tab Tryd.prog 10 [aI a, aI b] [] [] [] (aI (orM a b)) := by
  refine CallG.intro _ Tryd.func10 rfl Tryd.ntmps10 rfl (fun w0 E0 hG => ?_)
  have k := rank_any a
  have k' := rank_any b
  have hi : 0 ≤ (if rankM b > rankM a then rankM b else rankM a) ∧ tab[(if rankM b > rankM a then rankM b else rankM a).toNat]? = some (.int .i64 (orM a b)) := by
    rcases rank_cases a with ⟨h, h0⟩ | ⟨h, h0⟩ | ⟨h, h0, h1⟩ <;> rcases rank_cases b with ⟨k, k0⟩ | ⟨k, k0⟩ | ⟨k, k0, k1⟩ <;> rw [h, k] <;> simp [orM, andM, notM, *]
  (repeat' (first | (refine LW.is ?_; first | ((apply s_call0; exact rfl; rotate_left; exact rfl; rotate_left 3; exact k; exact rfl)) | ((apply s_call0; exact rfl; rotate_left; exact rfl; rotate_left 3; exact k'; exact rfl)) | ((apply s_indexG; exact rfl; exact hG; exact rfl; exact rfl; exact hi.1; exact hi.2)) | (refine s_nil ?_) | (apply s_mvIv; exact rfl; exact rfl) | (apply s_asIv; exact rfl; exact rfl) | (apply s_load1E; exact rfl; exact rfl; exact rfl) | (apply s_max2; exact rfl; exact rfl; exact rfl)) | (refine c_seq ?_) | (refine s_region ?_) | (refine L.thenN ?_) | (refine L.ret ?_)))
  all_goals (first | (apply L.ends1; exact rfl; exact rfl; exact rfl) | (apply L.ends2; exact rfl; exact rfl; exact rfl) | (apply L.ends3; exact rfl; exact rfl; exact rfl) | (apply L.ends1A; exact rfl; exact rfl; exact rfl) | (apply L.ends2A; exact rfl; exact rfl; exact rfl))
  all_goals rfl

def veq' (v w : Val) : Bool := v.k == w.k && (v.n == w.n && (v.s == w.s && true))
theorem veq'_iff {v w : Val} : veq' v w = true ↔ v = w := by
  obtain ⟨a, b, c⟩ := v
  obtain ⟨a', b', c'⟩ := w
  simp [veq']
/-- of good values, as the reference says -/
def cmpR (v w : Val) : Int :=
  if v.k < w.k ∨ (v.k = w.k ∧ (v.n < w.n ∨ Op.bytesLess v.s w.s = true)) then -1 else if veq' v w = true then 0 else 1
theorem cmpR_eq {v w : Val} (hv : goodM v = true) (hw : goodM w = true) : cmpR v w = cmpM v w := by
  have le1 : ∀ s : List UInt8, Op.bytesLess s s = false := fun s => by rw [less_lt]; simp [List.lt_irrefl]
  rcases good_cases hv with rfl | ⟨n, rfl, h0, h1⟩ | ⟨s, rfl, hl, hs⟩ <;> rcases good_cases hw with rfl | ⟨m, rfl, k0, k1⟩ | ⟨t, rfl, kl, ks⟩ <;>
    simp [cmpR, cmpM, cmpI, cmpS, orL, le1, veq']
  · by_cases h : n < m
    · simp [h]
    · by_cases h' : n = m
      · subst h'; simp
      · have : m < n := by omega
        simp [h, h', this]
  · cases h : Op.bytesLess s t with
    | true => simp
    | false =>
      cases h' : Op.bytesLess t s with
      | true =>
        have : s ≠ t := fun e => by subst e; rw [le1] at h'; cases h'
        simp [this]
      | false =>
        rw [less_lt] at h h'
        simp only [decide_eq_false_iff_not] at h h'
        have : s = t := List.le_antisymm (List.not_lt.1 h') (List.not_lt.1 h)
        simp [this]
set_option maxHeartbeats 1000000 in
theorem cmpof_any (v w : Val) : CallA Tryd.prog 14 [.agg (v.c.map .iv), .agg (w.c.map .iv)] [] [] [] (aI (cmpR v w)) := by
  refine CallA.intro _ Tryd.func14 rfl Tryd.ntmps14 rfl (fun w0 E0 => ?_)
  cases q1 : decide (v.k < w.k) with
  | true =>
    have e : cmpR v w = -1 := by simp at q1; simp [cmpR, q1]
    rw [e]
    (repeat' (first | (refine LW.is ?_; first | (refine s_nil ?_) | (apply s_asIv; exact rfl; exact rfl) | (apply s_fieldP; exact rfl; exact rfl; exact rfl) | (apply s_load1P; exact rfl; exact rfl; exact rfl; (apply n_some; exact rfl; (first | exact nIm rfl | exact nSl rfl | exact nIv rfl | exact nRow rfl | exact nNil rfl | exact nPtr rfl | exact nAny rfl | exact rfl))) | (apply s_lssI; exact rfl; exact rfl; exact rfl) | (apply s_box; exact rfl; exact rfl; exact rfl; (focus repeat' (first | exact nl_nil rfl | (apply nl_cons; exact rfl) | exact nIm rfl | exact nSl rfl | exact nIv rfl | exact nRow rfl | exact nNil rfl | exact nPtr rfl | exact nAny rfl | exact nIIm rfl | exact nISl rfl | exact rfl)); exact rfl; exact rfl)) | (refine c_seq ?_) | (refine L.block ?_) | (refine s_region ?_) | (refine L.thenN ?_) | (refine L.thenR ?_) | (refine L.inR ?_) | (refine L.ret ?_) | (refine L.skip ?_) | (apply c_condT; exact rfl; (first | exact rfl | assumption))))
    all_goals (first | (apply L.ends1; exact rfl; exact rfl; exact rfl) | (apply L.ends2; exact rfl; exact rfl; exact rfl) | (apply L.ends3; exact rfl; exact rfl; exact rfl) | (apply L.ends1A; exact rfl; exact rfl; exact rfl) | (apply L.ends2A; exact rfl; exact rfl; exact rfl))
    all_goals rfl
  | false =>
  have q1' : ¬ v.k < w.k := by simpa using q1
  by_cases c2 : v.k = w.k ∧ (v.n < w.n ∨ Op.bytesLess v.s w.s = true)
  · have e : cmpR v w = -1 := by simp [cmpR, c2]
    rw [e]
    obtain ⟨c3, c4⟩ := c2
    have q2 : (v.k == w.k) = true := by simp [c3]
    cases q3 : decide (v.n < w.n) with
    | true =>
      (repeat' (first | (refine LW.is ?_; first | (refine s_nil ?_) | (apply s_mvIv; exact rfl; exact rfl) | (apply s_asIv; exact rfl; exact rfl) | (apply s_fieldP; exact rfl; exact rfl; exact rfl) | (apply s_load1P; exact rfl; exact rfl; exact rfl; (apply n_some; exact rfl; (first | exact nIm rfl | exact nSl rfl | exact nIv rfl | exact nRow rfl | exact nNil rfl | exact nPtr rfl | exact nAny rfl | exact rfl))) | (apply s_eqlI; exact rfl; exact rfl; exact rfl) | (apply s_lssI; exact rfl; exact rfl; exact rfl) | (apply s_box; exact rfl; exact rfl; exact rfl; (focus repeat' (first | exact nl_nil rfl | (apply nl_cons; exact rfl) | exact nIm rfl | exact nSl rfl | exact nIv rfl | exact nRow rfl | exact nNil rfl | exact nPtr rfl | exact nAny rfl | exact nIIm rfl | exact nISl rfl | exact rfl)); exact rfl; exact rfl) | (apply s_gdo; exact rfl; exact rfl; (first | exact rfl | assumption)) | (apply s_gskipF; exact rfl; exact rfl; exact rfl; (first | exact rfl | assumption)) | (apply s_pickTIv; exact rfl; exact rfl; (first | exact rfl | assumption); exact rfl)) | (refine c_seq ?_) | (refine L.block ?_) | (refine s_region ?_) | (refine L.thenN ?_) | (refine L.thenR ?_) | (refine L.inR ?_) | (refine L.ret ?_) | (apply c_condT; exact rfl; (first | exact rfl | assumption)) | (apply c_condF; exact rfl; (first | exact rfl | assumption))))
      all_goals (first | (apply L.ends1; exact rfl; exact rfl; exact rfl) | (apply L.ends2; exact rfl; exact rfl; exact rfl) | (apply L.ends3; exact rfl; exact rfl; exact rfl) | (apply L.ends1A; exact rfl; exact rfl; exact rfl) | (apply L.ends2A; exact rfl; exact rfl; exact rfl))
      all_goals rfl
    | false =>
      have q4 : Op.bytesLess v.s w.s = true := c4.resolve_left (by simpa using q3)
      (repeat' (first | (refine LW.is ?_; first | (refine s_nil ?_) | (apply s_mvIv; exact rfl; exact rfl) | (apply s_asIv; exact rfl; exact rfl) | (apply s_fieldP; exact rfl; exact rfl; exact rfl) | (apply s_load1P; exact rfl; exact rfl; exact rfl; (apply n_some; exact rfl; (first | exact nIm rfl | exact nSl rfl | exact nIv rfl | exact nRow rfl | exact nNil rfl | exact nPtr rfl | exact nAny rfl | exact rfl))) | (apply s_eqlI; exact rfl; exact rfl; exact rfl) | (apply s_lssI; exact rfl; exact rfl; exact rfl) | (apply s_lssS; exact rfl; exact rfl; exact rfl) | (apply s_box; exact rfl; exact rfl; exact rfl; (focus repeat' (first | exact nl_nil rfl | (apply nl_cons; exact rfl) | exact nIm rfl | exact nSl rfl | exact nIv rfl | exact nRow rfl | exact nNil rfl | exact nPtr rfl | exact nAny rfl | exact nIIm rfl | exact nISl rfl | exact rfl)); exact rfl; exact rfl) | (apply s_gdo; exact rfl; exact rfl; (first | exact rfl | assumption)) | (apply s_pickTIv; exact rfl; exact rfl; (first | exact rfl | assumption); exact rfl) | (apply s_pickFIv; exact rfl; exact rfl; (first | exact rfl | assumption); exact rfl)) | (refine c_seq ?_) | (refine L.block ?_) | (refine s_region ?_) | (refine L.thenN ?_) | (refine L.thenR ?_) | (refine L.inR ?_) | (refine L.ret ?_) | (apply c_condT; exact rfl; (first | exact rfl | assumption)) | (apply c_condF; exact rfl; (first | exact rfl | assumption))))
      all_goals (first | (apply L.ends1; exact rfl; exact rfl; exact rfl) | (apply L.ends2; exact rfl; exact rfl; exact rfl) | (apply L.ends3; exact rfl; exact rfl; exact rfl) | (apply L.ends1A; exact rfl; exact rfl; exact rfl) | (apply L.ends2A; exact rfl; exact rfl; exact rfl))
      all_goals rfl
  · have e : cmpR v w = if veq' v w = true then 0 else 1 := by rw [cmpR, if_neg (by rintro (h | h); exact q1' h; exact c2 h)]
    rw [e]
    cases qv : veq' v w with
    | true =>
      rw [if_pos rfl]
      have hvw := veq'_iff.1 qv
      have q2 : (v.k == w.k) = true := by simp [hvw]
      have q3 : decide (v.n < w.n) = false := by simp [hvw]
      have q4 : Op.bytesLess v.s w.s = false := by rw [hvw, less_lt]; simp [List.lt_irrefl]
      (repeat' (first | (refine LW.is ?_; first | (refine s_nil ?_) | (apply s_mvIv; exact rfl; exact rfl) | (apply s_asIv; exact rfl; exact rfl) | (apply s_fieldP; exact rfl; exact rfl; exact rfl) | (apply s_load1P; exact rfl; exact rfl; exact rfl; (apply n_some; exact rfl; (first | exact nIm rfl | exact nSl rfl | exact nIv rfl | exact nRow rfl | exact nNil rfl | exact nPtr rfl | exact nAny rfl | exact rfl))) | (apply s_loadAP; exact rfl; exact rfl; exact rfl; (focus repeat' (first | exact nl_nil rfl | (apply nl_cons; exact rfl) | exact nIm rfl | exact nSl rfl | exact nIv rfl | exact nRow rfl | exact nNil rfl | exact nPtr rfl | exact nAny rfl | exact nIIm rfl | exact nISl rfl | exact rfl)); exact rfl) | (apply s_eqlI; exact rfl; exact rfl; exact rfl) | (apply s_lssI; exact rfl; exact rfl; exact rfl) | (apply s_lssS; exact rfl; exact rfl; exact rfl) | (apply s_box; exact rfl; exact rfl; exact rfl; (focus repeat' (first | exact nl_nil rfl | (apply nl_cons; exact rfl) | exact nIm rfl | exact nSl rfl | exact nIv rfl | exact nRow rfl | exact nNil rfl | exact nPtr rfl | exact nAny rfl | exact nIIm rfl | exact nISl rfl | exact rfl)); exact rfl; exact rfl) | (apply s_eqlAgg; exact rfl; exact rfl; exact rfl; exact rfl; exact rfl) | (apply s_gdo; exact rfl; exact rfl; (first | exact rfl | assumption)) | (apply s_pickTIv; exact rfl; exact rfl; (first | exact rfl | assumption); exact rfl) | (apply s_pickFIv; exact rfl; exact rfl; (first | exact rfl | assumption); exact rfl)) | (refine c_seq ?_) | (refine L.block ?_) | (refine s_region ?_) | (refine L.thenN ?_) | (refine L.thenR ?_) | (refine L.inR ?_) | (refine L.ret ?_) | (apply c_condT; exact rfl; (first | exact rfl | assumption)) | (apply c_condF; exact rfl; (first | exact rfl | assumption))))
      all_goals (first | (apply L.ends1; exact rfl; exact rfl; exact rfl) | (apply L.ends2; exact rfl; exact rfl; exact rfl) | (apply L.ends3; exact rfl; exact rfl; exact rfl) | (apply L.ends1A; exact rfl; exact rfl; exact rfl) | (apply L.ends2A; exact rfl; exact rfl; exact rfl))
      all_goals rfl
    | false =>
      rw [if_neg (by decide)]
      cases q2 : v.k == w.k with
      | false =>
        (repeat' (first | (refine LW.is ?_; first | (refine s_nil ?_) | (apply s_mvIv; exact rfl; exact rfl) | (apply s_asIv; exact rfl; exact rfl) | (apply s_fieldP; exact rfl; exact rfl; exact rfl) | (apply s_load1P; exact rfl; exact rfl; exact rfl; (apply n_some; exact rfl; (first | exact nIm rfl | exact nSl rfl | exact nIv rfl | exact nRow rfl | exact nNil rfl | exact nPtr rfl | exact nAny rfl | exact rfl))) | (apply s_loadAP; exact rfl; exact rfl; exact rfl; (focus repeat' (first | exact nl_nil rfl | (apply nl_cons; exact rfl) | exact nIm rfl | exact nSl rfl | exact nIv rfl | exact nRow rfl | exact nNil rfl | exact nPtr rfl | exact nAny rfl | exact nIIm rfl | exact nISl rfl | exact rfl)); exact rfl) | (apply s_eqlI; exact rfl; exact rfl; exact rfl) | (apply s_lssI; exact rfl; exact rfl; exact rfl) | (apply s_box; exact rfl; exact rfl; exact rfl; (focus repeat' (first | exact nl_nil rfl | (apply nl_cons; exact rfl) | exact nIm rfl | exact nSl rfl | exact nIv rfl | exact nRow rfl | exact nNil rfl | exact nPtr rfl | exact nAny rfl | exact nIIm rfl | exact nISl rfl | exact rfl)); exact rfl; exact rfl) | (apply s_eqlAgg; exact rfl; exact rfl; exact rfl; exact rfl; exact rfl) | (apply s_gskipT; exact rfl; exact rfl; exact rfl; (first | exact rfl | assumption)) | (apply s_gskipU; exact rfl; exact rfl; exact rfl) | (apply s_pickFIv; exact rfl; exact rfl; (first | exact rfl | assumption); exact rfl)) | (refine c_seq ?_) | (refine L.block ?_) | (refine s_region ?_) | (refine L.thenN ?_) | (refine L.inN ?_) | (refine L.ret ?_) | (refine L.skip ?_) | (apply c_condF; exact rfl; (first | exact rfl | assumption))))
        all_goals (first | (apply L.ends1; exact rfl; exact rfl; exact rfl) | (apply L.ends2; exact rfl; exact rfl; exact rfl) | (apply L.ends3; exact rfl; exact rfl; exact rfl) | (apply L.ends1A; exact rfl; exact rfl; exact rfl) | (apply L.ends2A; exact rfl; exact rfl; exact rfl))
        all_goals rfl
      | true =>
        have hk : v.k = w.k := by simpa using q2
        have q3 : decide (v.n < w.n) = false := by simp; have := fun h => c2 ⟨hk, .inl h⟩; omega
        have q4 : Op.bytesLess v.s w.s = false := by
          cases h : Op.bytesLess v.s w.s with
          | true => exact absurd ⟨hk, .inr h⟩ c2
          | false => rfl
        (repeat' (first | (refine LW.is ?_; first | (refine s_nil ?_) | (apply s_mvIv; exact rfl; exact rfl) | (apply s_asIv; exact rfl; exact rfl) | (apply s_fieldP; exact rfl; exact rfl; exact rfl) | (apply s_load1P; exact rfl; exact rfl; exact rfl; (apply n_some; exact rfl; (first | exact nIm rfl | exact nSl rfl | exact nIv rfl | exact nRow rfl | exact nNil rfl | exact nPtr rfl | exact nAny rfl | exact rfl))) | (apply s_loadAP; exact rfl; exact rfl; exact rfl; (focus repeat' (first | exact nl_nil rfl | (apply nl_cons; exact rfl) | exact nIm rfl | exact nSl rfl | exact nIv rfl | exact nRow rfl | exact nNil rfl | exact nPtr rfl | exact nAny rfl | exact nIIm rfl | exact nISl rfl | exact rfl)); exact rfl) | (apply s_eqlI; exact rfl; exact rfl; exact rfl) | (apply s_lssI; exact rfl; exact rfl; exact rfl) | (apply s_lssS; exact rfl; exact rfl; exact rfl) | (apply s_box; exact rfl; exact rfl; exact rfl; (focus repeat' (first | exact nl_nil rfl | (apply nl_cons; exact rfl) | exact nIm rfl | exact nSl rfl | exact nIv rfl | exact nRow rfl | exact nNil rfl | exact nPtr rfl | exact nAny rfl | exact nIIm rfl | exact nISl rfl | exact rfl)); exact rfl; exact rfl) | (apply s_eqlAgg; exact rfl; exact rfl; exact rfl; exact rfl; exact rfl) | (apply s_gdo; exact rfl; exact rfl; (first | exact rfl | assumption)) | (apply s_pickTIv; exact rfl; exact rfl; (first | exact rfl | assumption); exact rfl) | (apply s_pickFIv; exact rfl; exact rfl; (first | exact rfl | assumption); exact rfl)) | (refine c_seq ?_) | (refine L.block ?_) | (refine s_region ?_) | (refine L.thenN ?_) | (refine L.inN ?_) | (refine L.ret ?_) | (refine L.skip ?_) | (apply c_condF; exact rfl; (first | exact rfl | assumption))))
        all_goals (first | (apply L.ends1; exact rfl; exact rfl; exact rfl) | (apply L.ends2; exact rfl; exact rfl; exact rfl) | (apply L.ends3; exact rfl; exact rfl; exact rfl) | (apply L.ends1A; exact rfl; exact rfl; exact rfl) | (apply L.ends2A; exact rfl; exact rfl; exact rfl))
        all_goals rfl
end Go.Proofs.YtanlhpdjgelehaaDoor
