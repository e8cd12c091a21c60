/- The law EvalThree answers true. Conditions: how much there is of what comes in. -/
import Derived.Test.YtanlhpdjgelehaaV15
namespace Go.Proofs.Ytanlhpdjgelehaa
open Go.Abs
attribute [local irreducible] L Code.wp bodyPost Exit.then Exit.inBlock
set_option linter.unusedVariables false
set_option linter.unusedSimpArgs false

theorem Ex.Ok.nil {op : Int} {v : Val} {s name : List UInt8} {n : Int} : Ex.Ok (.mk op v s name n []) := .mk (by simp) (fun x h => by cases h)
theorem Ex.Ok.one {op : Int} {v : Val} {s name : List UInt8} {n : Int} {e : Ex} (h : e.Ok) : Ex.Ok (.mk op v s name n [e]) := .mk (by simp) (fun x hx => by simp at hx; subst hx; exact h)
def notE (e : Ex) : Ex := .mk 9 nilV [] [] 0 [e]
def isE (e : Ex) : Ex := .mk 10 nilV [] [] 0 [e]
def countM (row : List Val) : List Ex → Int
  | [] => 0
  | x :: l => (if ofM (evalM row x) = 1 then 1 else 0) + countM row l
theorem of_truth {n : Int} (h : n = 0 ∨ n = 1) : ofM (truthM n) = n := by
  rcases h with rfl | rfl <;> simp [truthM, ofM]
theorem three (row : List Val) (e : Ex) (h : (evalM row e).k = 0 ∨ (evalM row e).k = 3) : countM row [e, notE e, isE e] = 1 := by
  have h2 : evalM row (notE e) = truthM (notM (ofM (evalM row e))) := by rw [notE, evalM_eq, evalOne_rest _ _ _ _ (by decide) (by decide)]; simp [restM]
  have h3 : evalM row (isE e) = truthM (numM ((evalM row e).k == 0)) := by rw [isE, evalM_eq, evalOne_rest _ _ _ _ (by decide) (by decide)]; simp [restM]
  simp only [countM, h2, h3]
  generalize evalM row e = v at h
  rcases h with h | h
  · simp [ofM, h, notM, truthM, nilV, numM]
  · have : v.n % 2 = 0 ∨ v.n % 2 = 1 := by omega
    rcases this with g | g <;> simp [ofM, h, notM, truthM, nilV, numM, g]
theorem count_le (row : List Val) : ∀ l : List Ex, 0 ≤ countM row l ∧ countM row l ≤ l.length
  | [] => by simp [countM]
  | x :: l => by
    have := count_le row l
    simp only [countM, List.length_cons]
    split <;> omega

set_option maxRecDepth 100000 in
theorem keep_evals : CallA Try.prog 25 [] [] [] [] (aB true) := by
  have k := eval_any [⟨0, 0, []⟩, ⟨1, 5, []⟩] (.mk 3 nilV [] [] 0 [.mk 2 nilV [] [] 1 [], .mk 1 ⟨1, 2, []⟩ [] [] 0 []]) (.mk (by simp) (fun x hx => by
    simp at hx
    rcases hx with rfl | rfl <;> exact .nil))
  have e : evalM [⟨0, 0, []⟩, ⟨1, 5, []⟩] (.mk 3 nilV [] [] 0 [.mk 2 nilV [] [] 1 [], .mk 1 ⟨1, 2, []⟩ [] [] 0 []]) = ⟨1, 7, []⟩ := by
    simp [evalM_eq, evalOne, refM, restM, twoM, sumM, goodM]
  rw [e] at k
  simp only [Ex.c_eq, List.map_cons, List.map_nil, nilV] at k
  refine CallA.intro _ Try.func25 rfl Try.ntmps25 rfl (fun w0 E0 => ?_)
  (repeat' (first | (refine LW.is ?_; first | ((apply s_call0; exact rfl; exact k; exact rfl; exact rfl)) | (refine s_nil ?_) | (apply s_asIv; exact rfl; exact rfl) | (apply s_loadAP; exact rfl; exact rfl; exact rfl; (focus repeat' (first | exact nl_nil rfl | (apply nl_cons; exact rfl) | exact nIm rfl | exact nSl rfl | exact nIv rfl | exact nRow rfl | exact nNil rfl | exact nPtr rfl | exact nAny rfl | exact nIIm rfl | exact nISl rfl | exact rfl)); exact rfl) | (apply s_alloc; exact rfl; exact rfl; (focus repeat' (first | exact nl_nil rfl | (apply nl_cons; exact rfl) | exact nIm rfl | exact nSl rfl | exact nIv rfl | exact nRow rfl | exact nNil rfl | exact nPtr rfl | exact nAny rfl | exact nIIm rfl | exact nISl rfl | exact rfl)); exact rfl; exact rfl) | (apply s_build; exact rfl; exact rfl; (apply n_some; exact rfl; (focus repeat' (first | exact nl_nil rfl | (apply nl_cons; exact rfl) | exact nIm rfl | exact nSl rfl | exact nIv rfl | exact nRow rfl | exact nNil rfl | exact nPtr rfl | exact nAny rfl | exact nIIm rfl | exact nISl rfl | exact rfl)))) | (apply s_bslice; exact rfl; exact rfl; exact rfl; exact rfl; exact rfl; (apply n_some; exact rfl; (focus repeat' (first | exact nl_nil rfl | (apply nl_cons; exact rfl) | exact nIm rfl | exact nSl rfl | exact nIv rfl | exact nRow rfl | exact nNil rfl | exact nPtr rfl | exact nAny rfl | exact nIIm rfl | exact nISl rfl | exact rfl))); (apply n_some; exact rfl; (focus repeat' (first | exact nl_nil rfl | (apply nl_cons; exact rfl) | exact nIm rfl | exact nSl rfl | exact nIv rfl | exact nRow rfl | exact nNil rfl | exact nPtr rfl | exact nAny rfl | exact nIIm rfl | exact nISl rfl | exact rfl))); exact rfl; (focus repeat' (first | exact nl_nil rfl | (apply nl_cons; exact rfl) | exact nIm rfl | exact nSl rfl | exact nIv rfl | exact nRow rfl | exact nNil rfl | exact nPtr rfl | exact nAny rfl | exact nIIm rfl | exact nISl rfl | exact rfl)); exact rfl) | (apply s_store; exact rfl; exact rfl; exact rfl; exact rfl; exact rfl; exact rfl; (focus repeat' (first | exact nl_nil rfl | (apply nl_cons; exact rfl) | exact nIm rfl | exact nSl rfl | exact nIv rfl | exact nRow rfl | exact nNil rfl | exact nPtr rfl | exact nAny rfl | exact nIIm rfl | exact nISl rfl | exact rfl))) | (apply s_eqlAgg; exact rfl; exact rfl; exact rfl; exact rfl; exact rfl)) | (refine c_seq ?_) | (refine s_region ?_) | (refine L.thenN ?_) | (refine L.ret ?_)))
  all_goals (first | (apply L.ends1; exact rfl; exact rfl; exact rfl) | (apply L.ends2; exact rfl; exact rfl; exact rfl) | (apply L.ends3; exact rfl; exact rfl; exact rfl) | (apply L.ends1A; exact rfl; exact rfl; exact rfl) | (apply L.ends2A; exact rfl; exact rfl; exact rfl))
  all_goals rfl

set_option maxRecDepth 100000 in
set_option maxHeartbeats 4000000 in
theorem three_any (e : Ex) (hok : e.Ok) (row : List Val) : CallA Try.prog 8 [.agg (e.c.map .iv), .iv (.sl (row.map Val.c))] [] [] [] (aB true) := by
  have k0 := eval_any row e hok
  have hth := three row e
  generalize hxs : [e, notE e, isE e] = xs at hth
  have hxok : ∀ x ∈ xs, x.Ok := by
    subst hxs
    intro x hx
    simp at hx
    rcases hx with rfl | rfl | rfl
    · exact hok
    · exact .one hok
    · exact .one hok
  have hxc : xs.map Ex.c = [e.c, [I 9, I 0, I 0, S [], S [], S [], I 0, .sl [e.c]], [I 10, I 0, I 0, S [], S [], S [], I 0, .sl [e.c]]] := by
    subst hxs
    simp only [notE, isE, List.map_cons, List.map_nil, Ex.c_eq, nilV]
  have hxl : xs.length = 3 := by subst hxs; rfl
  clear hxs hok
  generalize evalM row e = v at k0 hth
  obtain ⟨op, v0, s, name, n, l⟩ := e
  rw [Ex.c_eq] at k0 hxc ⊢
  refine CallA.intro _ Try.func8 rfl Try.ntmps8 rfl (fun w0 E0 => ?_)
  by_cases h03 : v.k = 0 ∨ v.k = 3
  case neg =>
    have q0 : (v.k != 0) = true := by simp; omega
    have q3 : (v.k != 3) = true := by simp; omega
    (repeat' (first | (refine LW.is ?_; first | ((apply s_call0; exact rfl; exact k0; exact rfl; exact rfl)) | ((apply s_call0; exact rfl; exact keep_evals; exact rfl; exact rfl)) | (refine s_nil ?_) | (apply s_mvIv; exact rfl; exact rfl) | (apply s_asIv; exact rfl; exact rfl) | (apply s_fieldP; exact rfl; exact rfl; exact rfl) | (apply s_load1P; exact rfl; exact rfl; exact rfl; (apply n_some; exact rfl; (first | exact nIm rfl | exact nSl rfl | exact nIv rfl | exact nRow rfl | exact nNil rfl | exact nPtr rfl | exact nAny rfl | exact rfl))) | (apply s_loadAP; exact rfl; exact rfl; exact rfl; (focus repeat' (first | exact nl_nil rfl | (apply nl_cons; exact rfl) | exact nIm rfl | exact nSl rfl | exact nIv rfl | exact nRow rfl | exact nNil rfl | exact nPtr rfl | exact nAny rfl | exact nIIm rfl | exact nISl rfl | exact rfl)); exact rfl) | (apply s_neqI; exact rfl; exact rfl; exact rfl) | (apply s_box; exact rfl; exact rfl; exact rfl; (focus repeat' (first | exact nl_nil rfl | (apply nl_cons; exact rfl) | exact nIm rfl | exact nSl rfl | exact nIv rfl | exact nRow rfl | exact nNil rfl | exact nPtr rfl | exact nAny rfl | exact nIIm rfl | exact nISl rfl | exact rfl)); exact rfl; exact rfl) | (apply s_alloc; exact rfl; exact rfl; (focus repeat' (first | exact nl_nil rfl | (apply nl_cons; exact rfl) | exact nIm rfl | exact nSl rfl | exact nIv rfl | exact nRow rfl | exact nNil rfl | exact nPtr rfl | exact nAny rfl | exact nIIm rfl | exact nISl rfl | exact rfl)); exact rfl; exact rfl) | (apply s_store; exact rfl; exact rfl; exact rfl; exact rfl; exact rfl; exact rfl; (focus repeat' (first | exact nl_nil rfl | (apply nl_cons; exact rfl) | exact nIm rfl | exact nSl rfl | exact nIv rfl | exact nRow rfl | exact nNil rfl | exact nPtr rfl | exact nAny rfl | exact nIIm rfl | exact nISl rfl | exact rfl))) | (apply s_gdo; exact rfl; exact rfl; (first | exact rfl | assumption)) | (apply s_pickTIv; exact rfl; exact rfl; (first | exact rfl | assumption); exact rfl)) | (refine c_seq ?_) | (refine s_region ?_) | (refine L.thenN ?_) | (refine L.thenR ?_) | (refine L.ret ?_) | (apply c_condT; exact rfl; (first | exact rfl | assumption))))
    all_goals (first | (apply L.ends1; exact rfl; exact rfl; exact rfl) | (apply L.ends2; exact rfl; exact rfl; exact rfl) | (apply L.ends3; exact rfl; exact rfl; exact rfl) | (apply L.ends1A; exact rfl; exact rfl; exact rfl) | (apply L.ends2A; exact rfl; exact rfl; exact rfl))
    all_goals rfl
  have hc := hth h03
  have qq : ((v.k != 0) = false) ∨ ((v.k != 0) = true ∧ (v.k != 3) = false) := by
    rcases h03 with h | h <;> simp [h]
  have start : ∀ K : Prop, (K → K) := fun _ h => h
  rcases qq with q0 | ⟨q0, q3⟩
  all_goals
    (repeat' (first | (refine LW.is ?_; first | ((apply s_call0; exact rfl; exact k0; exact rfl; exact rfl)) | (refine s_nil ?_) | (apply s_mvIv; exact rfl; exact rfl) | (apply s_asIv; exact rfl; exact rfl) | (apply s_fieldP; exact rfl; exact rfl; exact rfl) | (apply s_load1P; exact rfl; exact rfl; exact rfl; (apply n_some; exact rfl; (first | exact nIm rfl | exact nSl rfl | exact nIv rfl | exact nRow rfl | exact nNil rfl | exact nPtr rfl | exact nAny rfl | exact rfl))) | (apply s_loadAP; exact rfl; exact rfl; exact rfl; (focus repeat' (first | exact nl_nil rfl | (apply nl_cons; exact rfl) | exact nIm rfl | exact nSl rfl | exact nIv rfl | exact nRow rfl | exact nNil rfl | exact nPtr rfl | exact nAny rfl | exact nIIm rfl | exact nISl rfl | exact rfl)); exact rfl) | (apply s_lenSl; exact rfl; exact rfl) | (apply s_neqI; exact rfl; exact rfl; exact rfl) | (apply s_box; exact rfl; exact rfl; exact rfl; (focus repeat' (first | exact nl_nil rfl | (apply nl_cons; exact rfl) | exact nIm rfl | exact nSl rfl | exact nIv rfl | exact nRow rfl | exact nNil rfl | exact nPtr rfl | exact nAny rfl | exact nIIm rfl | exact nISl rfl | exact rfl)); exact rfl; exact rfl) | (apply s_alloc; exact rfl; exact rfl; (focus repeat' (first | exact nl_nil rfl | (apply nl_cons; exact rfl) | exact nIm rfl | exact nSl rfl | exact nIv rfl | exact nRow rfl | exact nNil rfl | exact nPtr rfl | exact nAny rfl | exact nIIm rfl | exact nISl rfl | exact rfl)); exact rfl; exact rfl) | (apply s_build; exact rfl; exact rfl; (apply n_some; exact rfl; (focus repeat' (first | exact nl_nil rfl | (apply nl_cons; exact rfl) | exact nIm rfl | exact nSl rfl | exact nIv rfl | exact nRow rfl | exact nNil rfl | exact nPtr rfl | exact nAny rfl | exact nIIm rfl | exact nISl rfl | exact rfl)))) | (apply s_bslice; exact rfl; exact rfl; exact rfl; exact rfl; exact rfl; (apply n_some; exact rfl; (focus repeat' (first | exact nl_nil rfl | (apply nl_cons; exact rfl) | exact nIm rfl | exact nSl rfl | exact nIv rfl | exact nRow rfl | exact nNil rfl | exact nPtr rfl | exact nAny rfl | exact nIIm rfl | exact nISl rfl | exact rfl))); (apply n_some; exact rfl; (focus repeat' (first | exact nl_nil rfl | (apply nl_cons; exact rfl) | exact nIm rfl | exact nSl rfl | exact nIv rfl | exact nRow rfl | exact nNil rfl | exact nPtr rfl | exact nAny rfl | exact nIIm rfl | exact nISl rfl | exact rfl))); exact rfl; (focus repeat' (first | exact nl_nil rfl | (apply nl_cons; exact rfl) | exact nIm rfl | exact nSl rfl | exact nIv rfl | exact nRow rfl | exact nNil rfl | exact nPtr rfl | exact nAny rfl | exact nIIm rfl | exact nISl rfl | exact rfl)); exact rfl) | (apply s_store; exact rfl; exact rfl; exact rfl; exact rfl; exact rfl; exact rfl; (focus repeat' (first | exact nl_nil rfl | (apply nl_cons; exact rfl) | exact nIm rfl | exact nSl rfl | exact nIv rfl | exact nRow rfl | exact nNil rfl | exact nPtr rfl | exact nAny rfl | exact nIIm rfl | exact nISl rfl | exact rfl))) | (apply s_gdo; exact rfl; exact rfl; (first | exact rfl | assumption)) | (apply s_gskipT; exact rfl; exact rfl; exact rfl; (first | exact rfl | assumption)) | (apply s_pickTIv; exact rfl; exact rfl; (first | exact rfl | assumption); exact rfl) | (apply s_pickFIv; exact rfl; exact rfl; (first | exact rfl | assumption); exact rfl)) | (refine c_seq ?_) | (refine L.block ?_) | (refine s_region ?_) | (refine L.thenN ?_) | (refine L.skip ?_) | (apply c_condF; exact rfl; (first | exact rfl | assumption))))
    refine L.loopP (ι := Nat × Int) (fun i => ⟨[(30, aI (i.1 : Int)), (29, aI ((xs.map Ex.c).length : Int)), (28, .row 28 (xs.map Ex.c)), (6, aI i.2), (1, .iv (.sl (row.map Val.c)))], [], [(28, ⟨39, 8⟩)]⟩) (fun i => xs.length - i.1) (fun i => countM row (xs.drop i.1) + i.2 = 1 ∧ 0 ≤ i.2 ∧ i.2 ≤ i.1) (i0 := (0, 0)) ?_ (by simpa using hc) ?_
    · refine Wk.mk' (by intro id h; cases h) (.cons rfl (Sub.refl _) (.cons rfl (Sub.of_eq ?_) (.cons rfl (Sub.of_eq (congrArg (AV.row 28) ?_)) (.cons rfl (Sub.refl _) (.cons rfl (Sub.refl _) .nil))))) .nil (.cons rfl .nil)
      · simp [hxl]
      · rw [hxc]
    rintro ⟨i, m⟩ ⟨hi, hm0, hm1⟩ K hK
    dsimp only at hi hm0 hm1 ⊢
    cases hv : xs[i]? with
    | none =>
      have hlt := ltF (l := xs.map Ex.c) (getFN hv)
      rw [dropN hv] at hi
      have hm : m = 1 := by simpa [countM] using hi
      subst hm
      (repeat' (first | (refine LW.is ?_; first | ((apply s_call0; exact rfl; exact keep_evals; exact rfl; exact rfl)) | (refine s_nil ?_) | (apply s_mvIv; exact rfl; exact rfl) | (apply s_asIv; exact rfl; exact rfl) | (apply s_eqlI; exact rfl; exact rfl; exact rfl) | (apply s_lssI; exact rfl; exact rfl; exact rfl) | (apply s_gdo; exact rfl; exact rfl; (first | exact rfl | assumption)) | (apply s_pickTIv; exact rfl; exact rfl; (first | exact rfl | assumption); exact rfl)) | (refine c_seq ?_) | (refine s_region ?_) | (refine L.thenN ?_) | (refine L.thenE ?_) | (refine L.inE ?_) | (refine L.ret ?_) | (refine L.exit ?_) | (apply c_condF; exact rfl; (first | exact rfl | assumption))))
      all_goals (first | (apply L.ends1; exact rfl; exact rfl; exact rfl) | (apply L.ends2; exact rfl; exact rfl; exact rfl) | (apply L.ends3; exact rfl; exact rfl; exact rfl) | (apply L.ends1A; exact rfl; exact rfl; exact rfl) | (apply L.ends2A; exact rfl; exact rfl; exact rfl))
      all_goals rfl
    | some x =>
      have hlt := ltT (l := xs.map Ex.c) (getF hv)
      have hlt' := ltN hv
      have kx := eval_any row x (hxok x (List.mem_of_getElem? hv))
      rw [dropC hv] at hi
      simp only [countM] at hi
      generalize evalM row x = r at kx hi
      obtain ⟨op', v', s', name', n', l'⟩ := x
      rw [Ex.c_eq] at kx
      have he : (xs.map Ex.c)[((i : Nat) : Int).toNat]? = some [I op', I v'.k, I v'.n, S v'.s, S s', S name', I n', .sl (l'.map Ex.c)] := by
        rw [← Ex.c_eq]; simp [hv]
      clear hv hxc hth
      cases ho : ofM r == 1 with
      | true =>
        have ho' : ofM r = 1 := by simpa using ho
        rw [if_pos ho'] at hi
        (repeat' (first | (refine LW.is ?_; first | ((apply s_indexA; exact rfl; exact rfl; exact rfl; omega; exact he; exact rfl)) | ((apply s_call0; exact rfl; exact kx; exact rfl; exact rfl)) | ((apply s_call0; exact rfl; rotate_left; exact rfl; rotate_left 3; exact of_any r; exact rfl)) | (refine s_nil ?_) | (apply s_mvIv; exact rfl; exact rfl) | (apply s_asIv; exact rfl; exact rfl) | (apply s_loadAP; exact rfl; exact rfl; exact rfl; (focus repeat' (first | exact nl_nil rfl | (apply nl_cons; exact rfl) | exact nIm rfl | exact nSl rfl | exact nIv rfl | exact nRow rfl | exact nNil rfl | exact nPtr rfl | exact nAny rfl | exact nIIm rfl | exact nISl rfl | exact rfl)); exact rfl) | (apply s_loadAE; exact rfl; exact rfl; (focus repeat' (first | exact nl_nil rfl | (apply nl_cons; exact rfl) | exact nIm rfl | exact nSl rfl | exact nIv rfl | exact nRow rfl | exact nNil rfl | exact nPtr rfl | exact nAny rfl | exact nIIm rfl | exact nISl rfl | exact rfl)); exact rfl) | (apply s_eqlI; exact rfl; exact rfl; exact rfl) | (apply s_lssI; exact rfl; exact rfl; exact rfl) | (apply s_alloc; exact rfl; exact rfl; (focus repeat' (first | exact nl_nil rfl | (apply nl_cons; exact rfl) | exact nIm rfl | exact nSl rfl | exact nIv rfl | exact nRow rfl | exact nNil rfl | exact nPtr rfl | exact nAny rfl | exact nIIm rfl | exact nISl rfl | exact rfl)); exact rfl; exact rfl) | (apply s_store; exact rfl; exact rfl; exact rfl; exact rfl; exact rfl; exact rfl; (focus repeat' (first | exact nl_nil rfl | (apply nl_cons; exact rfl) | exact nIm rfl | exact nSl rfl | exact nIv rfl | exact nRow rfl | exact nNil rfl | exact nPtr rfl | exact nAny rfl | exact nIIm rfl | exact nISl rfl | exact rfl))) | (apply s_addI; exact rfl; exact rfl; exact rfl; (first | omega | decide | (dsimp only; omega)); (first | omega | decide | (dsimp only; omega)))) | (refine c_seq ?_) | (refine L.block ?_) | (refine s_region ?_) | (refine L.thenN ?_) | (refine L.inN ?_) | (refine L.skip ?_) | (apply c_condT; exact rfl; (first | exact rfl | assumption))))
        refine hK _ (i + 1, m + 1) ⟨by dsimp only; omega, by dsimp only; omega, by dsimp only; omega⟩ (by dsimp only; omega) ?_
        (refine Wk.mk' (by intro id h; cases h) ?_ ?_ ?_ <;> repeat' (first | exact WkF.nil | exact WkB.nil | exact WkT.nil | (refine WkF.cons rfl (Sub.refl _) ?_) | (refine WkB.cons rfl rfl (Subs.refl _) ?_) | (refine WkT.cons rfl ?_)))
      | false =>
        have ho' : ¬ ofM r = 1 := by simpa using ho
        rw [if_neg ho'] at hi
        (repeat' (first | (refine LW.is ?_; first | ((apply s_indexA; exact rfl; exact rfl; exact rfl; omega; exact he; exact rfl)) | ((apply s_call0; exact rfl; exact kx; exact rfl; exact rfl)) | ((apply s_call0; exact rfl; rotate_left; exact rfl; rotate_left 3; exact of_any r; exact rfl)) | (refine s_nil ?_) | (apply s_mvIv; exact rfl; exact rfl) | (apply s_loadAP; exact rfl; exact rfl; exact rfl; (focus repeat' (first | exact nl_nil rfl | (apply nl_cons; exact rfl) | exact nIm rfl | exact nSl rfl | exact nIv rfl | exact nRow rfl | exact nNil rfl | exact nPtr rfl | exact nAny rfl | exact nIIm rfl | exact nISl rfl | exact rfl)); exact rfl) | (apply s_loadAE; exact rfl; exact rfl; (focus repeat' (first | exact nl_nil rfl | (apply nl_cons; exact rfl) | exact nIm rfl | exact nSl rfl | exact nIv rfl | exact nRow rfl | exact nNil rfl | exact nPtr rfl | exact nAny rfl | exact nIIm rfl | exact nISl rfl | exact rfl)); exact rfl) | (apply s_eqlI; exact rfl; exact rfl; exact rfl) | (apply s_lssI; exact rfl; exact rfl; exact rfl) | (apply s_alloc; exact rfl; exact rfl; (focus repeat' (first | exact nl_nil rfl | (apply nl_cons; exact rfl) | exact nIm rfl | exact nSl rfl | exact nIv rfl | exact nRow rfl | exact nNil rfl | exact nPtr rfl | exact nAny rfl | exact nIIm rfl | exact nISl rfl | exact rfl)); exact rfl; exact rfl) | (apply s_store; exact rfl; exact rfl; exact rfl; exact rfl; exact rfl; exact rfl; (focus repeat' (first | exact nl_nil rfl | (apply nl_cons; exact rfl) | exact nIm rfl | exact nSl rfl | exact nIv rfl | exact nRow rfl | exact nNil rfl | exact nPtr rfl | exact nAny rfl | exact nIIm rfl | exact nISl rfl | exact rfl))) | (apply s_addI; exact rfl; exact rfl; exact rfl; (first | omega | decide | (dsimp only; omega)); (first | omega | decide | (dsimp only; omega)))) | (refine c_seq ?_) | (refine L.block ?_) | (refine s_region ?_) | (refine L.thenN ?_) | (refine L.inN ?_) | (refine L.skip ?_) | (apply c_condT; exact rfl; (first | exact rfl | assumption)) | (apply c_condF; exact rfl; (first | exact rfl | assumption))))
        refine hK _ (i + 1, m) ⟨by dsimp only; omega, by dsimp only; omega, by dsimp only; omega⟩ (by dsimp only; omega) ?_
        (refine Wk.mk' (by intro id h; cases h) ?_ ?_ ?_ <;> repeat' (first | exact WkF.nil | exact WkB.nil | exact WkT.nil | (refine WkF.cons rfl (Sub.refl _) ?_) | (refine WkB.cons rfl rfl (Subs.refl _) ?_) | (refine WkT.cons rfl ?_)))
end Go.Proofs.Ytanlhpdjgelehaa
