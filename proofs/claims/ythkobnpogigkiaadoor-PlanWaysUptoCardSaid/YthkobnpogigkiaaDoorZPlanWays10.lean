/- Several texts in one, each with its own sentence ahead of it. Conditions: each one says its own. -/
import Derived.Test.YthkobnpogigkiaaDoorZPlanWays9
import Derived.Lib.Bytealg
/- Commands, bound: what Bind computes. Conditions: how much there is of what comes in. -/
namespace Go.Proofs.YthkobnpogigkiaaDoor
open Go.Abs
set_option maxRecDepth 100000
attribute [local irreducible] L Code.wp bodyPost Exit.then Exit.inBlock
set_option linter.unusedVariables false
set_option linter.unusedSimpArgs false
def createE (c : Cat) (s : Stm) : Int := if goodTabM ⟨s.name, s.cols⟩ = false then 1 else if (findT c s.name).2 then 4 else if 3 ≤ c.ts.length then 8 else 0
def markE (c : Cat) (s : Stm) : Int :=
  if namedM s.name = false then 1
  else if (findT c s.table).2 = false ∨ colM (findT c s.table).1 s.col < 0 then 3
  else if c.is.any (fun x => x.n == s.name) then 4 else if 4 ≤ c.is.length then 8 else 0
def preM (c : Cat) (s : Stm) : Stm × Int :=
  if s.kind = 1 then (s, createE c s)
  else if s.kind = 2 then (s, markE c s)
  else if s.kind = 3 then (s, if (findT c s.name).2 then 0 else 3)
  else if s.kind = 7 then chooseM c s
  else if (findT c s.table).2 then changeM s (findT c s.table).1 else (s, 3)
def formM (c : Cat) (s : Stm) : Bool := !(((!goodCatM c || decide (s.kind < 1)) || decide (7 < s.kind)) || (exprsM s).any (fun e => !goodExM 1 e))
def bindStM (c : Cat) (s : Stm) : Stm × Int :=
  if formM c s = false then (nilSt, 1) else if (preM c s).2 ≠ 0 then (nilSt, (preM c s).2) else ((preM c s).1, 0)
theorem goodCat_find {c : Cat} (h : goodCatM c = true) : c.ts.length ≤ 3 ∧ c.is.length ≤ 4 ∧ ∀ name, (findT c name).1.cols.length ≤ 4 := by
  simp only [goodCatM, Bool.and_eq_true, decide_eq_true_eq] at h
  obtain ⟨h1, h2, h3, h4⟩ := h
  refine ⟨by omega, by omega, fun name => ?_⟩
  unfold findT
  cases hf : c.ts.find? (fun t => t.n == name) with
  | none => simp
  | some t =>
    obtain ⟨i, hi⟩ := List.getElem?_of_mem (List.mem_of_find?_eq_some hf)
    have := List.all_eq_true.1 h1 (t, i) (List.mem_iff_getElem?.2 ⟨i, by simp [List.getElem?_zipIdx, hi]⟩)
    simp only [tabOk, Bool.not_eq_true', Bool.or_eq_false_iff, Bool.not_eq_false'] at this
    have hg := this.1
    simp only [goodTabM, Bool.and_eq_true, decide_eq_true_eq] at hg
    exact hg.2.2.2.1
theorem bind1f_any (e : Ex) (hok : e.OkS) : CallG gs0 Tryd.prog 43 [.agg (e.cs.map .iv)] [] [] [] (aB (!goodExM 1 e)) := by
  have k := goodEx_any e hok 1 (by decide) (by decide)
  refine CallG.intro _ Tryd.func43 rfl Tryd.ntmps43 rfl (fun w0 E0 hG => ?_)
  (repeat' (first | (refine LW.is ?_; first | (apply s_callG; exact rfl; exact hG; exact k; exact rfl; exact rfl) | refine s_v ?_ | refine s_m ?_ | refine s_nil ?_ | refine s_gd ?_ | (refine s_gsplit rfl rfl rfl (fun hb => ?_) (fun hb => ?_) <;> refine fct hb (fun hp => ?_))) | (refine DR.is ?_; first | (apply d_callG; exact rfl; exact hG; exact k; exact rfl; exact rfl) | refine d_v ?_ | refine d_m ?_ | (apply d_nil; kernel_rfl) | refine d_gd ?_ | (refine d_gsplit rfl rfl rfl (fun hb => ?_) (fun hb => ?_) <;> refine fct hb (fun hp => ?_))) | refine c_go ?_ | refine s_region ?_ | refine d_region ?_ | (refine L.cond rfl (fun hb => ?_) (fun hb => ?_) <;> refine fct hb (fun hp => ?_))))
  all_goals (first | (apply L.ends1; exact rfl; exact rfl; exact rfl) | (apply L.ends2; exact rfl; exact rfl; exact rfl) | (apply L.ends3; exact rfl; exact rfl; exact rfl) | (apply L.ends1A; exact rfl; exact rfl; exact rfl) | (apply L.ends2A; exact rfl; exact rfl; exact rfl) | (apply L.ends3A; exact rfl; exact rfl; exact rfl))
  all_goals rfl
theorem bind2f_any {gs : Globs} (x : Idx) (s : Stm) :
    CallG gs Tryd.prog 48 [.agg (x.c.map .iv), .ptr 1000 0] [(1000, ⟨36, .l (s.cs.map .iv)⟩)] [(1000, ⟨36, .l (s.cs.map .iv)⟩)] [] (aB (x.n == s.name)) := by
  refine CallG.intro _ Tryd.func48 rfl Tryd.ntmps48 rfl (fun w0 E0 hG => ?_)
  (repeat' (first | (refine LW.is ?_; first | refine s_v ?_ | refine s_m ?_ | refine s_nil ?_ | refine s_gd ?_ | (refine s_gsplit rfl rfl rfl (fun hb => ?_) (fun hb => ?_) <;> refine fct hb (fun hp => ?_))) | (refine DR.is ?_; first | refine d_v ?_ | refine d_m ?_ | (apply d_nil; kernel_rfl) | refine d_gd ?_ | (refine d_gsplit rfl rfl rfl (fun hb => ?_) (fun hb => ?_) <;> refine fct hb (fun hp => ?_))) | refine c_go ?_ | refine s_region ?_ | refine d_region ?_ | (refine L.cond rfl (fun hb => ?_) (fun hb => ?_) <;> refine fct hb (fun hp => ?_))))
  all_goals (apply L.ends; exact rfl; exact rfl; exact Sub.refl _; exact Wk.mk' (by intro id h; simp [keys] at h; subst h; rfl) .nil (.cons rfl rfl (Subs.refl _) .nil) .nil)
set_option maxHeartbeats 16000000 in
theorem bindSt_any (c : Cat) (hc : c.Ok) (s : Stm) (hok : s.Ok) :
    CallG gs0 Tryd.prog 8 [.agg (c.c.map .iv), .agg (s.cs.map .iv)] [] [] [] (.tup [.agg ((bindStM c s).1.cs.map .iv), .iv (I (bindStM c s).2)]) := by
  have kg := goodCat_any c hc
  have ke := exprs_any s hok
  have kc := containsE0_any (gs := gs0) (f := 43) (fun e => !goodExM 1 e) (exprsM s) ?hel (fun e he => bind1f_any e (hok.all e he))
  case hel =>
    have h := hok.tot
    unfold exprsM
    simp only [List.length_append, List.length_map]
    have : (if s.wh.op = 0 then ([] : List Ex) else [s.wh]).length ≤ 1 := by split <;> simp
    generalize s.rows.flatten.length = z at *
    omega
  have kfT := findTable_any c s.table hc.t
  have kfN := findTable_any c s.name hc.t
  have knN := named_any s.name hok.name
  have hgt : (⟨s.name, s.cols⟩ : Tab).Ok := ⟨hok.name, hok.cols, hok.cn⟩
  have kgt := goodTable_any ⟨s.name, s.cols⟩ hgt
  have kx := containsX_any (gs := gs0) (f := 48) (b := ⟨36, .l (s.cs.map .iv)⟩) (fun x => x.n == s.name) c.is hc.i rfl rfl (fun x _ => bind2f_any x s)
  unfold bindStM
  refine CallG.intro _ Tryd.func8 rfl Tryd.ntmps8 rfl (fun w0 E0 hG => ?_)
  cases hg : goodCatM c with
  | false =>
    rw [hg] at kg
    rw [show formM c s = false by simp [formM, hg], if_pos rfl]
    (repeat' (first | (refine LW.is ?_; first | (apply s_callG; exact rfl; exact hG; exact kg; exact rfl; exact rfl) | refine s_v ?_ | refine s_m ?_ | refine s_nil ?_ | refine s_gd ?_ | (refine s_gsplit rfl rfl rfl (fun hb => ?_) (fun hb => ?_) <;> refine fct hb (fun hp => ?_))) | (refine DR.is ?_; first | (apply d_callG; exact rfl; exact hG; exact kg; exact rfl; exact rfl) | refine d_v ?_ | refine d_m ?_ | (apply d_nil; kernel_rfl) | refine d_gd ?_ | (refine d_gsplit rfl rfl rfl (fun hb => ?_) (fun hb => ?_) <;> refine fct hb (fun hp => ?_))) | refine c_go ?_ | refine s_region ?_ | refine d_region ?_ | (refine L.cond rfl (fun hb => ?_) (fun hb => ?_) <;> refine fct hb (fun hp => ?_))))
    all_goals (first | (apply L.ends1; exact rfl; exact rfl; exact rfl) | (apply L.ends2; exact rfl; exact rfl; exact rfl) | (apply L.ends3; exact rfl; exact rfl; exact rfl) | (apply L.ends1A; exact rfl; exact rfl; exact rfl) | (apply L.ends2A; exact rfl; exact rfl; exact rfl) | (apply L.ends3A; exact rfl; exact rfl; exact rfl))
    all_goals rfl
  | true =>
  rw [hg] at kg
  obtain ⟨hct, hci, hcc⟩ := goodCat_find hg
  have kch := choose_any c s hok (by omega) (fun name => Nat.le_trans (hcc name) (by decide)) hok.wh.ok
  have kcg := change_any s hok (findT c s.table).1 (Nat.le_trans (hcc s.table) (by decide)) hok.wh.ok
  cases h1 : decide (s.kind < 1) with
  | true =>
    rw [show formM c s = false by simp [formM, hg, h1], if_pos rfl]
    (repeat' (first | (refine LW.is ?_; first | (apply s_callG; exact rfl; exact hG; exact kg; exact rfl; exact rfl) | refine s_v ?_ | refine s_m ?_ | refine s_nil ?_ | refine s_gd ?_ | (refine s_gsplit rfl rfl rfl (fun hb => ?_) (fun hb => ?_) <;> refine fct hb (fun hp => ?_))) | (refine DR.is ?_; first | (apply d_callG; exact rfl; exact hG; exact kg; exact rfl; exact rfl) | refine d_v ?_ | refine d_m ?_ | (apply d_nil; kernel_rfl) | refine d_gd ?_ | (refine d_gsplit rfl rfl rfl (fun hb => ?_) (fun hb => ?_) <;> refine fct hb (fun hp => ?_))) | refine c_go ?_ | refine s_region ?_ | refine d_region ?_ | (refine L.cond rfl (fun hb => ?_) (fun hb => ?_) <;> refine fct hb (fun hp => ?_))))
    all_goals (first | (apply L.ends1; exact rfl; exact rfl; exact rfl) | (apply L.ends2; exact rfl; exact rfl; exact rfl) | (apply L.ends3; exact rfl; exact rfl; exact rfl) | (apply L.ends1A; exact rfl; exact rfl; exact rfl) | (apply L.ends2A; exact rfl; exact rfl; exact rfl) | (apply L.ends3A; exact rfl; exact rfl; exact rfl))
    all_goals rfl
  | false =>
  cases h2 : decide (7 < s.kind) with
  | true =>
    rw [show formM c s = false by simp [formM, hg, h1, h2], if_pos rfl]
    (repeat' (first | (refine LW.is ?_; first | (apply s_callG; exact rfl; exact hG; exact kg; exact rfl; exact rfl) | refine s_v ?_ | refine s_m ?_ | refine s_nil ?_ | refine s_gd ?_ | (refine s_gsplit rfl rfl rfl (fun hb => ?_) (fun hb => ?_) <;> refine fct hb (fun hp => ?_))) | (refine DR.is ?_; first | (apply d_callG; exact rfl; exact hG; exact kg; exact rfl; exact rfl) | refine d_v ?_ | refine d_m ?_ | (apply d_nil; kernel_rfl) | refine d_gd ?_ | (refine d_gsplit rfl rfl rfl (fun hb => ?_) (fun hb => ?_) <;> refine fct hb (fun hp => ?_))) | refine c_go ?_ | refine s_region ?_ | refine d_region ?_ | (refine L.cond rfl (fun hb => ?_) (fun hb => ?_) <;> refine fct hb (fun hp => ?_))))
    all_goals (first | (apply L.ends1; exact rfl; exact rfl; exact rfl) | (apply L.ends2; exact rfl; exact rfl; exact rfl) | (apply L.ends3; exact rfl; exact rfl; exact rfl) | (apply L.ends1A; exact rfl; exact rfl; exact rfl) | (apply L.ends2A; exact rfl; exact rfl; exact rfl) | (apply L.ends3A; exact rfl; exact rfl; exact rfl))
    all_goals rfl
  | false =>
  cases h3 : (exprsM s).any (fun e => !goodExM 1 e) with
  | true =>
    rw [h3] at kc
    rw [show formM c s = false by simp [formM, hg, h1, h2, h3], if_pos rfl]
    (repeat' (first | (refine LW.is ?_; first | (apply s_callG; exact rfl; exact hG; exact kg; exact rfl; exact rfl) | (apply s_call0; exact rfl; exact ke; exact rfl; exact rfl) | (apply s_callG; exact rfl; exact hG; exact kc; exact rfl; exact rfl) | refine s_v ?_ | refine s_m ?_ | refine s_nil ?_ | refine s_gd ?_ | (refine s_gsplit rfl rfl rfl (fun hb => ?_) (fun hb => ?_) <;> refine fct hb (fun hp => ?_))) | (refine DR.is ?_; first | (apply d_callG; exact rfl; exact hG; exact kg; exact rfl; exact rfl) | (apply d_call0; exact rfl; exact ke; exact rfl; exact rfl) | (apply d_callG; exact rfl; exact hG; exact kc; exact rfl; exact rfl) | refine d_v ?_ | refine d_m ?_ | (apply d_nil; kernel_rfl) | refine d_gd ?_ | (refine d_gsplit rfl rfl rfl (fun hb => ?_) (fun hb => ?_) <;> refine fct hb (fun hp => ?_))) | refine c_go ?_ | refine s_region ?_ | refine d_region ?_ | (refine L.cond rfl (fun hb => ?_) (fun hb => ?_) <;> refine fct hb (fun hp => ?_))))
    all_goals (first | (apply L.ends1; exact rfl; exact rfl; exact rfl) | (apply L.ends2; exact rfl; exact rfl; exact rfl) | (apply L.ends3; exact rfl; exact rfl; exact rfl) | (apply L.ends1A; exact rfl; exact rfl; exact rfl) | (apply L.ends2A; exact rfl; exact rfl; exact rfl) | (apply L.ends3A; exact rfl; exact rfl; exact rfl))
    all_goals rfl
  | false =>
  rw [h3] at kc
  rw [show formM c s = true by simp [formM, hg, h1, h2, h3], if_neg (by decide)]
  have hk : s.kind = 1 ∨ s.kind = 2 ∨ s.kind = 3 ∨ s.kind = 4 ∨ s.kind = 5 ∨ s.kind = 6 ∨ s.kind = 7 := by
    have := of_decide_eq_false h1
    have := of_decide_eq_false h2
    omega
  have lts : ((c.ts.map Tab.c).length : Int) = (c.ts.length : Int) := by simp
  have lis : ((c.is.map Idx.c).length : Int) = (c.is.length : Int) := by simp
  have q0 : ((0 : Int) != 0) = false := rfl
  rcases hk with hk | hk | hk | hk | hk | hk | hk
  · -- create
    rw [show preM c s = (s, createE c s) by rw [preM, if_pos hk]]
    obtain ⟨kind, name, table, col, cols, rows, sets, frm, out, wh, ord, down, n⟩ := s
    dsimp only at hk kg ke kc kfT kfN knN kgt kx ⊢
    subst hk
    clear kch kcg hcc hgt hok
    unfold createE
    dsimp only
    generalize findT c table = ft at *
    generalize findT c name = fn at *
    obtain ⟨tt, is⟩ := ft
    obtain ⟨tn, twice⟩ := fn
    dsimp only at *
    cases hq : goodTabM ⟨name, cols⟩ with
    | false =>
      rw [hq] at kgt
      rw [if_pos rfl, if_pos (show (1 : Int) ≠ 0 by decide)]
      (repeat' (first | (refine LW.is ?_; first | (apply s_callG; exact rfl; exact hG; (first | exact kg | exact kc | exact kgt); exact rfl; exact rfl) | (apply s_call0; exact rfl; (first | exact ke | exact kfT); exact rfl; exact rfl) | (apply s_call0; exact rfl; exact kfN; exact rfl; exact rfl) | refine s_v ?_ | refine s_m ?_ | refine s_nil ?_ | refine s_gd ?_ | (refine s_gsplit rfl rfl rfl (fun hb => ?_) (fun hb => ?_) <;> refine fct hb (fun hp => ?_))) | (refine DR.is ?_; first | (apply d_callG; exact rfl; exact hG; (first | exact kg | exact kc | exact kgt); exact rfl; exact rfl) | (apply d_call0; exact rfl; (first | exact ke | exact kfT); exact rfl; exact rfl) | (apply d_call0; exact rfl; exact kfN; exact rfl; exact rfl) | refine d_v ?_ | refine d_m ?_ | (apply d_nil; kernel_rfl) | refine d_gd ?_ | (refine d_gsplit rfl rfl rfl (fun hb => ?_) (fun hb => ?_) <;> refine fct hb (fun hp => ?_))) | refine c_go ?_ | refine s_region ?_ | refine d_region ?_ | (refine L.cond rfl (fun hb => ?_) (fun hb => ?_) <;> refine fct hb (fun hp => ?_))))
      all_goals (first | (apply L.ends1; exact rfl; exact rfl; exact rfl) | (apply L.ends2; exact rfl; exact rfl; exact rfl) | (apply L.ends3; exact rfl; exact rfl; exact rfl) | (apply L.ends1A; exact rfl; exact rfl; exact rfl) | (apply L.ends2A; exact rfl; exact rfl; exact rfl) | (apply L.ends3A; exact rfl; exact rfl; exact rfl))
      all_goals rfl
    | true =>
    rw [hq] at kgt
    rw [if_neg (show ¬ (true = false) by decide)]
    cases twice with
    | true =>
      rw [if_pos rfl, if_pos (show (4 : Int) ≠ 0 by decide)]
      (repeat' (first | (refine LW.is ?_; first | (apply s_callG; exact rfl; exact hG; (first | exact kg | exact kc | exact kgt); exact rfl; exact rfl) | (apply s_call0; exact rfl; (first | exact ke | exact kfT); exact rfl; exact rfl) | (apply s_call0; exact rfl; exact kfN; exact rfl; exact rfl) | refine s_v ?_ | refine s_m ?_ | refine s_nil ?_ | refine s_gd ?_ | (refine s_gsplit rfl rfl rfl (fun hb => ?_) (fun hb => ?_) <;> refine fct hb (fun hp => ?_))) | (refine DR.is ?_; first | (apply d_callG; exact rfl; exact hG; (first | exact kg | exact kc | exact kgt); exact rfl; exact rfl) | (apply d_call0; exact rfl; (first | exact ke | exact kfT); exact rfl; exact rfl) | (apply d_call0; exact rfl; exact kfN; exact rfl; exact rfl) | refine d_v ?_ | refine d_m ?_ | (apply d_nil; kernel_rfl) | refine d_gd ?_ | (refine d_gsplit rfl rfl rfl (fun hb => ?_) (fun hb => ?_) <;> refine fct hb (fun hp => ?_))) | refine c_go ?_ | refine s_region ?_ | refine d_region ?_ | (refine L.cond rfl (fun hb => ?_) (fun hb => ?_) <;> refine fct hb (fun hp => ?_))))
      all_goals (first | (apply L.ends1; exact rfl; exact rfl; exact rfl) | (apply L.ends2; exact rfl; exact rfl; exact rfl) | (apply L.ends3; exact rfl; exact rfl; exact rfl) | (apply L.ends1A; exact rfl; exact rfl; exact rfl) | (apply L.ends2A; exact rfl; exact rfl; exact rfl) | (apply L.ends3A; exact rfl; exact rfl; exact rfl))
      all_goals rfl
    | false =>
    rw [if_neg (show ¬ (false = true) by decide)]
    by_cases h3 : 3 ≤ c.ts.length
    · have q3 : decide ((3 : Int) ≤ ((c.ts.map Tab.c).length : Int)) = true := decide_eq_true (by rw [lts]; omega)
      rw [if_pos h3, if_pos (show (8 : Int) ≠ 0 by decide)]
      (repeat' (first | (refine LW.is ?_; first | (apply s_callG; exact rfl; exact hG; (first | exact kg | exact kc | exact kgt); exact rfl; exact rfl) | (apply s_call0; exact rfl; (first | exact ke | exact kfT); exact rfl; exact rfl) | (apply s_call0; exact rfl; exact kfN; exact rfl; exact rfl) | refine s_v ?_ | refine s_m ?_ | refine s_nil ?_ | refine s_gd ?_ | (refine s_gsplit rfl rfl rfl (fun hb => ?_) (fun hb => ?_) <;> refine fct hb (fun hp => ?_))) | (refine DR.is ?_; first | (apply d_callG; exact rfl; exact hG; (first | exact kg | exact kc | exact kgt); exact rfl; exact rfl) | (apply d_call0; exact rfl; (first | exact ke | exact kfT); exact rfl; exact rfl) | (apply d_call0; exact rfl; exact kfN; exact rfl; exact rfl) | refine d_v ?_ | refine d_m ?_ | (apply d_nil; kernel_rfl) | refine d_gd ?_ | (refine d_gsplit rfl rfl rfl (fun hb => ?_) (fun hb => ?_) <;> refine fct hb (fun hp => ?_))) | refine c_go ?_ | refine s_region ?_ | refine d_region ?_ | (refine L.cond rfl (fun hb => ?_) (fun hb => ?_) <;> refine fct hb (fun hp => ?_))))
      all_goals (first | (apply L.ends1; exact rfl; exact rfl; exact rfl) | (apply L.ends2; exact rfl; exact rfl; exact rfl) | (apply L.ends3; exact rfl; exact rfl; exact rfl) | (apply L.ends1A; exact rfl; exact rfl; exact rfl) | (apply L.ends2A; exact rfl; exact rfl; exact rfl) | (apply L.ends3A; exact rfl; exact rfl; exact rfl))
      all_goals rfl
    · have q3 : decide ((3 : Int) ≤ ((c.ts.map Tab.c).length : Int)) = false := decide_eq_false (by rw [lts]; omega)
      rw [if_neg h3, if_neg (show ¬ ((0 : Int) ≠ 0) by decide)]
      (repeat' (first | (refine LW.is ?_; first | (apply s_callG; exact rfl; exact hG; (first | exact kg | exact kc | exact kgt); exact rfl; exact rfl) | (apply s_call0; exact rfl; (first | exact ke | exact kfT); exact rfl; exact rfl) | (apply s_call0; exact rfl; exact kfN; exact rfl; exact rfl) | refine s_v ?_ | refine s_m ?_ | refine s_nil ?_ | refine s_gd ?_ | (refine s_gsplit rfl rfl rfl (fun hb => ?_) (fun hb => ?_) <;> refine fct hb (fun hp => ?_))) | (refine DR.is ?_; first | (apply d_callG; exact rfl; exact hG; (first | exact kg | exact kc | exact kgt); exact rfl; exact rfl) | (apply d_call0; exact rfl; (first | exact ke | exact kfT); exact rfl; exact rfl) | (apply d_call0; exact rfl; exact kfN; exact rfl; exact rfl) | refine d_v ?_ | refine d_m ?_ | (apply d_nil; kernel_rfl) | refine d_gd ?_ | (refine d_gsplit rfl rfl rfl (fun hb => ?_) (fun hb => ?_) <;> refine fct hb (fun hp => ?_))) | refine c_go ?_ | refine s_region ?_ | refine d_region ?_ | (refine L.cond rfl (fun hb => ?_) (fun hb => ?_) <;> refine fct hb (fun hp => ?_))))
      all_goals (first | (apply L.ends1; exact rfl; exact rfl; exact rfl) | (apply L.ends2; exact rfl; exact rfl; exact rfl) | (apply L.ends3; exact rfl; exact rfl; exact rfl) | (apply L.ends1A; exact rfl; exact rfl; exact rfl) | (apply L.ends2A; exact rfl; exact rfl; exact rfl) | (apply L.ends3A; exact rfl; exact rfl; exact rfl))
      all_goals rfl
  · -- mark
    rw [show preM c s = (s, markE c s) by rw [preM, if_neg (by rw [hk]; decide), if_pos hk]]
    have kcol := findCol_any (findT c s.table).1 s.col (Nat.le_trans (hcc s.table) (by decide))
    obtain ⟨kind, name, table, col, cols, rows, sets, frm, out, wh, ord, down, n⟩ := s
    dsimp only at hk kg ke kc kfT kfN knN kgt kx kcol ⊢
    subst hk
    clear kch kcg hcc hgt hok kgt kfN
    unfold markE
    dsimp only
    generalize findT c table = ft at *
    obtain ⟨tt, is⟩ := ft
    dsimp only at *
    cases hq : namedM name with
    | false =>
      rw [hq] at knN
      rw [if_pos rfl, if_pos (show (1 : Int) ≠ 0 by decide)]
      (repeat' (first | (refine LW.is ?_; first | (apply s_callG; exact rfl; exact hG; (first | exact kg | exact kc | exact knN); exact rfl; exact rfl) | (apply s_call0; exact rfl; (first | exact ke | exact kfT | exact kcol); exact rfl; exact rfl) | (apply s_vr; exact rfl; apply v_makeFunc; exact rfl) | (apply s_callG1 (q := 3); exact rfl; exact hG; exact kx; exact rfl; exact rfl; exact rfl; exact rfl; exact rfl; exact rfl; exact rfl) | refine s_v ?_ | refine s_m ?_ | refine s_nil ?_ | refine s_gd ?_ | (refine s_gsplit rfl rfl rfl (fun hb => ?_) (fun hb => ?_) <;> refine fct hb (fun hp => ?_))) | (refine DR.is ?_; first | (apply d_callG; exact rfl; exact hG; (first | exact kg | exact kc | exact knN); exact rfl; exact rfl) | (apply d_call0; exact rfl; (first | exact ke | exact kfT | exact kcol); exact rfl; exact rfl) | (apply d_vr; exact rfl; apply v_makeFunc; exact rfl) | (apply d_callG1 (q := 3); exact rfl; exact hG; exact kx; exact rfl; exact rfl; exact rfl; exact rfl; exact rfl; exact rfl; exact rfl) | refine d_v ?_ | refine d_m ?_ | (apply d_nil; kernel_rfl) | refine d_gd ?_ | (refine d_gsplit rfl rfl rfl (fun hb => ?_) (fun hb => ?_) <;> refine fct hb (fun hp => ?_))) | refine c_go ?_ | refine s_region ?_ | refine d_region ?_ | (refine L.cond rfl (fun hb => ?_) (fun hb => ?_) <;> refine fct hb (fun hp => ?_))))
      all_goals (first | (apply L.ends1; exact rfl; exact rfl; exact rfl) | (apply L.ends2; exact rfl; exact rfl; exact rfl) | (apply L.ends3; exact rfl; exact rfl; exact rfl) | (apply L.ends1A; exact rfl; exact rfl; exact rfl) | (apply L.ends2A; exact rfl; exact rfl; exact rfl) | (apply L.ends3A; exact rfl; exact rfl; exact rfl))
      all_goals rfl
    | true =>
    rw [hq] at knN
    rw [if_neg (show ¬ (true = false) by decide)]
    cases is with
    | false =>
      rw [if_pos (show (false = false ∨ colM tt col < 0) from .inl rfl), if_pos (show (3 : Int) ≠ 0 by decide)]
      (repeat' (first | (refine LW.is ?_; first | (apply s_callG; exact rfl; exact hG; (first | exact kg | exact kc | exact knN); exact rfl; exact rfl) | (apply s_call0; exact rfl; (first | exact ke | exact kfT | exact kcol); exact rfl; exact rfl) | (apply s_vr; exact rfl; apply v_makeFunc; exact rfl) | (apply s_callG1 (q := 3); exact rfl; exact hG; exact kx; exact rfl; exact rfl; exact rfl; exact rfl; exact rfl; exact rfl; exact rfl) | refine s_v ?_ | refine s_m ?_ | refine s_nil ?_ | refine s_gd ?_ | (refine s_gsplit rfl rfl rfl (fun hb => ?_) (fun hb => ?_) <;> refine fct hb (fun hp => ?_))) | (refine DR.is ?_; first | (apply d_callG; exact rfl; exact hG; (first | exact kg | exact kc | exact knN); exact rfl; exact rfl) | (apply d_call0; exact rfl; (first | exact ke | exact kfT | exact kcol); exact rfl; exact rfl) | (apply d_vr; exact rfl; apply v_makeFunc; exact rfl) | (apply d_callG1 (q := 3); exact rfl; exact hG; exact kx; exact rfl; exact rfl; exact rfl; exact rfl; exact rfl; exact rfl; exact rfl) | refine d_v ?_ | refine d_m ?_ | (apply d_nil; kernel_rfl) | refine d_gd ?_ | (refine d_gsplit rfl rfl rfl (fun hb => ?_) (fun hb => ?_) <;> refine fct hb (fun hp => ?_))) | refine c_go ?_ | refine s_region ?_ | refine d_region ?_ | (refine L.cond rfl (fun hb => ?_) (fun hb => ?_) <;> refine fct hb (fun hp => ?_))))
      all_goals (first | (apply L.ends1; exact rfl; exact rfl; exact rfl) | (apply L.ends2; exact rfl; exact rfl; exact rfl) | (apply L.ends3; exact rfl; exact rfl; exact rfl) | (apply L.ends1A; exact rfl; exact rfl; exact rfl) | (apply L.ends2A; exact rfl; exact rfl; exact rfl) | (apply L.ends3A; exact rfl; exact rfl; exact rfl))
      all_goals rfl
    | true =>
    by_cases hc0 : colM tt col < 0
    · have qc : decide (colM tt col < 0) = true := decide_eq_true hc0
      rw [if_pos (show (true = false ∨ colM tt col < 0) from .inr hc0), if_pos (show (3 : Int) ≠ 0 by decide)]
      (repeat' (first | (refine LW.is ?_; first | (apply s_callG; exact rfl; exact hG; (first | exact kg | exact kc | exact knN); exact rfl; exact rfl) | (apply s_call0; exact rfl; (first | exact ke | exact kfT | exact kcol); exact rfl; exact rfl) | (apply s_vr; exact rfl; apply v_makeFunc; exact rfl) | (apply s_callG1 (q := 3); exact rfl; exact hG; exact kx; exact rfl; exact rfl; exact rfl; exact rfl; exact rfl; exact rfl; exact rfl) | refine s_v ?_ | refine s_m ?_ | refine s_nil ?_ | refine s_gd ?_ | (refine s_gsplit rfl rfl rfl (fun hb => ?_) (fun hb => ?_) <;> refine fct hb (fun hp => ?_))) | (refine DR.is ?_; first | (apply d_callG; exact rfl; exact hG; (first | exact kg | exact kc | exact knN); exact rfl; exact rfl) | (apply d_call0; exact rfl; (first | exact ke | exact kfT | exact kcol); exact rfl; exact rfl) | (apply d_vr; exact rfl; apply v_makeFunc; exact rfl) | (apply d_callG1 (q := 3); exact rfl; exact hG; exact kx; exact rfl; exact rfl; exact rfl; exact rfl; exact rfl; exact rfl; exact rfl) | refine d_v ?_ | refine d_m ?_ | (apply d_nil; kernel_rfl) | refine d_gd ?_ | (refine d_gsplit rfl rfl rfl (fun hb => ?_) (fun hb => ?_) <;> refine fct hb (fun hp => ?_))) | refine c_go ?_ | refine s_region ?_ | refine d_region ?_ | (refine L.cond rfl (fun hb => ?_) (fun hb => ?_) <;> refine fct hb (fun hp => ?_))))
      all_goals (first | (apply L.ends1; exact rfl; exact rfl; exact rfl) | (apply L.ends2; exact rfl; exact rfl; exact rfl) | (apply L.ends3; exact rfl; exact rfl; exact rfl) | (apply L.ends1A; exact rfl; exact rfl; exact rfl) | (apply L.ends2A; exact rfl; exact rfl; exact rfl) | (apply L.ends3A; exact rfl; exact rfl; exact rfl))
      all_goals rfl
    have qc : decide (colM tt col < 0) = false := decide_eq_false hc0
    rw [if_neg (show ¬ (true = false ∨ colM tt col < 0) by simp [hc0])]
    cases ha : c.is.any (fun x => x.n == name) with
    | true =>
      rw [ha] at kx
      rw [if_pos rfl, if_pos (show (4 : Int) ≠ 0 by decide)]
      (repeat' (first | (refine LW.is ?_; first | (apply s_callG; exact rfl; exact hG; (first | exact kg | exact kc | exact knN); exact rfl; exact rfl) | (apply s_call0; exact rfl; (first | exact ke | exact kfT | exact kcol); exact rfl; exact rfl) | (apply s_vr; exact rfl; apply v_makeFunc; exact rfl) | (apply s_callG1 (q := 3); exact rfl; exact hG; exact kx; exact rfl; exact rfl; exact rfl; exact rfl; exact rfl; exact rfl; exact rfl) | refine s_v ?_ | refine s_m ?_ | refine s_nil ?_ | refine s_gd ?_ | (refine s_gsplit rfl rfl rfl (fun hb => ?_) (fun hb => ?_) <;> refine fct hb (fun hp => ?_))) | (refine DR.is ?_; first | (apply d_callG; exact rfl; exact hG; (first | exact kg | exact kc | exact knN); exact rfl; exact rfl) | (apply d_call0; exact rfl; (first | exact ke | exact kfT | exact kcol); exact rfl; exact rfl) | (apply d_vr; exact rfl; apply v_makeFunc; exact rfl) | (apply d_callG1 (q := 3); exact rfl; exact hG; exact kx; exact rfl; exact rfl; exact rfl; exact rfl; exact rfl; exact rfl; exact rfl) | refine d_v ?_ | refine d_m ?_ | (apply d_nil; kernel_rfl) | refine d_gd ?_ | (refine d_gsplit rfl rfl rfl (fun hb => ?_) (fun hb => ?_) <;> refine fct hb (fun hp => ?_))) | refine c_go ?_ | refine s_region ?_ | refine d_region ?_ | (refine L.cond rfl (fun hb => ?_) (fun hb => ?_) <;> refine fct hb (fun hp => ?_))))
      all_goals (first | (apply L.ends1; exact rfl; exact rfl; exact rfl) | (apply L.ends2; exact rfl; exact rfl; exact rfl) | (apply L.ends3; exact rfl; exact rfl; exact rfl) | (apply L.ends1A; exact rfl; exact rfl; exact rfl) | (apply L.ends2A; exact rfl; exact rfl; exact rfl) | (apply L.ends3A; exact rfl; exact rfl; exact rfl))
      all_goals rfl
    | false =>
    rw [ha] at kx
    rw [if_neg (show ¬ (false = true) by decide)]
    by_cases h4 : 4 ≤ c.is.length
    · have q3 : decide ((4 : Int) ≤ ((c.is.map Idx.c).length : Int)) = true := decide_eq_true (by rw [lis]; omega)
      rw [if_pos h4, if_pos (show (8 : Int) ≠ 0 by decide)]
      (repeat' (first | (refine LW.is ?_; first | (apply s_callG; exact rfl; exact hG; (first | exact kg | exact kc | exact knN); exact rfl; exact rfl) | (apply s_call0; exact rfl; (first | exact ke | exact kfT | exact kcol); exact rfl; exact rfl) | (apply s_vr; exact rfl; apply v_makeFunc; exact rfl) | (apply s_callG1 (q := 3); exact rfl; exact hG; exact kx; exact rfl; exact rfl; exact rfl; exact rfl; exact rfl; exact rfl; exact rfl) | refine s_v ?_ | refine s_m ?_ | refine s_nil ?_ | refine s_gd ?_ | (refine s_gsplit rfl rfl rfl (fun hb => ?_) (fun hb => ?_) <;> refine fct hb (fun hp => ?_))) | (refine DR.is ?_; first | (apply d_callG; exact rfl; exact hG; (first | exact kg | exact kc | exact knN); exact rfl; exact rfl) | (apply d_call0; exact rfl; (first | exact ke | exact kfT | exact kcol); exact rfl; exact rfl) | (apply d_vr; exact rfl; apply v_makeFunc; exact rfl) | (apply d_callG1 (q := 3); exact rfl; exact hG; exact kx; exact rfl; exact rfl; exact rfl; exact rfl; exact rfl; exact rfl; exact rfl) | refine d_v ?_ | refine d_m ?_ | (apply d_nil; kernel_rfl) | refine d_gd ?_ | (refine d_gsplit rfl rfl rfl (fun hb => ?_) (fun hb => ?_) <;> refine fct hb (fun hp => ?_))) | refine c_go ?_ | refine s_region ?_ | refine d_region ?_ | (refine L.cond rfl (fun hb => ?_) (fun hb => ?_) <;> refine fct hb (fun hp => ?_))))
      all_goals (first | (apply L.ends1; exact rfl; exact rfl; exact rfl) | (apply L.ends2; exact rfl; exact rfl; exact rfl) | (apply L.ends3; exact rfl; exact rfl; exact rfl) | (apply L.ends1A; exact rfl; exact rfl; exact rfl) | (apply L.ends2A; exact rfl; exact rfl; exact rfl) | (apply L.ends3A; exact rfl; exact rfl; exact rfl))
      all_goals rfl
    · have q3 : decide ((4 : Int) ≤ ((c.is.map Idx.c).length : Int)) = false := decide_eq_false (by rw [lis]; omega)
      rw [if_neg h4, if_neg (show ¬ ((0 : Int) ≠ 0) by decide)]
      (repeat' (first | (refine LW.is ?_; first | (apply s_callG; exact rfl; exact hG; (first | exact kg | exact kc | exact knN); exact rfl; exact rfl) | (apply s_call0; exact rfl; (first | exact ke | exact kfT | exact kcol); exact rfl; exact rfl) | (apply s_vr; exact rfl; apply v_makeFunc; exact rfl) | (apply s_callG1 (q := 3); exact rfl; exact hG; exact kx; exact rfl; exact rfl; exact rfl; exact rfl; exact rfl; exact rfl; exact rfl) | refine s_v ?_ | refine s_m ?_ | refine s_nil ?_ | refine s_gd ?_ | (refine s_gsplit rfl rfl rfl (fun hb => ?_) (fun hb => ?_) <;> refine fct hb (fun hp => ?_))) | (refine DR.is ?_; first | (apply d_callG; exact rfl; exact hG; (first | exact kg | exact kc | exact knN); exact rfl; exact rfl) | (apply d_call0; exact rfl; (first | exact ke | exact kfT | exact kcol); exact rfl; exact rfl) | (apply d_vr; exact rfl; apply v_makeFunc; exact rfl) | (apply d_callG1 (q := 3); exact rfl; exact hG; exact kx; exact rfl; exact rfl; exact rfl; exact rfl; exact rfl; exact rfl; exact rfl) | refine d_v ?_ | refine d_m ?_ | (apply d_nil; kernel_rfl) | refine d_gd ?_ | (refine d_gsplit rfl rfl rfl (fun hb => ?_) (fun hb => ?_) <;> refine fct hb (fun hp => ?_))) | refine c_go ?_ | refine s_region ?_ | refine d_region ?_ | (refine L.cond rfl (fun hb => ?_) (fun hb => ?_) <;> refine fct hb (fun hp => ?_))))
      all_goals (first | (apply L.ends1; exact rfl; exact rfl; exact rfl) | (apply L.ends2; exact rfl; exact rfl; exact rfl) | (apply L.ends3; exact rfl; exact rfl; exact rfl) | (apply L.ends1A; exact rfl; exact rfl; exact rfl) | (apply L.ends2A; exact rfl; exact rfl; exact rfl) | (apply L.ends3A; exact rfl; exact rfl; exact rfl))
      all_goals rfl
  · -- drop
    rw [show preM c s = (s, if (findT c s.name).2 then 0 else 3) by rw [preM, if_neg (by rw [hk]; decide), if_neg (by rw [hk]; decide), if_pos hk]]
    obtain ⟨kind, name, table, col, cols, rows, sets, frm, out, wh, ord, down, n⟩ := s
    dsimp only at hk kg ke kc kfT kfN ⊢
    subst hk
    clear kch kcg hcc hgt hok kgt knN kx
    generalize findT c table = ft at *
    generalize findT c name = fn at *
    obtain ⟨tt, is⟩ := ft
    obtain ⟨tn, there⟩ := fn
    dsimp only at *
    cases there with
    | false =>
      rw [if_pos (show ((if false = true then (0 : Int) else 3) ≠ 0) by decide)]
      (repeat' (first | (refine LW.is ?_; first | (apply s_callG; exact rfl; exact hG; (first | exact kg | exact kc); exact rfl; exact rfl) | (apply s_call0; exact rfl; (first | exact ke | exact kfT); exact rfl; exact rfl) | (apply s_call0; exact rfl; exact kfN; exact rfl; exact rfl) | refine s_v ?_ | refine s_m ?_ | refine s_nil ?_ | refine s_gd ?_ | (refine s_gsplit rfl rfl rfl (fun hb => ?_) (fun hb => ?_) <;> refine fct hb (fun hp => ?_))) | (refine DR.is ?_; first | (apply d_callG; exact rfl; exact hG; (first | exact kg | exact kc); exact rfl; exact rfl) | (apply d_call0; exact rfl; (first | exact ke | exact kfT); exact rfl; exact rfl) | (apply d_call0; exact rfl; exact kfN; exact rfl; exact rfl) | refine d_v ?_ | refine d_m ?_ | (apply d_nil; kernel_rfl) | refine d_gd ?_ | (refine d_gsplit rfl rfl rfl (fun hb => ?_) (fun hb => ?_) <;> refine fct hb (fun hp => ?_))) | refine c_go ?_ | refine s_region ?_ | refine d_region ?_ | (refine L.cond rfl (fun hb => ?_) (fun hb => ?_) <;> refine fct hb (fun hp => ?_))))
      all_goals (first | (apply L.ends1; exact rfl; exact rfl; exact rfl) | (apply L.ends2; exact rfl; exact rfl; exact rfl) | (apply L.ends3; exact rfl; exact rfl; exact rfl) | (apply L.ends1A; exact rfl; exact rfl; exact rfl) | (apply L.ends2A; exact rfl; exact rfl; exact rfl) | (apply L.ends3A; exact rfl; exact rfl; exact rfl))
      all_goals rfl
    | true =>
      rw [if_neg (show ¬ ((if true = true then (0 : Int) else 3) ≠ 0) by decide)]
      (repeat' (first | (refine LW.is ?_; first | (apply s_callG; exact rfl; exact hG; (first | exact kg | exact kc); exact rfl; exact rfl) | (apply s_call0; exact rfl; (first | exact ke | exact kfT); exact rfl; exact rfl) | (apply s_call0; exact rfl; exact kfN; exact rfl; exact rfl) | refine s_v ?_ | refine s_m ?_ | refine s_nil ?_ | refine s_gd ?_ | (refine s_gsplit rfl rfl rfl (fun hb => ?_) (fun hb => ?_) <;> refine fct hb (fun hp => ?_))) | (refine DR.is ?_; first | (apply d_callG; exact rfl; exact hG; (first | exact kg | exact kc); exact rfl; exact rfl) | (apply d_call0; exact rfl; (first | exact ke | exact kfT); exact rfl; exact rfl) | (apply d_call0; exact rfl; exact kfN; exact rfl; exact rfl) | refine d_v ?_ | refine d_m ?_ | (apply d_nil; kernel_rfl) | refine d_gd ?_ | (refine d_gsplit rfl rfl rfl (fun hb => ?_) (fun hb => ?_) <;> refine fct hb (fun hp => ?_))) | refine c_go ?_ | refine s_region ?_ | refine d_region ?_ | (refine L.cond rfl (fun hb => ?_) (fun hb => ?_) <;> refine fct hb (fun hp => ?_))))
      all_goals (first | (apply L.ends1; exact rfl; exact rfl; exact rfl) | (apply L.ends2; exact rfl; exact rfl; exact rfl) | (apply L.ends3; exact rfl; exact rfl; exact rfl) | (apply L.ends1A; exact rfl; exact rfl; exact rfl) | (apply L.ends2A; exact rfl; exact rfl; exact rfl) | (apply L.ends3A; exact rfl; exact rfl; exact rfl))
      all_goals rfl
  iterate 3
    · -- insert, delete, update
      rw [show preM c s = if (findT c s.table).2 then changeM s (findT c s.table).1 else (s, 3) by rw [preM, if_neg (by rw [hk]; decide), if_neg (by rw [hk]; decide), if_neg (by rw [hk]; decide), if_neg (by rw [hk]; decide)]]
      generalize hm : changeM s (findT c s.table).1 = m at *
      obtain ⟨kind, name, table, col, cols, rows, sets, frm, out, wh, ord, down, n⟩ := s
      dsimp only at hk kg ke kc kfT kcg ⊢
      subst hk
      clear hm kch hcc hgt hok kgt knN kx kfN
      generalize findT c table = ft at *
      obtain ⟨tt, is⟩ := ft
      obtain ⟨m1, m2⟩ := m
      dsimp only at *
      cases is with
      | false =>
        rw [if_neg (show ¬ (false = true) by decide), if_pos (show (3 : Int) ≠ 0 by decide)]
        (repeat' (first | (refine LW.is ?_; first | (apply s_callG; exact rfl; exact hG; (first | exact kg | exact kc); exact rfl; exact rfl) | (apply s_call0; exact rfl; (first | exact ke | exact kfT); exact rfl; exact rfl) | (apply s_call0; exact rfl; exact kfN; exact rfl; exact rfl) | refine s_v ?_ | refine s_m ?_ | refine s_nil ?_ | refine s_gd ?_ | (refine s_gsplit rfl rfl rfl (fun hb => ?_) (fun hb => ?_) <;> refine fct hb (fun hp => ?_))) | (refine DR.is ?_; first | (apply d_callG; exact rfl; exact hG; (first | exact kg | exact kc); exact rfl; exact rfl) | (apply d_call0; exact rfl; (first | exact ke | exact kfT); exact rfl; exact rfl) | (apply d_call0; exact rfl; exact kfN; exact rfl; exact rfl) | refine d_v ?_ | refine d_m ?_ | (apply d_nil; kernel_rfl) | refine d_gd ?_ | (refine d_gsplit rfl rfl rfl (fun hb => ?_) (fun hb => ?_) <;> refine fct hb (fun hp => ?_))) | refine c_go ?_ | refine s_region ?_ | refine d_region ?_ | (refine L.cond rfl (fun hb => ?_) (fun hb => ?_) <;> refine fct hb (fun hp => ?_))))
        all_goals (first | (apply L.ends1; exact rfl; exact rfl; exact rfl) | (apply L.ends2; exact rfl; exact rfl; exact rfl) | (apply L.ends3; exact rfl; exact rfl; exact rfl) | (apply L.ends1A; exact rfl; exact rfl; exact rfl) | (apply L.ends2A; exact rfl; exact rfl; exact rfl) | (apply L.ends3A; exact rfl; exact rfl; exact rfl))
        all_goals rfl
      | true =>
      rw [if_pos rfl]
      by_cases hm2 : m2 = 0
      · subst hm2
        rw [if_neg (show ¬ ((0 : Int) ≠ 0) by decide)]
        (repeat' (first | (refine LW.is ?_; first | (apply s_callG; exact rfl; exact hG; (first | exact kg | exact kc); exact rfl; exact rfl) | (apply s_call0; exact rfl; (first | exact ke | exact kfT | exact kcg); exact rfl; exact rfl) | refine s_v ?_ | refine s_m ?_ | refine s_nil ?_ | refine s_gd ?_ | (refine s_gsplit rfl rfl rfl (fun hb => ?_) (fun hb => ?_) <;> refine fct hb (fun hp => ?_))) | (refine DR.is ?_; first | (apply d_callG; exact rfl; exact hG; (first | exact kg | exact kc); exact rfl; exact rfl) | (apply d_call0; exact rfl; (first | exact ke | exact kfT | exact kcg); exact rfl; exact rfl) | refine d_v ?_ | refine d_m ?_ | (apply d_nil; kernel_rfl) | refine d_gd ?_ | (refine d_gsplit rfl rfl rfl (fun hb => ?_) (fun hb => ?_) <;> refine fct hb (fun hp => ?_))) | refine c_go ?_ | refine s_region ?_ | refine d_region ?_ | (refine L.cond rfl (fun hb => ?_) (fun hb => ?_) <;> refine fct hb (fun hp => ?_))))
        all_goals (first | (apply L.ends1; exact rfl; exact rfl; exact rfl) | (apply L.ends2; exact rfl; exact rfl; exact rfl) | (apply L.ends3; exact rfl; exact rfl; exact rfl) | (apply L.ends1A; exact rfl; exact rfl; exact rfl) | (apply L.ends2A; exact rfl; exact rfl; exact rfl) | (apply L.ends3A; exact rfl; exact rfl; exact rfl))
        all_goals rfl
      · have qm : (m2 != 0) = true := by simpa using hm2
        rw [if_pos hm2]
        (repeat' (first | (refine LW.is ?_; first | (apply s_callG; exact rfl; exact hG; (first | exact kg | exact kc); exact rfl; exact rfl) | (apply s_call0; exact rfl; (first | exact ke | exact kfT | exact kcg); exact rfl; exact rfl) | refine s_v ?_ | refine s_m ?_ | refine s_nil ?_ | refine s_gd ?_ | (refine s_gsplit rfl rfl rfl (fun hb => ?_) (fun hb => ?_) <;> refine fct hb (fun hp => ?_))) | (refine DR.is ?_; first | (apply d_callG; exact rfl; exact hG; (first | exact kg | exact kc); exact rfl; exact rfl) | (apply d_call0; exact rfl; (first | exact ke | exact kfT | exact kcg); exact rfl; exact rfl) | refine d_v ?_ | refine d_m ?_ | (apply d_nil; kernel_rfl) | refine d_gd ?_ | (refine d_gsplit rfl rfl rfl (fun hb => ?_) (fun hb => ?_) <;> refine fct hb (fun hp => ?_))) | refine c_go ?_ | refine s_region ?_ | refine d_region ?_ | (refine L.cond rfl (fun hb => ?_) (fun hb => ?_) <;> refine fct hb (fun hp => ?_))))
        all_goals (first | (apply L.ends1; exact rfl; exact rfl; exact rfl) | (apply L.ends2; exact rfl; exact rfl; exact rfl) | (apply L.ends3; exact rfl; exact rfl; exact rfl) | (apply L.ends1A; exact rfl; exact rfl; exact rfl) | (apply L.ends2A; exact rfl; exact rfl; exact rfl) | (apply L.ends3A; exact rfl; exact rfl; exact rfl))
        all_goals rfl
  · -- select
    rw [show preM c s = chooseM c s by rw [preM, if_neg (by rw [hk]; decide), if_neg (by rw [hk]; decide), if_neg (by rw [hk]; decide), if_pos hk]]
    generalize chooseM c s = m at *
    obtain ⟨kind, name, table, col, cols, rows, sets, frm, out, wh, ord, down, n⟩ := s
    dsimp only at hk kg ke kc kfT kch ⊢
    subst hk
    clear kcg hcc hgt hok kgt knN kx kfN
    generalize findT c table = ft at *
    obtain ⟨tt, is⟩ := ft
    obtain ⟨m1, m2⟩ := m
    dsimp only at *
    by_cases hm2 : m2 = 0
    · subst hm2
      rw [if_neg (show ¬ ((0 : Int) ≠ 0) by decide)]
      (repeat' (first | (refine LW.is ?_; first | (apply s_callG; exact rfl; exact hG; (first | exact kg | exact kc); exact rfl; exact rfl) | (apply s_call0; exact rfl; (first | exact ke | exact kfT | exact kch); exact rfl; exact rfl) | refine s_v ?_ | refine s_m ?_ | refine s_nil ?_ | refine s_gd ?_ | (refine s_gsplit rfl rfl rfl (fun hb => ?_) (fun hb => ?_) <;> refine fct hb (fun hp => ?_))) | (refine DR.is ?_; first | (apply d_callG; exact rfl; exact hG; (first | exact kg | exact kc); exact rfl; exact rfl) | (apply d_call0; exact rfl; (first | exact ke | exact kfT | exact kch); exact rfl; exact rfl) | refine d_v ?_ | refine d_m ?_ | (apply d_nil; kernel_rfl) | refine d_gd ?_ | (refine d_gsplit rfl rfl rfl (fun hb => ?_) (fun hb => ?_) <;> refine fct hb (fun hp => ?_))) | refine c_go ?_ | refine s_region ?_ | refine d_region ?_ | (refine L.cond rfl (fun hb => ?_) (fun hb => ?_) <;> refine fct hb (fun hp => ?_))))
      all_goals (first | (apply L.ends1; exact rfl; exact rfl; exact rfl) | (apply L.ends2; exact rfl; exact rfl; exact rfl) | (apply L.ends3; exact rfl; exact rfl; exact rfl) | (apply L.ends1A; exact rfl; exact rfl; exact rfl) | (apply L.ends2A; exact rfl; exact rfl; exact rfl) | (apply L.ends3A; exact rfl; exact rfl; exact rfl))
      all_goals rfl
    · have qm : (m2 != 0) = true := by simpa using hm2
      rw [if_pos hm2]
      (repeat' (first | (refine LW.is ?_; first | (apply s_callG; exact rfl; exact hG; (first | exact kg | exact kc); exact rfl; exact rfl) | (apply s_call0; exact rfl; (first | exact ke | exact kfT | exact kch); exact rfl; exact rfl) | refine s_v ?_ | refine s_m ?_ | refine s_nil ?_ | refine s_gd ?_ | (refine s_gsplit rfl rfl rfl (fun hb => ?_) (fun hb => ?_) <;> refine fct hb (fun hp => ?_))) | (refine DR.is ?_; first | (apply d_callG; exact rfl; exact hG; (first | exact kg | exact kc); exact rfl; exact rfl) | (apply d_call0; exact rfl; (first | exact ke | exact kfT | exact kch); exact rfl; exact rfl) | refine d_v ?_ | refine d_m ?_ | (apply d_nil; kernel_rfl) | refine d_gd ?_ | (refine d_gsplit rfl rfl rfl (fun hb => ?_) (fun hb => ?_) <;> refine fct hb (fun hp => ?_))) | refine c_go ?_ | refine s_region ?_ | refine d_region ?_ | (refine L.cond rfl (fun hb => ?_) (fun hb => ?_) <;> refine fct hb (fun hp => ?_))))
      all_goals (first | (apply L.ends1; exact rfl; exact rfl; exact rfl) | (apply L.ends2; exact rfl; exact rfl; exact rfl) | (apply L.ends3; exact rfl; exact rfl; exact rfl) | (apply L.ends1A; exact rfl; exact rfl; exact rfl) | (apply L.ends2A; exact rfl; exact rfl; exact rfl) | (apply L.ends3A; exact rfl; exact rfl; exact rfl))
      all_goals rfl
end Go.Proofs.YthkobnpogigkiaaDoor
/- Commands, bound, plain laws: what a bound expression comes to is of its type. Conditions: none. -/
namespace Go.Proofs.YthkobnpogigkiaaDoor
open Go.Abs
set_option linter.unusedVariables false
set_option linter.unusedSimpArgs false
def okT (ty : Int) (v : Val) : Prop := (v.k = 0 ∨ v.k = ty) ∧ (ty ≠ 3 → goodM v = true)
theorem fitV_ok {c : Col} {v : Val} (h : fitV c v = true) : okT c.t v := by
  unfold fitV at h
  simp only [Bool.not_eq_true', Bool.or_eq_false_iff, Bool.not_eq_false', Bool.and_eq_false_iff, bne_eq_false_iff_eq] at h
  refine ⟨?_, fun _ => h.1⟩
  rcases h.2 with h | h
  · exact .inr h
  · exact .inl h.2
structure Upd (c : Cat) (s : Stm) (b : Stm) : Prop where
  tab : (findT c s.table).2 = true
  sets : ∀ x ∈ b.sets, 0 ≤ colM (findT c s.table).1 x.co ∧ ∃ y ∈ s.sets, mustM [(findT c s.table).1] y.e (colTy (findT c s.table).1 (colM (findT c s.table).1 x.co)) = (x.e, 0)
  wh : whereM [(findT c s.table).1] s.wh = (b.wh, 0)
  good : goodCatM c = true
  form : ∀ e ∈ exprsM s, goodExM 1 e = true
  len : b.sets.length = s.sets.length
theorem form_good {c : Cat} {s : Stm} (h : formM c s = true) : goodCatM c = true ∧ ∀ e ∈ exprsM s, goodExM 1 e = true := by
  simp only [formM, Bool.not_eq_true', Bool.or_eq_false_iff, Bool.not_eq_false'] at h
  refine ⟨h.1.1.1, fun e he => ?_⟩
  have := List.any_eq_false.1 h.2 e he
  simpa using this
theorem errM_zero {l : List Int} (h : errM l = 0) : ∀ x ∈ l, x = 0 := by
  intro x hx
  unfold errM at h
  cases hf : l.find? (fun f => f != 0) with
  | none => have := List.find?_eq_none.1 hf x hx; simpa using this
  | some y =>
    rw [hf] at h
    have := List.find?_some hf
    simp at h this; omega
theorem upd_of {c : Cat} {s b : Stm} (hk : s.kind = 4 ∨ s.kind = 5 ∨ s.kind = 6) (h : bindStM c s = (b, 0)) : Upd c s b := by
  unfold bindStM at h
  cases hf : formM c s with
  | false => rw [hf, if_pos rfl] at h; simp at h
  | true =>
  rw [hf, if_neg (by decide)] at h
  obtain ⟨hg, hfo⟩ := form_good hf
  by_cases hp : (preM c s).2 = 0
  case neg => rw [if_pos hp] at h; simp only [Prod.mk.injEq] at h; exact absurd h.2 hp
  rw [if_neg (by simp [hp])] at h
  simp only [Prod.mk.injEq] at h
  obtain ⟨h, _⟩ := h
  have hpre : preM c s = if (findT c s.table).2 then changeM s (findT c s.table).1 else (s, 3) := by
    rw [preM, if_neg (by omega), if_neg (by omega), if_neg (by omega), if_neg (by omega)]
  rw [hpre] at h hp
  cases ht : (findT c s.table).2 with
  | false => rw [ht, if_neg (by decide)] at hp; simp at hp
  | true =>
  rw [ht, if_pos rfl] at h hp
  unfold changeM at h hp
  by_cases he : rowsE s (findT c s.table).1 = 0
  case neg => rw [if_pos he] at hp; exact absurd hp he
  rw [if_neg (by simp [he])] at h hp
  by_cases hs : setsE s (findT c s.table).1 = 0
  case neg => rw [if_pos hs] at hp; exact absurd hp hs
  rw [if_neg (by simp [hs])] at h hp
  dsimp only at h hp
  refine ⟨ht, fun x hx => ?_, by rw [← h]; exact Prod.ext rfl hp, hg, hfo, by rw [← h]; simp⟩
  rw [← h] at hx
  obtain ⟨p, hp1, rfl⟩ := List.mem_map.1 hx
  have h0 := errM_zero hs _ (List.mem_map_of_mem (f := fun p => (setM (findT c s.table).1 s.sets p).2) hp1)
  have hy : p.1 ∈ s.sets := by
    obtain ⟨q, i⟩ := p
    exact List.mem_of_getElem? (List.mem_zipIdx_iff_getElem?.1 hp1)
  unfold setM at h0 ⊢
  by_cases hc : colM (findT c s.table).1 p.1.co < 0
  · rw [if_pos hc] at h0; simp at h0
  rw [if_neg hc] at h0 ⊢
  split at h0
  · simp at h0
  rename_i hany
  rw [if_neg hany]
  exact ⟨Int.not_lt.1 hc, p.1, hy, Prod.ext rfl h0⟩
end Go.Proofs.YthkobnpogigkiaaDoor
/- Tables and indexes: where a name is, by halving. Conditions: the names rise; how much there is of what comes in. -/
namespace Go.Abs
set_option linter.unusedVariables false
end Go.Abs
namespace Go.Proofs.YthkobnpogigkiaaDoor
open Go.Abs
set_option maxRecDepth 100000
attribute [local irreducible] L Code.wp bodyPost Exit.then Exit.inBlock
set_option linter.unusedVariables false
set_option linter.unusedSimpArgs false
end Go.Proofs.YthkobnpogigkiaaDoor
/- Catalogs, plain laws: what a good catalog is; a catalog behind a command. Conditions: none. -/
namespace Go.Proofs.YthkobnpogigkiaaDoor
open Go.Abs
set_option linter.unusedVariables false
set_option linter.unusedSimpArgs false
theorem zip_all {α : Type} {p : α × Nat → Bool} {l : List α} : l.zipIdx.all p = true ↔ ∀ i x, l[i]? = some x → p (x, i) = true := by
  rw [List.all_eq_true]
  constructor
  · intro h i x hx
    exact h (x, i) (List.mem_of_getElem? (zip_at hx))
  · rintro h ⟨x, i⟩ hm
    exact h i x (List.mem_zipIdx_iff_getElem?.1 hm)
theorem rises_iff {α : Type} (f : α → Str) (d : α) (l : List α) : (∀ i x, l[i]? = some x → 0 < i → f (l.getD (i - 1) d) < f x) ↔ (l.map f).Pairwise (· < ·) := by
  constructor
  · intro h
    have key : ∀ j, j < l.length → ∀ i, i < j → f (l.getD i d) < f (l.getD j d) := by
      intro j
      induction j with
      | zero => intro _ i hi; omega
      | succ j ih =>
        intro hj i hi
        have h1 := h (j + 1) (l.getD (j + 1) d) (getD_some d hj) (by omega)
        rw [Nat.add_sub_cancel] at h1
        rcases Nat.lt_or_eq_of_le (Nat.lt_succ_iff.1 hi) with h2 | rfl
        · exact lt_trans' (ih (by omega) i h2) h1
        · exact h1
    rw [List.pairwise_iff_getElem]
    intro i j hi hj hij
    rw [List.length_map] at hi hj
    have := key j hj i hij
    simpa [List.getD_eq_getElem?_getD, hi, hj] using this
  · intro h i x hx hi
    obtain ⟨hlt, rfl⟩ := List.getElem?_eq_some_iff.1 hx
    have h1 : i - 1 < l.length := by omega
    have := List.pairwise_iff_getElem.1 h (i - 1) i (by simpa using h1) (by simpa using hlt) (by omega)
    simpa [List.getD_eq_getElem?_getD, h1] using this
theorem tabOk_iff (c : Cat) (i : Nat) (t : Tab) : tabOk c i t = true ↔ goodTabM t = true ∧ (0 < i → (c.ts.getD (i - 1) ⟨[], []⟩).n < t.n) := by
  unfold tabOk
  rw [less_lt]
  rcases Nat.eq_zero_or_pos i with rfl | hi
  · cases goodTabM t <;> simp
  · have : (0 : Int) < (i : Int) := by omega
    cases goodTabM t <;> simp [hi, this]
theorem idxOk_iff (c : Cat) (i : Nat) (x : Idx) : idxOk c i x = true ↔ (namedM x.n = true ∧ (findT c x.tb).2 = true ∧ 0 ≤ colM (findT c x.tb).1 x.co) ∧ (0 < i → (c.is.getD (i - 1) ⟨[], [], []⟩).n < x.n) := by
  unfold idxOk
  rw [less_lt]
  rcases Nat.eq_zero_or_pos i with rfl | hi
  · cases namedM x.n <;> cases (findT c x.tb).2 <;> simp
  · have : (0 : Int) < (i : Int) := by omega
    cases namedM x.n <;> cases (findT c x.tb).2 <;> simp [hi, this]
structure GoodC (c : Cat) : Prop where
  tabs : ∀ t ∈ c.ts, goodTabM t = true
  tn : (c.ts.map Tab.n).Pairwise (· < ·)
  idx : ∀ x ∈ c.is, namedM x.n = true ∧ (findT c x.tb).2 = true ∧ 0 ≤ colM (findT c x.tb).1 x.co
  xn : (c.is.map Idx.n).Pairwise (· < ·)
  tl : c.ts.length ≤ 3
  il : c.is.length ≤ 4
theorem goodC_iff (c : Cat) : goodCatM c = true ↔ GoodC c := by
  unfold goodCatM tabsOk idxsOk
  simp only [Bool.and_eq_true, zip_all, tabOk_iff, idxOk_iff, decide_eq_true_eq]
  constructor
  · rintro ⟨h1, h2, h3, h4⟩
    refine ⟨fun t ht => ?_, (rises_iff Tab.n ⟨[], []⟩ c.ts).1 (fun i x hx => (h1 i x hx).2), fun x hx => ?_, (rises_iff Idx.n ⟨[], [], []⟩ c.is).1 (fun i x hx => (h2 i x hx).2), by omega, by omega⟩
    · obtain ⟨i, hi⟩ := List.getElem?_of_mem ht; exact (h1 i t hi).1
    · obtain ⟨i, hi⟩ := List.getElem?_of_mem hx; exact (h2 i x hi).1
  · intro h
    exact ⟨fun i x hx => ⟨h.tabs x (List.mem_of_getElem? hx), (rises_iff Tab.n ⟨[], []⟩ c.ts).2 h.tn i x hx⟩, fun i x hx => ⟨h.idx x (List.mem_of_getElem? hx), (rises_iff Idx.n ⟨[], [], []⟩ c.is).2 h.xn i x hx⟩, by have := h.tl; omega, by have := h.il; omega⟩
theorem findT_in {c : Cat} {n : Str} (h : (findT c n).2 = true) : (findT c n).1 ∈ c.ts ∧ (findT c n).1.n = n := by
  unfold findT at h ⊢
  cases hf : c.ts.find? (fun t => t.n == n) with
  | none => rw [hf] at h; cases h
  | some t => exact ⟨List.mem_of_find?_eq_some hf, by have := List.find?_some hf; simpa using this⟩
theorem names_inj {α : Type} {f : α → Str} : ∀ {l : List α}, (l.map f).Pairwise (· < ·) → ∀ a ∈ l, ∀ b ∈ l, f a = f b → a = b
  | [], _, a, ha, _, _, _ => by cases ha
  | x :: l, h, a, ha, b, hb, e => by
    rw [List.map_cons, List.pairwise_cons] at h
    rcases List.mem_cons.1 ha with h1 | h1 <;> rcases List.mem_cons.1 hb with h2 | h2
    · rw [h1, h2]
    · have := h.1 (f b) (List.mem_map_of_mem h2); rw [← e, h1] at this; exact absurd this (List.lt_irrefl _)
    · have := h.1 (f a) (List.mem_map_of_mem h1); rw [e, h2] at this; exact absurd this (List.lt_irrefl _)
    · exact names_inj h.2 a h1 b h2 e
theorem tri {x y : Str} (h : ¬ x < y) (hne : x ≠ y) : y < x := by
  cases h1 : Op.bytesLess y x with
  | true => rw [less_lt] at h1; exact of_decide_eq_true h1
  | false => exact absurd (less_tri (by rw [less_lt]; exact decide_eq_false h) h1) hne
end Go.Proofs.YthkobnpogigkiaaDoor
/- Ways to rows: what parts and bound compute. Conditions: how much there is of what comes in. -/
namespace Go.Abs
theorem L.endsIAI {P : Program} {c : Ctx} {st : St} {fn : Func} {res : AV} {rs : List ResultVar} {y u : IV} {cs : List AV} (hfn : fn.results = rs.toArray) (hv : (st.ress P rs).map AV.pub.pubs = some [.iv y, .agg cs, .iv u]) (hi : c.ins = []) (he : AV.tup [.iv y, .agg cs, .iv u] = res) : L c st (bodyPost P fn (Post c [] [] res) .ret) := L.endsP (bx' := []) hfn hv hi he
end Go.Abs
namespace Go.Proofs.YthkobnpogigkiaaDoor
open Go.Abs
set_option maxRecDepth 100000
attribute [local irreducible] L Code.wp bodyPost Exit.then Exit.inBlock
set_option linter.unusedVariables false
set_option linter.unusedSimpArgs false
def partsM : Ex → List Ex
  | .mk op v s name n [a, b] => if op = 7 then partsM a ++ partsM b else [.mk op v s name n [a, b]]
  | .mk op v s name n l => [.mk op v s name n l]
theorem parts_two (v : Val) (s name : Str) (n : Int) (a b : Ex) : partsM (.mk 7 v s name n [a, b]) = partsM a ++ partsM b := by rw [partsM, if_pos rfl]
theorem parts_one {op : Int} (v : Val) (s name : Str) (n : Int) {l : List Ex} (h : ¬ (op = 7 ∧ l.length = 2)) : partsM (.mk op v s name n l) = [.mk op v s name n l] := by
  unfold partsM
  split
  · rename_i a b hq
    cases hq
    rw [if_neg (fun e => h ⟨e, rfl⟩)]
  · rename_i hq; cases hq; rfl
set_option maxHeartbeats 8000000 in
theorem parts_any : ∀ (e : Ex) (hl : (partsM e).length * 104 ≤ 140737488355328), CallA Tryd.prog 84 [.agg (e.cs.map .iv)] [] [] [(2, ⟨34, 8⟩)] (.row 2 ((partsM e).map Ex.c))
  | .mk op v s name n l, hl => by
    by_cases h : op = 7 ∧ l.length = 2
    · obtain ⟨rfl, h2⟩ := h
      match l, h2 with
      | [a, b], _ =>
      rw [parts_two] at hl ⊢
      rw [List.length_append] at hl
      have ka := (parts_any a (by omega)).sws [(2, 16)] (args2 := [.agg (a.cs.map .iv)]) (bx2 := []) (bx2' := []) (tk2' := [(16, ⟨34, 8⟩)]) (res2 := .row 16 ((partsM a).map Ex.c)) rfl rfl rfl rfl rfl
      have kb := (parts_any b (by omega)).pubRow
      have g0 : ([a, b].map Ex.c)[(0 : Int).toNat]? = some a.cs := congrArg some (Ex.c_cs a)
      have g1 : ([a, b].map Ex.c)[(1 : Int).toNat]? = some b.cs := congrArg some (Ex.c_cs b)
      refine CallA.intro _ Tryd.func84 rfl Tryd.ntmps84 rfl (fun w0 E0 => ?_)
      (repeat' (first | (refine LW.is ?_; first | (apply s_vr; exact rfl; apply v_indexA; exact rfl; exact rfl; decide; exact g0; exact rfl) | (apply s_vr; exact rfl; apply v_indexA; exact rfl; exact rfl; decide; exact g1; exact rfl) | (apply s_callRow; exact rfl; exact ka; exact rfl; exact rfl) | (apply s_call0; exact rfl; exact kb; exact rfl; exact rfl) | (apply s_append; exact rfl; exact rfl; exact rfl; exact rfl; exact lenE _; exact lenE _; (rw [List.length_map, List.length_map, maxL]; omega); (rw [List.length_map, List.length_map]; omega); exact rfl; exact rfl) | refine s_v ?_ | refine s_m ?_ | refine s_nil ?_ | refine s_gd ?_ | (refine s_gsplit rfl rfl rfl (fun hb => ?_) (fun hb => ?_) <;> refine fct hb (fun hp => ?_))) | (refine DR.is ?_; first | (apply d_vr; exact rfl; apply v_indexA; exact rfl; exact rfl; decide; exact g0; exact rfl) | (apply d_vr; exact rfl; apply v_indexA; exact rfl; exact rfl; decide; exact g1; exact rfl) | (apply d_callRow; exact rfl; exact ka; exact rfl; exact rfl) | (apply d_call0; exact rfl; exact kb; exact rfl; exact rfl) | (apply d_append; exact rfl; exact rfl; exact rfl; exact rfl; exact lenE _; exact lenE _; (rw [List.length_map, List.length_map, maxL]; omega); (rw [List.length_map, List.length_map]; omega); exact rfl; exact rfl) | refine d_v ?_ | refine d_m ?_ | (apply d_nil; kernel_rfl) | refine d_gd ?_ | (refine d_gsplit rfl rfl rfl (fun hb => ?_) (fun hb => ?_) <;> refine fct hb (fun hp => ?_))) | refine c_go ?_ | refine s_region ?_ | refine d_region ?_ | (refine L.cond rfl (fun hb => ?_) (fun hb => ?_) <;> refine fct hb (fun hp => ?_))))
      all_goals (refine L.only [2] ?_)
      all_goals (refine L.retok 2 22 2 rfl rfl rfl rfl ?_)
      all_goals (apply L.ends; exact rfl; exact rfl; exact Sub.of_eq (congrArg (AV.row 2) (List.map_append ..).symm); exact Wk.mk' (by intro id h; simp [keys] at h) .nil .nil (.cons rfl .nil))
    · rw [parts_one v s name n h]
      refine CallA.intro _ Tryd.func84 rfl Tryd.ntmps84 rfl (fun w0 E0 => ?_)
      by_cases h7 : op = 7
      · have q1 : (op == 7) = true := by simpa using h7
        have q2 : (((l.map Ex.c).length : Int) == 2) = false := by
          have : l.length ≠ 2 := fun e => h ⟨h7, e⟩
          rw [List.length_map]; simp; omega
        (repeat' (first | (refine LW.is ?_; first | refine s_v ?_ | refine s_m ?_ | refine s_nil ?_ | refine s_gd ?_ | (refine s_gsplit rfl rfl rfl (fun hb => ?_) (fun hb => ?_) <;> refine fct hb (fun hp => ?_))) | (refine DR.is ?_; first | refine d_v ?_ | refine d_m ?_ | (apply d_nil; kernel_rfl) | refine d_gd ?_ | (refine d_gsplit rfl rfl rfl (fun hb => ?_) (fun hb => ?_) <;> refine fct hb (fun hp => ?_))) | refine c_go ?_ | refine s_region ?_ | refine d_region ?_ | (refine L.cond rfl (fun hb => ?_) (fun hb => ?_) <;> refine fct hb (fun hp => ?_))))
        all_goals (refine L.only [2] ?_)
        all_goals (refine L.retok 2 24 2 rfl rfl rfl rfl ?_)
        all_goals (apply L.ends; exact rfl; exact rfl; exact Sub.of_eq (congrArg (AV.row 2) (by rw [List.map_cons, List.map_nil, Ex.c_cs]; rfl)); exact Wk.mk' (by intro id h; simp [keys] at h) .nil .nil (.cons rfl .nil))
      · have q1 : (op == 7) = false := by simpa using h7
        (repeat' (first | (refine LW.is ?_; first | refine s_v ?_ | refine s_m ?_ | refine s_nil ?_ | refine s_gd ?_ | (refine s_gsplit rfl rfl rfl (fun hb => ?_) (fun hb => ?_) <;> refine fct hb (fun hp => ?_))) | (refine DR.is ?_; first | refine d_v ?_ | refine d_m ?_ | (apply d_nil; kernel_rfl) | refine d_gd ?_ | (refine d_gsplit rfl rfl rfl (fun hb => ?_) (fun hb => ?_) <;> refine fct hb (fun hp => ?_))) | refine c_go ?_ | refine s_region ?_ | refine d_region ?_ | (refine L.cond rfl (fun hb => ?_) (fun hb => ?_) <;> refine fct hb (fun hp => ?_))))
        all_goals (refine L.only [2] ?_)
        all_goals (refine L.retok 2 24 2 rfl rfl rfl rfl ?_)
        all_goals (apply L.ends; exact rfl; exact rfl; exact Sub.of_eq (congrArg (AV.row 2) (by rw [List.map_cons, List.map_nil, Ex.c_cs]; rfl)); exact Wk.mk' (by intro id h; simp [keys] at h) .nil .nil (.cons rfl .nil))
theorem Ex.op_mk (op : Int) (v : Val) (s name : Str) (n : Int) (l : List Ex) : (Ex.mk op v s name n l).op = op := rfl
theorem Ex.l_mk (op : Int) (v : Val) (s name : Str) (n : Int) (l : List Ex) : (Ex.mk op v s name n l).l = l := rfl
def boundM (e : Ex) : Int × Val × Int :=
  if (e.op ≠ 5 ∧ e.op ≠ 6) ∨ e.l.length ≠ 2 then (-1, nilV, 0)
  else if (e.l.getD 0 nilE).op = 2 ∧ (e.l.getD 1 nilE).op = 1 ∧ goodM (e.l.getD 1 nilE).v = true then ((e.l.getD 0 nilE).n, (e.l.getD 1 nilE).v, e.op)
  else if (e.l.getD 0 nilE).op = 1 ∧ (e.l.getD 1 nilE).op = 2 ∧ goodM (e.l.getD 0 nilE).v = true then ((e.l.getD 1 nilE).n, (e.l.getD 0 nilE).v, if e.op = 5 then e.op else -1)
  else (-1, nilV, 0)
set_option maxHeartbeats 8000000 in
theorem bound_any (e : Ex) : CallA Tryd.prog 85 [.agg (e.cs.map .iv)] [] [] [] (.tup [.iv (I (boundM e).1), .agg ((boundM e).2.1.c.map .iv), .iv (I (boundM e).2.2)]) := by
  obtain ⟨op, v, s, name, n, l⟩ := e
  refine CallA.intro _ Tryd.func85 rfl Tryd.ntmps85 rfl (fun w0 E0 => ?_)
  by_cases h2 : l.length = 2
  · match l, h2 with
    | [a, b], _ =>
    have g0 : ([a, b].map Ex.c)[(0 : Int).toNat]? = some a.cs := congrArg some (Ex.c_cs a)
    have g1 : ([a, b].map Ex.c)[(1 : Int).toNat]? = some b.cs := congrArg some (Ex.c_cs b)
    have ka := good_any a.v
    have kb := good_any b.v
    (repeat' (first | (refine LW.is ?_; first | (apply s_vr; exact rfl; apply v_indexA; exact rfl; exact rfl; decide; exact g0; exact rfl) | (apply s_vr; exact rfl; apply v_indexA; exact rfl; exact rfl; decide; exact g1; exact rfl) | (apply s_call0; exact rfl; exact ka; exact rfl; exact rfl) | (apply s_call0; exact rfl; exact kb; exact rfl; exact rfl) | refine s_v ?_ | refine s_m ?_ | refine s_nil ?_ | refine s_gd ?_ | (refine s_gsplit rfl rfl rfl (fun hb => ?_) (fun hb => ?_) <;> refine fct hb (fun hp => ?_))) | (refine DR.is ?_; first | (apply d_vr; exact rfl; apply v_indexA; exact rfl; exact rfl; decide; exact g0; exact rfl) | (apply d_vr; exact rfl; apply v_indexA; exact rfl; exact rfl; decide; exact g1; exact rfl) | (apply d_call0; exact rfl; exact ka; exact rfl; exact rfl) | (apply d_call0; exact rfl; exact kb; exact rfl; exact rfl) | refine d_v ?_ | refine d_m ?_ | (apply d_nil; kernel_rfl) | refine d_gd ?_ | (refine d_gsplit rfl rfl rfl (fun hb => ?_) (fun hb => ?_) <;> refine fct hb (fun hp => ?_))) | refine c_go ?_ | refine s_region ?_ | refine d_region ?_ | (refine L.cond rfl (fun hb => ?_) (fun hb => ?_) <;> refine fct hb (fun hp => ?_))))
    all_goals (apply L.endsIAI; exact rfl; exact rfl; exact rfl)
    all_goals (clear ka kb g0 g1; simp_all [boundM, resOf, nilV, Val.c, Ex.op_mk, Ex.l_mk] <;> kernel_rfl)
  · have q2 : (((l.map Ex.c).length : Int) != 2) = true := by rw [List.length_map]; simp; omega
    have e : boundM (.mk op v s name n l) = (-1, nilV, 0) := by rw [boundM, if_pos (.inr h2)]
    rw [e]
    (repeat' (first | (refine LW.is ?_; first | refine s_v ?_ | refine s_m ?_ | refine s_nil ?_ | refine s_gd ?_ | (refine s_gsplit rfl rfl rfl (fun hb => ?_) (fun hb => ?_) <;> refine fct hb (fun hp => ?_))) | (refine DR.is ?_; first | refine d_v ?_ | refine d_m ?_ | (apply d_nil; kernel_rfl) | refine d_gd ?_ | (refine d_gsplit rfl rfl rfl (fun hb => ?_) (fun hb => ?_) <;> refine fct hb (fun hp => ?_))) | refine c_go ?_ | refine s_region ?_ | refine d_region ?_ | (refine L.cond rfl (fun hb => ?_) (fun hb => ?_) <;> refine fct hb (fun hp => ?_))))
    all_goals (apply L.endsIAI; exact rfl; exact rfl; exact rfl; exact rfl)
end Go.Proofs.YthkobnpogigkiaaDoor
/- Ways to rows: what Choose computes. Conditions: how much there is of what comes in. -/
namespace Go.Proofs.YthkobnpogigkiaaDoor
open Go.Abs
set_option maxRecDepth 100000
attribute [local irreducible] L Code.wp bodyPost Exit.then Exit.inBlock
set_option linter.unusedVariables false
set_option linter.unusedSimpArgs false
def colNm (t : Tab) (k : Int) : Str := (t.cols.getD k.toNat ⟨[], 0, false⟩).n
def ixWay (x : Idx) (v : Val) : Way := ⟨x.n, entriesK x.n ++ keyS [v], (entriesK x.n ++ keyS [v]) ++ [255]⟩
def ixGo (t : Tab) (k : Int) (v : Val) : List Idx → Way → Int → Way × Int
  | [], b, r => (b, r)
  | x :: l, b, r => if (x.tb == t.n && (x.co == colNm t k && decide (r < 3))) = true then ixGo t k v l (ixWay x v) 3 else ixGo t k v l b r
def chStep (c : Cat) (t : Tab) (k : Int) (v : Val) (op : Int) (b : Way) (r : Int) : Way × Int :=
  if (k = 0 ∧ op = 5) ∧ r < 4 then (⟨[], rowKeyM t.n v, rowKeyM t.n v ++ [0]⟩, 4)
  else if op = 5 ∧ r < 3 then ixGo t k v c.is b r
  else if (k = 0 ∧ op = 6) ∧ r < 2 then (⟨[], rowsK t.n, rowKeyM t.n v⟩, 2)
  else if (k = 0 ∧ op = -1) ∧ r < 2 then (⟨[], rowKeyM t.n v ++ [0], (allW t.n).hi⟩, 2)
  else (b, r)
def chGo (c : Cat) (t : Tab) (a : Int) : List Ex → Way → Int → Way
  | [], b, _ => b
  | e :: l, b, r =>
    if (boundM e).2.2 = 0 ∨ (boundM e).1 - a < 0 ∨ (t.cols.length : Int) ≤ (boundM e).1 - a then chGo c t a l b r
    else if (boundM e).2.1.k = 0 then ⟨[], rowsK t.n, rowsK t.n⟩
    else chGo c t a l (chStep c t ((boundM e).1 - a) (boundM e).2.1 (boundM e).2.2 b r).1 (chStep c t ((boundM e).1 - a) (boundM e).2.1 (boundM e).2.2 b r).2
def chooseW (c : Cat) (t : Tab) (a : Int) (e : Ex) : Way := chGo c t a (partsM e) (allW t.n) 0
theorem rowKey_len (t : Str) (v : Val) : (rowKeyM t v).length ≤ t.length + 12 := by
  have := keyS_len [v]
  simp only [rowKeyM, rowsK, List.length_append, List.length_cons, List.length_nil] at *; omega
set_option maxHeartbeats 32000000 in
theorem chooseW_any (c : Cat) (t : Tab) (a : Int) (e : Ex) (hps : (partsM e).length * 104 ≤ 140737488355328) (ha0 : 0 ≤ a) (ha : a ≤ 1000) (hn : ∀ p ∈ partsM e, -4611686018427387904 ≤ (boundM p).1 ∧ (boundM p).1 ≤ 4611686018427387904)
    (htn : t.n.length ≤ 140737488355328) (htl : t.cols.length ≤ 1000) (hil : c.is.length ≤ 1000) (hin : ∀ x ∈ c.is, x.n.length ≤ 140737488355328) :
    CallA Tryd.prog 38 [.agg (c.c.map .iv), .agg (t.c.map .iv), aI a, .agg (e.cs.map .iv)] [] [] [] (.agg ((chooseW c t a e).c.map .iv)) := by
  have kp := (parts_any e hps).pubRow
  have kA := allW_any t.n htn
  have kr := rows_any t.n htn
  unfold chooseW
  generalize partsM e = ps at *
  generalize hW : chGo c t a ps (allW t.n) 0 = W
  refine CallA.intro _ Tryd.func38 rfl Tryd.ntmps38 rfl (fun w0 E0 => ?_)
  (repeat' (first | (refine LW.is ?_; first | (apply s_call0; exact rfl; exact kp; exact rfl; exact rfl) | (apply s_call0; exact rfl; exact kA; exact rfl; exact rfl) | refine s_v ?_ | refine s_m ?_ | refine s_nil ?_ | refine s_gd ?_ | (refine s_gsplit rfl rfl rfl (fun hb => ?_) (fun hb => ?_) <;> refine fct hb (fun hp => ?_))) | (refine DR.is ?_; first | (apply d_call0; exact rfl; exact kp; exact rfl; exact rfl) | (apply d_call0; exact rfl; exact kA; exact rfl; exact rfl) | refine d_v ?_ | refine d_m ?_ | (apply d_nil; kernel_rfl) | refine d_gd ?_ | (refine d_gsplit rfl rfl rfl (fun hb => ?_) (fun hb => ?_) <;> refine fct hb (fun hp => ?_))) | refine c_go ?_ | refine s_region ?_ | refine d_region ?_ | (refine L.cond rfl (fun hb => ?_) (fun hb => ?_) <;> refine fct hb (fun hp => ?_))))
  refine L.loopP (ι := Nat × Str × Str × Str × Int) (fun i => ⟨[(27, aI (i.1 : Int)), (26, aI ((ps.map Ex.c).length : Int)), (25, .iv (.sl (ps.map Ex.c))), (10, aI i.2.2.2.2), (9, .ptr 9 0), (8, .ptr 8 0), (5, .ptr 5 0), (4, .ptr 4 0), (2, aI a)],
    [(9, ⟨66, .l [aS i.2.1, aS i.2.2.1, aS i.2.2.2.1]⟩), (8, ⟨66, .l [aS [], aS [], aS []]⟩), (5, ⟨43, .l [aS t.n, .iv (.sl (t.cols.map Col.c))]⟩), (4, ⟨25, .l [.iv (.sl (c.ts.map Tab.c)), .iv (.sl (c.is.map Idx.c))]⟩)], []⟩) (fun i => ps.length - i.1) (fun i => chGo c t a (ps.drop i.1) ⟨i.2.1, i.2.2.1, i.2.2.2.1⟩ i.2.2.2.2 = W) (i0 := (0, [], rowsK t.n, ([114] ++ t.n) ++ [1], 0)) ?_ (by exact hW) ?_
  · (refine Wk.mk' (by intro id h; cases h) ?_ ?_ ?_ <;> repeat' (first | exact WkF.nil | exact WkB.nil | exact WkT.nil | (refine WkF.cons rfl (Sub.refl _) ?_) | (refine WkB.cons rfl rfl (Subs.refl _) ?_) | (refine WkT.cons rfl ?_)))
  rintro ⟨i, bi, bl, bh, r⟩ hI K hK
  dsimp only at hI hK ⊢
  cases hx : ps[i]? with
  | none =>
    have hlt := ltF (l := ps.map Ex.c) (getFN hx)
    rw [List.drop_eq_nil_of_le (List.getElem?_eq_none_iff.1 hx)] at hI
    subst hI
    (repeat' (first | (refine LW.is ?_; first | refine s_v ?_ | refine s_m ?_ | refine s_nil ?_ | refine s_gd ?_ | (refine s_gsplit rfl rfl rfl (fun hb => ?_) (fun hb => ?_) <;> refine fct hb (fun hp => ?_))) | (refine DR.is ?_; first | refine d_v ?_ | refine d_m ?_ | (apply d_nil; kernel_rfl) | refine d_gd ?_ | (refine d_gsplit rfl rfl rfl (fun hb => ?_) (fun hb => ?_) <;> refine fct hb (fun hp => ?_))) | refine c_go ?_ | refine s_region ?_ | refine d_region ?_ | (refine L.cond rfl (fun hb => ?_) (fun hb => ?_) <;> refine fct hb (fun hp => ?_))))
    all_goals (first | (apply L.ends1; exact rfl; exact rfl; exact rfl) | (apply L.ends2; exact rfl; exact rfl; exact rfl) | (apply L.ends3; exact rfl; exact rfl; exact rfl) | (apply L.ends1A; exact rfl; exact rfl; exact rfl) | (apply L.ends2A; exact rfl; exact rfl; exact rfl) | (apply L.ends3A; exact rfl; exact rfl; exact rfl))
    all_goals rfl
  | some x =>
    have hlt := ltT (l := ps.map Ex.c) (getF (f := Ex.c) hx)
    have hlt' := ltN hx
    have g1 : (ps.map Ex.c)[((i : Nat) : Int).toNat]? = some [I x.op, I x.v.k, I x.v.n, S x.v.s, S x.s, S x.name, I x.n, .sl (x.l.map Ex.c)] := by rw [Int.toNat_natCast, List.getElem?_map, hx]; exact congrArg some (Ex.c_cs x)
    have kb := bound_any x
    obtain ⟨hn1, hn2⟩ := hn x (List.mem_of_getElem? hx)
    rw [dropC hx] at hI
    unfold chGo at hI
    generalize boundM x = bd at *
    obtain ⟨pl, v, op⟩ := bd
    dsimp only at hI kb hn1 hn2
    have kR := rowKey_any t.n v htn
    have hrk := rowKey_len t.n v
    have hkl : (keyS [v]).length ≤ 10 := keyS_len [v]
    have kK := keyP_any [v] (by simp)
    by_cases hs : op = 0 ∨ pl - a < 0 ∨ (t.cols.length : Int) ≤ pl - a
    · rw [if_pos hs] at hI
      by_cases h1 : op = 0
      · have q1 : (op == 0) = true := by simpa using h1
        (repeat' (first | (refine LW.is ?_; first | (apply s_vr; exact rfl; apply v_indexA; exact rfl; exact rfl; omega; exact g1; exact rfl) | (apply s_call0; exact rfl; exact kb; exact rfl; exact rfl) | refine s_v ?_ | refine s_m ?_ | refine s_nil ?_ | refine s_gd ?_ | (refine s_gsplit rfl rfl rfl (fun hb => ?_) (fun hb => ?_) <;> refine fct hb (fun hp => ?_))) | (refine DR.is ?_; first | (apply d_vr; exact rfl; apply v_indexA; exact rfl; exact rfl; omega; exact g1; exact rfl) | (apply d_call0; exact rfl; exact kb; exact rfl; exact rfl) | refine d_v ?_ | refine d_m ?_ | (apply d_nil; kernel_rfl) | refine d_gd ?_ | (refine d_gsplit rfl rfl rfl (fun hb => ?_) (fun hb => ?_) <;> refine fct hb (fun hp => ?_))) | refine c_go ?_ | refine s_region ?_ | refine d_region ?_ | (refine L.cond rfl (fun hb => ?_) (fun hb => ?_) <;> refine fct hb (fun hp => ?_))))
        refine hK _ (i + 1, bi, bl, bh, r) hI (by dsimp only; omega) ?_
        (refine Wk.mk' (by intro id h; cases h) ?_ ?_ ?_ <;> repeat' (first | exact WkF.nil | exact WkB.nil | exact WkT.nil | (refine WkF.cons rfl (Sub.refl _) ?_) | (refine WkB.cons rfl rfl (Subs.refl _) ?_) | (refine WkT.cons rfl ?_)))
      have q1 : (op == 0) = false := by simpa using h1
      by_cases h2 : pl - a < 0
      · have q2 : decide (pl - a < 0) = true := decide_eq_true h2
        (repeat' (first | (refine LW.is ?_; first | (apply s_vr; exact rfl; apply v_indexA; exact rfl; exact rfl; omega; exact g1; exact rfl) | (apply s_call0; exact rfl; exact kb; exact rfl; exact rfl) | refine s_v ?_ | refine s_m ?_ | refine s_nil ?_ | refine s_gd ?_ | (refine s_gsplit rfl rfl rfl (fun hb => ?_) (fun hb => ?_) <;> refine fct hb (fun hp => ?_))) | (refine DR.is ?_; first | (apply d_vr; exact rfl; apply v_indexA; exact rfl; exact rfl; omega; exact g1; exact rfl) | (apply d_call0; exact rfl; exact kb; exact rfl; exact rfl) | refine d_v ?_ | refine d_m ?_ | (apply d_nil; kernel_rfl) | refine d_gd ?_ | (refine d_gsplit rfl rfl rfl (fun hb => ?_) (fun hb => ?_) <;> refine fct hb (fun hp => ?_))) | refine c_go ?_ | refine s_region ?_ | refine d_region ?_ | (refine L.cond rfl (fun hb => ?_) (fun hb => ?_) <;> refine fct hb (fun hp => ?_))))
        refine hK _ (i + 1, bi, bl, bh, r) hI (by dsimp only; omega) ?_
        (refine Wk.mk' (by intro id h; cases h) ?_ ?_ ?_ <;> repeat' (first | exact WkF.nil | exact WkB.nil | exact WkT.nil | (refine WkF.cons rfl (Sub.refl _) ?_) | (refine WkB.cons rfl rfl (Subs.refl _) ?_) | (refine WkT.cons rfl ?_)))
      · have q2 : decide (pl - a < 0) = false := decide_eq_false h2
        have q3 : decide (((t.cols.map Col.c).length : Int) ≤ pl - a) = true := decide_eq_true (by rw [List.length_map]; omega)
        (repeat' (first | (refine LW.is ?_; first | (apply s_vr; exact rfl; apply v_indexA; exact rfl; exact rfl; omega; exact g1; exact rfl) | (apply s_call0; exact rfl; exact kb; exact rfl; exact rfl) | refine s_v ?_ | refine s_m ?_ | refine s_nil ?_ | refine s_gd ?_ | (refine s_gsplit rfl rfl rfl (fun hb => ?_) (fun hb => ?_) <;> refine fct hb (fun hp => ?_))) | (refine DR.is ?_; first | (apply d_vr; exact rfl; apply v_indexA; exact rfl; exact rfl; omega; exact g1; exact rfl) | (apply d_call0; exact rfl; exact kb; exact rfl; exact rfl) | refine d_v ?_ | refine d_m ?_ | (apply d_nil; kernel_rfl) | refine d_gd ?_ | (refine d_gsplit rfl rfl rfl (fun hb => ?_) (fun hb => ?_) <;> refine fct hb (fun hp => ?_))) | refine c_go ?_ | refine s_region ?_ | refine d_region ?_ | (refine L.cond rfl (fun hb => ?_) (fun hb => ?_) <;> refine fct hb (fun hp => ?_))))
        refine hK _ (i + 1, bi, bl, bh, r) hI (by dsimp only; omega) ?_
        (refine Wk.mk' (by intro id h; cases h) ?_ ?_ ?_ <;> repeat' (first | exact WkF.nil | exact WkB.nil | exact WkT.nil | (refine WkF.cons rfl (Sub.refl _) ?_) | (refine WkB.cons rfl rfl (Subs.refl _) ?_) | (refine WkT.cons rfl ?_)))
    rw [if_neg hs] at hI
    have q1 : (op == 0) = false := by simp; omega
    have q2 : decide (pl - a < 0) = false := decide_eq_false (by omega)
    have q3 : decide (((t.cols.map Col.c).length : Int) ≤ pl - a) = false := decide_eq_false (by rw [List.length_map]; omega)
    by_cases hv : v.k = 0
    · rw [if_pos hv] at hI
      subst hI
      have q4 : (v.k == 0) = true := by simpa using hv
      (repeat' (first | (refine LW.is ?_; first | (apply s_vr; exact rfl; apply v_indexA; exact rfl; exact rfl; omega; exact g1; exact rfl) | (apply s_call0; exact rfl; exact kb; exact rfl; exact rfl) | (apply s_call0; exact rfl; exact kr; exact rfl; exact rfl) | refine s_v ?_ | refine s_m ?_ | refine s_nil ?_ | refine s_gd ?_ | (refine s_gsplit rfl rfl rfl (fun hb => ?_) (fun hb => ?_) <;> refine fct hb (fun hp => ?_))) | (refine DR.is ?_; first | (apply d_vr; exact rfl; apply v_indexA; exact rfl; exact rfl; omega; exact g1; exact rfl) | (apply d_call0; exact rfl; exact kb; exact rfl; exact rfl) | (apply d_call0; exact rfl; exact kr; exact rfl; exact rfl) | refine d_v ?_ | refine d_m ?_ | (apply d_nil; kernel_rfl) | refine d_gd ?_ | (refine d_gsplit rfl rfl rfl (fun hb => ?_) (fun hb => ?_) <;> refine fct hb (fun hp => ?_))) | refine c_go ?_ | refine s_region ?_ | refine d_region ?_ | (refine L.cond rfl (fun hb => ?_) (fun hb => ?_) <;> refine fct hb (fun hp => ?_))))
      all_goals (first | (apply L.ends1; exact rfl; exact rfl; exact rfl) | (apply L.ends2; exact rfl; exact rfl; exact rfl) | (apply L.ends3; exact rfl; exact rfl; exact rfl) | (apply L.ends1A; exact rfl; exact rfl; exact rfl) | (apply L.ends2A; exact rfl; exact rfl; exact rfl) | (apply L.ends3A; exact rfl; exact rfl; exact rfl))
      all_goals rfl
    rw [if_neg hv] at hI
    have q4 : (v.k == 0) = false := by simpa using hv
    have hK' : ∀ st' bi' bl' bh' r', chStep c t (pl - a) v op ⟨bi, bl, bh⟩ r = (⟨bi', bl', bh'⟩, r') → Wk _ st' ⟨[(27, aI ((i + 1 : Nat) : Int)), (26, aI ((ps.map Ex.c).length : Int)), (25, .iv (.sl (ps.map Ex.c))), (10, aI r'), (9, .ptr 9 0), (8, .ptr 8 0), (5, .ptr 5 0), (4, .ptr 4 0), (2, aI a)],
        [(9, ⟨66, .l [aS bi', aS bl', aS bh']⟩), (8, ⟨66, .l [aS [], aS [], aS []]⟩), (5, ⟨43, .l [aS t.n, .iv (.sl (t.cols.map Col.c))]⟩), (4, ⟨25, .l [.iv (.sl (c.ts.map Tab.c)), .iv (.sl (c.is.map Idx.c))]⟩)], []⟩ → L _ st' K := fun st' bi' bl' bh' r' hq hw => hK st' (i + 1, bi', bl', bh', r') (by rw [hq] at hI; exact hI) (by dsimp only; omega) hw
    clear hK hI
    obtain ⟨cc, hcc⟩ : ∃ cc, t.cols[(pl - a).toNat]? = some cc := ⟨_, List.getElem?_eq_getElem (by omega)⟩
    have gk : (t.cols.map Col.c)[(pl - a).toNat]? = some [S cc.n, I cc.t, .im (.bool cc.m)] := by rw [List.getElem?_map, hcc]; rfl
    have hcn : colNm t (pl - a) = cc.n := by rw [colNm, List.getD_eq_getElem?_getD, hcc]; rfl
    (repeat' (first | (refine LW.is ?_; first | (apply s_vr; exact rfl; apply v_indexA; exact rfl; exact rfl; omega; exact g1; exact rfl) | (apply s_call0; exact rfl; exact kb; exact rfl; exact rfl) | (apply s_call0; exact rfl; exact kr; exact rfl; exact rfl) | (apply s_call0; exact rfl; exact kR; exact rfl; exact rfl) | (apply s_call0; exact rfl; exact kA; exact rfl; exact rfl) | refine s_v ?_ | refine s_m ?_ | refine s_nil ?_ | refine s_gd ?_ | (refine s_gsplit rfl rfl rfl (fun hb => ?_) (fun hb => ?_) <;> refine fct hb (fun hp => ?_))) | (refine DR.is ?_; first | (apply d_vr; exact rfl; apply v_indexA; exact rfl; exact rfl; omega; exact g1; exact rfl) | (apply d_call0; exact rfl; exact kb; exact rfl; exact rfl) | (apply d_call0; exact rfl; exact kr; exact rfl; exact rfl) | (apply d_call0; exact rfl; exact kR; exact rfl; exact rfl) | (apply d_call0; exact rfl; exact kA; exact rfl; exact rfl) | refine d_v ?_ | refine d_m ?_ | (apply d_nil; kernel_rfl) | refine d_gd ?_ | (refine d_gsplit rfl rfl rfl (fun hb => ?_) (fun hb => ?_) <;> refine fct hb (fun hp => ?_))) | refine c_go ?_ | refine s_region ?_ | refine d_region ?_ | (refine L.cond rfl (fun hb => ?_) (fun hb => ?_) <;> refine fct hb (fun hp => ?_))))
    all_goals first
      | exact absurd (Int.le_trans (by assumption : (4 : Int) ≤ r) (Int.le_of_lt (by assumption : r < 3))) (by decide)
      | (refine hK' _ _ _ _ _ ?_ (Wk.mk' (by intro id h; cases h) (.cons rfl (Sub.refl _) (.cons rfl (Sub.refl _) (.cons rfl (Sub.refl _) (.cons rfl (Sub.refl _) (.cons rfl (Sub.refl _) (.cons rfl (Sub.refl _) (.cons rfl (Sub.refl _) (.cons rfl (Sub.refl _) (.cons rfl (Sub.refl _) .nil))))))))) (.cons rfl rfl (Subs.refl _) (.cons rfl rfl (Subs.refl _) (.cons rfl rfl (Subs.refl _) (.cons rfl rfl (Subs.refl _) .nil)))) .nil)
         clear hK' kp kA kr hps hn hin kb kR kK hrk hkl g1 gk
         simp_all [chStep]
         done)
      | (refine hK' _ _ _ _ _ ?_ (Wk.mk' (by intro id h; cases h) (.cons rfl (Sub.refl _) (.cons rfl (Sub.refl _) (.cons rfl (Sub.refl _) (.cons rfl (Sub.refl _) (.cons rfl (Sub.refl _) (.cons rfl (Sub.refl _) (.cons rfl (Sub.refl _) (.cons rfl (Sub.refl _) (.cons rfl (Sub.refl _) .nil))))))))) (.cons rfl rfl (Subs.refl _) (.cons rfl rfl (Subs.refl _) (.cons rfl rfl (Subs.refl _) (.cons rfl rfl (Subs.refl _) .nil)))) .nil)
         clear hK' kp kA kr hps hn hin kb kR kK hrk hkl g1 gk
         simp_all [chStep]
         first
         | (intro hh; exact absurd hh (Int.not_lt.2 (by assumption)))
         | (rw [if_neg (Int.not_lt.2 (by assumption)), if_neg (Int.not_lt.2 (by assumption))]))
      | skip
    have h5 : op = 5 := by assumption
    have h3 : r < 3 := by assumption
    have h0 : ¬ (pl - a = 0) := by assumption
    have hst : chStep c t (pl - a) v op ⟨bi, bl, bh⟩ r = ixGo t (pl - a) v c.is ⟨bi, bl, bh⟩ r := by rw [chStep, if_neg (fun h => h0 h.1.1), if_pos ⟨h5, h3⟩]
    rw [hst] at hK'
    have hib : i < 1353245619657 := by omega
    clear hst hps hn hrk kp kA kr kR kb g1
    generalize hZ : ixGo t (pl - a) v c.is ⟨bi, bl, bh⟩ r = Z at hK'
    refine L.loopP (ι := Nat × Str × Str × Str × Int) (fun j => ⟨[(92, aI (j.1 : Int)), (91, aI ((c.is.map Idx.c).length : Int)), (90, .iv (.sl (c.is.map Idx.c))), (16, aI (pl - a)), (14, .ptr 14 0), (27, aI (i : Int)), (26, aI ((ps.map Ex.c).length : Int)), (25, .iv (.sl (ps.map Ex.c))), (10, aI j.2.2.2.2), (9, .ptr 9 0), (8, .ptr 8 0), (5, .ptr 5 0), (4, .ptr 4 0), (2, aI a)],
      [(14, ⟨32, .l [aI v.k, aI v.n, aS v.s]⟩), (9, ⟨66, .l [aS j.2.1, aS j.2.2.1, aS j.2.2.2.1]⟩), (8, ⟨66, .l [aS [], aS [], aS []]⟩), (5, ⟨43, .l [aS t.n, .iv (.sl (t.cols.map Col.c))]⟩), (4, ⟨25, .l [.iv (.sl (c.ts.map Tab.c)), .iv (.sl (c.is.map Idx.c))]⟩)], []⟩) (fun j => c.is.length - j.1) (fun j => ixGo t (pl - a) v (c.is.drop j.1) ⟨j.2.1, j.2.2.1, j.2.2.2.1⟩ j.2.2.2.2 = Z) (i0 := (0, bi, bl, bh, r)) ?_ (by exact hZ) ?_
    · (refine Wk.mk' (by intro id h; cases h) ?_ ?_ ?_ <;> repeat' (first | exact WkF.nil | exact WkB.nil | exact WkT.nil | (refine WkF.cons rfl (Sub.refl _) ?_) | (refine WkB.cons rfl rfl (Subs.refl _) ?_) | (refine WkT.cons rfl ?_)))
    clear hZ
    rintro ⟨j, bi2, bl2, bh2, r2⟩ hJ K2 hK2
    dsimp only at hJ hK2 ⊢
    cases hy : c.is[j]? with
    | none =>
      have hlt2 := ltF (l := c.is.map Idx.c) (getFN hy)
      rw [List.drop_eq_nil_of_le (List.getElem?_eq_none_iff.1 hy)] at hJ
      (repeat' (first | (refine LW.is ?_; first | refine s_v ?_ | refine s_m ?_ | refine s_nil ?_ | refine s_gd ?_ | (refine s_gsplit rfl rfl rfl (fun hb => ?_) (fun hb => ?_) <;> refine fct hb (fun hp => ?_))) | (refine DR.is ?_; first | refine d_v ?_ | refine d_m ?_ | (apply d_nil; kernel_rfl) | refine d_gd ?_ | (refine d_gsplit rfl rfl rfl (fun hb => ?_) (fun hb => ?_) <;> refine fct hb (fun hp => ?_))) | refine c_go ?_ | refine s_region ?_ | refine d_region ?_ | (refine L.cond rfl (fun hb => ?_) (fun hb => ?_) <;> refine fct hb (fun hp => ?_))))
      refine hK' _ _ _ _ _ hJ.symm (Wk.mk' (by intro id h; cases h) (.cons rfl (Sub.refl _) (.cons rfl (Sub.refl _) (.cons rfl (Sub.refl _) (.cons rfl (Sub.refl _) (.cons rfl (Sub.refl _) (.cons rfl (Sub.refl _) (.cons rfl (Sub.refl _) (.cons rfl (Sub.refl _) (.cons rfl (Sub.refl _) .nil))))))))) (.cons rfl rfl (Subs.refl _) (.cons rfl rfl (Subs.refl _) (.cons rfl rfl (Subs.refl _) (.cons rfl rfl (Subs.refl _) .nil)))) .nil)
    | some y =>
      have hlt2 := ltT (l := c.is.map Idx.c) (getF (f := Idx.c) hy)
      have hlt2' := ltN hy
      have g2 : (c.is.map Idx.c)[((j : Nat) : Int).toNat]? = some [S y.n, S y.tb, S y.co] := by rw [Int.toNat_natCast, List.getElem?_map, hy]; rfl
      have hyn := hin y (List.mem_of_getElem? hy)
      have kE := entries_any y.n hyn
      have hEK : (entriesK y.n ++ keyS [v]).length ≤ y.n.length + 12 := by simp only [entriesK, List.length_append, List.length_cons, List.length_nil]; omega
      have hel : (entriesK y.n).length ≤ y.n.length + 2 := by simp only [entriesK, List.length_append, List.length_cons, List.length_nil]; omega
      rw [dropC hy] at hJ
      unfold ixGo at hJ
      by_cases hc : (y.tb == t.n && (y.co == colNm t (pl - a) && decide (r2 < 3))) = true
      · rw [if_pos hc] at hJ
        rw [hcn] at hc
        simp only [Bool.and_eq_true] at hc
        obtain ⟨c1, c2, c3⟩ := hc
        (repeat' (first | (refine LW.is ?_; first | (apply s_vr; exact rfl; apply v_indexA; exact rfl; exact rfl; omega; exact g2; exact rfl) | (apply s_vr; exact rfl; apply v_indexA; exact rfl; exact rfl; omega; exact gk; exact rfl) | (apply s_call0; exact rfl; exact kE; exact rfl; exact rfl) | (apply s_call0; exact rfl; exact kK; exact rfl; exact rfl) | refine s_v ?_ | refine s_m ?_ | refine s_nil ?_ | refine s_gd ?_ | (refine s_gsplit rfl rfl rfl (fun hb => ?_) (fun hb => ?_) <;> refine fct hb (fun hp => ?_))) | (refine DR.is ?_; first | (apply d_vr; exact rfl; apply v_indexA; exact rfl; exact rfl; omega; exact g2; exact rfl) | (apply d_vr; exact rfl; apply v_indexA; exact rfl; exact rfl; omega; exact gk; exact rfl) | (apply d_call0; exact rfl; exact kE; exact rfl; exact rfl) | (apply d_call0; exact rfl; exact kK; exact rfl; exact rfl) | refine d_v ?_ | refine d_m ?_ | (apply d_nil; kernel_rfl) | refine d_gd ?_ | (refine d_gsplit rfl rfl rfl (fun hb => ?_) (fun hb => ?_) <;> refine fct hb (fun hp => ?_))) | refine c_go ?_ | refine s_region ?_ | refine d_region ?_ | (refine L.cond rfl (fun hb => ?_) (fun hb => ?_) <;> refine fct hb (fun hp => ?_))))
        refine hK2 _ (j + 1, y.n, entriesK y.n ++ keyS [v], (entriesK y.n ++ keyS [v]) ++ [255], 3) hJ (by dsimp only; omega) ?_
        (refine Wk.mk' (by intro id h; cases h) ?_ ?_ ?_ <;> repeat' (first | exact WkF.nil | exact WkB.nil | exact WkT.nil | (refine WkF.cons rfl (Sub.refl _) ?_) | (refine WkB.cons rfl rfl (Subs.refl _) ?_) | (refine WkT.cons rfl ?_)))
      · rw [if_neg hc] at hJ
        rw [hcn] at hc
        (repeat' (first | (refine LW.is ?_; first | (apply s_vr; exact rfl; apply v_indexA; exact rfl; exact rfl; omega; exact g2; exact rfl) | (apply s_vr; exact rfl; apply v_indexA; exact rfl; exact rfl; omega; exact gk; exact rfl) | (apply s_call0; exact rfl; exact kE; exact rfl; exact rfl) | (apply s_call0; exact rfl; exact kK; exact rfl; exact rfl) | refine s_v ?_ | refine s_m ?_ | refine s_nil ?_ | refine s_gd ?_ | (refine s_gsplit rfl rfl rfl (fun hb => ?_) (fun hb => ?_) <;> refine fct hb (fun hp => ?_))) | (refine DR.is ?_; first | (apply d_vr; exact rfl; apply v_indexA; exact rfl; exact rfl; omega; exact g2; exact rfl) | (apply d_vr; exact rfl; apply v_indexA; exact rfl; exact rfl; omega; exact gk; exact rfl) | (apply d_call0; exact rfl; exact kE; exact rfl; exact rfl) | (apply d_call0; exact rfl; exact kK; exact rfl; exact rfl) | refine d_v ?_ | refine d_m ?_ | (apply d_nil; kernel_rfl) | refine d_gd ?_ | (refine d_gsplit rfl rfl rfl (fun hb => ?_) (fun hb => ?_) <;> refine fct hb (fun hp => ?_))) | refine c_go ?_ | refine s_region ?_ | refine d_region ?_ | (refine L.cond rfl (fun hb => ?_) (fun hb => ?_) <;> refine fct hb (fun hp => ?_))))
        all_goals first
          | (exfalso; apply hc; simp_all; done)
          | (refine hK2 _ (j + 1, bi2, bl2, bh2, r2) hJ (by dsimp only; omega) ?_
             (refine Wk.mk' (by intro id h; cases h) ?_ ?_ ?_ <;> repeat' (first | exact WkF.nil | exact WkB.nil | exact WkT.nil | (refine WkF.cons rfl (Sub.refl _) ?_) | (refine WkB.cons rfl rfl (Subs.refl _) ?_) | (refine WkT.cons rfl ?_))))
end Go.Proofs.YthkobnpogigkiaaDoor
/- Ways to rows, plain laws: a tree that holds the rows of all tables, and what a range of it leads to. Conditions: none. -/
namespace Go.Proofs.YthkobnpogigkiaaDoor
open Go.Abs
set_option linter.unusedVariables false
set_option linter.unusedSimpArgs false
theorem not_lt_nil (s : Str) : ¬ s < [] := by simp
theorem between {x y : UInt8} (hxy : ∀ b : UInt8, b < y → ¬ b < x → b = x) (hyx : ∀ b : UInt8, b = y → ¬ b < y) : ∀ (p a : Str), ¬ a < p ++ [x] → a < p ++ [y] → ∃ s, a = p ++ x :: s
  | [], [], h1, _ => absurd (by simp) h1
  | [], b :: s, h1, h2 => by
    simp only [List.nil_append, lt_cons, not_lt_nil, and_false, or_false] at h1 h2
    exact ⟨s, by rw [hxy b h2 h1]; rfl⟩
  | q :: p, [], h1, _ => absurd (by simp) h1
  | q :: p, b :: s, h1, h2 => by
    simp only [List.cons_append, lt_cons, not_or, not_and] at h1 h2
    rcases h2 with h2 | ⟨rfl, h2⟩
    · exact absurd h2 h1.1
    · obtain ⟨u, hu⟩ := between hxy hyx p s (h1.2 rfl) h2
      exact ⟨u, by rw [hu]; rfl⟩
theorem between_all {n a : Str} (h1 : ¬ a < rowsK n) (h2 : a < (allW n).hi) : ∃ s, a = rowsK n ++ s := by
  have h1' : ¬ a < ([114] ++ n) ++ [0] := h1
  have h2' : a < ([114] ++ n) ++ [1] := h2
  obtain ⟨s, hs⟩ := between (x := 0) (y := 1) (fun b h1 h2 => by
    rw [UInt8.lt_iff_toNat_lt] at h1 h2
    exact UInt8.toNat_inj.1 (by simp at h1 h2 ⊢; omega)) (fun b e => by rw [e]; decide) ([114] ++ n) a h1' h2'
  exact ⟨s, by rw [hs]; simp [rowsK]⟩
theorem between_top : ∀ (p a : Str), ¬ a < p → a < p ++ [255] → ∃ s, a = p ++ s
  | [], a, _, _ => ⟨a, rfl⟩
  | q :: p, [], h1, _ => absurd (by simp) h1
  | q :: p, b :: s, h1, h2 => by
    simp only [List.cons_append, lt_cons, not_or, not_and] at h1 h2
    rcases h2 with h2 | ⟨rfl, h2⟩
    · exact absurd h2 h1.1
    · obtain ⟨u, hu⟩ := between_top p s (h1.2 rfl) h2
      exact ⟨u, by rw [hu]; rfl⟩
theorem app_nlt (p s : Str) : ¬ p ++ s < p := fun h => by
  have : p ++ s < p ++ [] := by rwa [List.append_nil]
  rw [app_lt] at this
  exact not_lt_nil s this
theorem app_lt_top (p s : Str) (hs : ∀ b r, s = b :: r → b < 255) : p ++ s < p ++ [255] := by
  rw [app_lt]
  cases s with
  | nil => simp
  | cons b r => rw [lt_cons]; exact .inl (hs b r rfl)
theorem only_app {p a : Str} (h1 : ¬ a < p) (h2 : a < p ++ [0]) : a = p := by
  have h3 : a < p ++ [255] := by
    refine lt_trans' h2 ?_
    rw [app_lt, lt_cons]; exact .inl (by decide)
  obtain ⟨s, rfl⟩ := between_top p a h1 h3
  rw [app_lt] at h2
  cases s with
  | nil => simp
  | cons b r =>
    rw [lt_cons] at h2
    rcases h2 with h2 | ⟨_, h2⟩
    · rw [UInt8.lt_iff_toNat_lt] at h2; simp at h2
    · exact absurd h2 (not_lt_nil r)
theorem cut0 : ∀ {n m s u : Str}, (∀ b ∈ n, b ≠ 0) → (∀ b ∈ m, b ≠ 0) → n ++ 0 :: s = m ++ 0 :: u → n = m ∧ s = u
  | [], [], s, u, _, _, h => ⟨rfl, by simpa using h⟩
  | [], b :: m, s, u, _, h2, h => by
    simp only [List.nil_append, List.cons_append, List.cons.injEq] at h
    exact absurd h.1.symm (h2 b (by simp))
  | b :: n, [], s, u, h1, _, h => by
    simp only [List.nil_append, List.cons_append, List.cons.injEq] at h
    exact absurd h.1 (h1 b (by simp))
  | b :: n, d :: m, s, u, h1, h2, h => by
    simp only [List.cons_append, List.cons.injEq] at h
    obtain ⟨e1, e2⟩ := cut0 (fun b hb => h1 b (by simp [hb])) (fun b hb => h2 b (by simp [hb])) h.2
    exact ⟨by rw [h.1, e1], e2⟩
theorem named_ne0 {n : Str} (h : namedM n = true) : ∀ b ∈ n, b ≠ 0 := by
  simp only [namedM, Bool.and_eq_true] at h
  intro b hb e
  have := List.all_eq_true.1 h.1 b hb
  rw [e] at this; simp [lowC] at this
theorem rowsK_cut {n m s u : Str} (hn : namedM n = true) (hm : namedM m = true) (h : rowsK n ++ s = rowsK m ++ u) : n = m ∧ s = u := by
  simp only [rowsK, List.append_assoc, List.cons_append, List.nil_append, List.cons.injEq, true_and] at h
  exact cut0 (named_ne0 hn) (named_ne0 hm) h
theorem entriesK_cut {n m s u : Str} (hn : namedM n = true) (hm : namedM m = true) (h : entriesK n ++ s = entriesK m ++ u) : n = m ∧ s = u := by
  simp only [entriesK, List.append_assoc, List.cons_append, List.nil_append, List.cons.injEq, true_and] at h
  exact cut0 (named_ne0 hn) (named_ne0 hm) h
theorem keyOne_cut {v w : Val} {x y : Str} (hv : goodM v = true) (hw : goodM w = true) (h : keyOne v ++ x = keyOne w ++ y) : v = w ∧ x = y := by
  have h1 := valOne_key hv x
  rw [h, valOne_key hw y] at h1
  simp only [Option.some.injEq, Prod.mk.injEq] at h1
  exact ⟨h1.1.symm, h1.2.symm⟩
theorem keyS1 {v : Val} (h : goodM v = true) : keyS [v] = keyOne v := by rw [keyS_good (by simp [h])]; simp
theorem keyS2 {v w : Val} (h : goodM v = true) (k : goodM w = true) : keyS [v, w] = keyOne v ++ keyOne w := by rw [keyS_good (by simp [h, k])]; simp
theorem keyOne_head {v : Val} (h : goodM v = true) : ∀ b r, keyOne v = b :: r → b < 255 := by
  intro b r e
  rcases good_cases h with rfl | ⟨n, rfl, _, _⟩ | ⟨s, rfl, _, _⟩
  · rw [keyOne0] at e; cases e; decide
  · rw [keyOne1] at e; cases e; decide
  · rw [keyOne2] at e; cases e; decide
def vEq (a b : Val) : Bool := a.k == b.k && (a.n == b.n && a.s == b.s)
theorem vEq_iff {a b : Val} : vEq a b = true ↔ a = b := by
  obtain ⟨k, n, s⟩ := a; obtain ⟨k', n', s'⟩ := b; simp [vEq]
structure DB (c : Cat) (ps : List Pg) (D : Str → List (List Val)) : Prop where
  cat : GoodC c
  good : goodTree ps = true
  fit : ∀ t ∈ c.ts, ∀ r ∈ D t.n, r.length = t.cols.length ∧ r.all goodM = true
  dis : ∀ t ∈ c.ts, (D t.n).Pairwise (fun r r' => r.getD 0 nilV ≠ r'.getD 0 nilV)
  mem : ∀ a b, (a, b) ∈ flatP ps ↔ ∃ t ∈ c.ts, ∃ r ∈ D t.n, (a = rowK t r ∧ b = keyS r) ∨ (a ∈ ixKeys t r c.is ∧ b = [])
theorem GoodC.tname {c : Cat} (h : GoodC c) {t : Tab} (ht : t ∈ c.ts) : namedM t.n = true := by
  have := h.tabs t ht
  simp only [goodTabM, Bool.and_eq_true] at this
  exact this.2.1
theorem GoodC.tinj {c : Cat} (h : GoodC c) {t u : Tab} (ht : t ∈ c.ts) (hu : u ∈ c.ts) (e : t.n = u.n) : t = u := names_inj h.tn t ht u hu e
theorem GoodC.xinj {c : Cat} (h : GoodC c) {t u : Idx} (ht : t ∈ c.is) (hu : u ∈ c.is) (e : t.n = u.n) : t = u := names_inj h.xn t ht u hu e
theorem colNm_col {t : Tab} (h : goodTabM t = true) {k : Nat} (hk : k < t.cols.length) : colM t (colNm t k) = k := by
  simp only [goodTabM, Bool.and_eq_true] at h
  have h1 : t.cols[k]? = some (t.cols.getD k ⟨[], 0, false⟩) := getD_some _ hk
  have := zip_all.1 h.1 k _ h1
  simp only [colOk, Bool.not_eq_true', Bool.or_eq_false_iff, bne_eq_false_iff_eq] at this
  have e : colNm t (k : Int) = (t.cols.getD k ⟨[], 0, false⟩).n := by rw [colNm, Int.toNat_natCast]
  rw [e]; exact this.2
theorem perm_pick {α β : Type} {R : List β} {l : List α} (g : α → β) (f : β → Option α) (hR : R.Nodup) (hm : ∀ x, x ∈ R ↔ ∃ r ∈ l, x = g r) (hf : ∀ r ∈ l, f (g r) = some r) (hl : l.Nodup) : (R.filterMap f).Perm l := by
  have hback : ∀ m : List α, (∀ r ∈ m, r ∈ l) → (m.map g).filterMap f = m := fun m hm => by
    induction m with
    | nil => rfl
    | cons r m ih => rw [List.map_cons, List.filterMap_cons, hf r (hm r (by simp)), ih (fun r hr => hm r (by simp [hr]))]
  have hnd : (l.map g).Nodup := by
    refine List.Pairwise.map _ (fun r r' h => h) ?_
    refine hl.imp_of_mem (fun {r r'} hr hr' hne e => hne ?_)
    have h1 := hf r hr
    rw [e, hf r' hr'] at h1
    exact (Option.some.inj h1).symm
  have hperm : R.Perm (l.map g) := by
    refine (List.perm_ext_iff_of_nodup hR hnd).2 (fun x => ?_)
    rw [hm, List.mem_map]
    exact ⟨fun ⟨r, hr, e⟩ => ⟨r, hr, e.symm⟩, fun ⟨r, hr, e⟩ => ⟨r, hr, e.symm⟩⟩
  have := hperm.filterMap f
  rwa [hback l (fun r hr => hr)] at this
theorem DB.nodup {c : Cat} {ps : List Pg} {D : Str → List (List Val)} (h : DB c ps D) {t : Tab} (ht : t ∈ c.ts) : (D t.n).Nodup := (h.dis t ht).imp (fun {a b} hne e => hne (by rw [e]))
theorem range_sort {ps : List Pg} (h : goodTree ps = true) (lo hi : Str) : SortF (rangeM ps lo hi) := by
  rw [range_law _ _ h]; exact (sort_flat h).sublist (List.Sublist.map _ List.filter_sublist)
theorem range_iff {ps : List Pg} (h : goodTree ps = true) (lo hi a b : Str) : (a, b) ∈ rangeM ps lo hi ↔ (a, b) ∈ flatP ps ∧ ¬ a < lo ∧ a < hi := by
  rw [range_law _ _ h, List.mem_filter]
  simp
theorem range_rows {c : Cat} {ps : List Pg} {D : Str → List (List Val)} (h : DB c ps D) {t : Tab} (ht : t ∈ c.ts) (lo hi : Str) (P : List Val → Bool) (hlo : ∀ a, ¬ a < lo → a < hi → ¬ a < rowsK t.n ∧ a < (allW t.n).hi)
    (hP : ∀ r ∈ D t.n, P r = true ↔ ¬ rowK t r < lo ∧ rowK t r < hi) :
    (rowsT ps t ⟨[], lo, hi⟩).Perm ((D t.n).filter P) ∧ (rowsT ps t ⟨[], lo, hi⟩).Pairwise (fun r r' => cmpM (r.getD 0 nilV) (r'.getD 0 nilV) = -1) := by
  have hp : rowsT ps t ⟨[], lo, hi⟩ = (rangeM ps lo hi).filterMap (fun x => rowOf t x.2) := by rw [rowsT]; congr 1
  have hm : ∀ x : Pr, x ∈ rangeM ps lo hi ↔ ∃ r ∈ (D t.n).filter P, x = (rowK t r, keyS r) := by
    rintro ⟨a, b⟩
    rw [range_iff h.good, h.mem]
    constructor
    · rintro ⟨⟨u, hu, r, hr, hx⟩, h1, h2⟩
      obtain ⟨g1, g2⟩ := hlo a h1 h2
      rcases hx with ⟨rfl, rfl⟩ | ⟨hx, _⟩
      · obtain ⟨s, hs⟩ := between_all g1 g2
        have e := h.cat.tinj hu ht (rowsK_cut (h.cat.tname hu) (h.cat.tname ht) hs).1
        subst e
        exact ⟨r, List.mem_filter.2 ⟨hr, (hP r hr).2 ⟨h1, h2⟩⟩, rfl⟩
      · obtain ⟨s, rfl⟩ := ix_head hx
        exact absurd g2 (all_out t.n s)
    · rintro ⟨r, hr, e⟩
      obtain ⟨hr, hPr⟩ := List.mem_filter.1 hr
      obtain ⟨rfl, rfl⟩ := Prod.mk.inj e
      obtain ⟨h1, h2⟩ := (hP r hr).1 hPr
      exact ⟨⟨t, ht, r, hr, .inl ⟨rfl, rfl⟩⟩, h1, h2⟩
  rw [hp]
  refine ⟨perm_pick (fun r => (rowK t r, keyS r)) _ (flat_nodup (range_sort h.good lo hi)) hm (fun r hr => rowOf_key (h.fit t ht r (List.mem_filter.1 hr).1)) ((h.nodup ht).filter _), ?_⟩
  refine List.pairwise_filterMap.2 ?_
  refine (List.pairwise_map.1 (range_sort h.good lo hi)).imp_of_mem (fun {x y} hx hy hlt r hr r' hr' => ?_)
  obtain ⟨q, hq, rfl⟩ := (hm x).1 hx
  obtain ⟨q', hq', rfl⟩ := (hm y).1 hy
  have hq := (List.mem_filter.1 hq).1
  have hq' := (List.mem_filter.1 hq').1
  have e1 := (rowOf_key (h.fit t ht q hq)).symm.trans hr
  have e2 := (rowOf_key (h.fit t ht q' hq')).symm.trans hr'
  cases e1; cases e2
  have hlt2 : keyS [r.getD 0 nilV] < keyS [r'.getD 0 nilV] := (app_lt (rowsK t.n) _ _).1 hlt
  exact (keyS_lt (good_getD (h.fit t ht r hq).2 0) (good_getD (h.fit t ht r' hq').2 0)).1 hlt2
theorem range_ix {c : Cat} {ps : List Pg} {D : Str → List (List Val)} (h : DB c ps D) {t : Tab} (ht : t ∈ c.ts) {x : Idx} (hx : x ∈ c.is) (hxt : x.tb = t.n) {k : Nat} (hk : k < t.cols.length) (hxc : x.co = colNm t k) {v : Val} (hv : goodM v = true) :
    (rowsT ps t (ixWay x v)).Perm ((D t.n).filter (fun r => vEq (r.getD k nilV) v)) := by
  have hxn := (h.cat.idx x hx).1
  have hcol : colM t x.co = k := by rw [hxc]; exact colNm_col (h.cat.tabs t ht) hk
  have hkey : ∀ r ∈ D t.n, ixKey t r x = entriesK x.n ++ (keyOne (r.getD k nilV) ++ keyOne (r.getD 0 nilV)) := fun r hr => by
    have hg := (h.fit t ht r hr).2
    rw [ixKey, hcol, Int.toNat_natCast, indexKeyM, keyS2 (good_getD hg k) (good_getD hg 0)]
  have hm : ∀ z : Pr, z ∈ rangeM ps (ixWay x v).lo (ixWay x v).hi ↔ ∃ r ∈ (D t.n).filter (fun r => vEq (r.getD k nilV) v), z = (ixKey t r x, []) := by
    rintro ⟨a, b⟩
    rw [range_iff h.good, h.mem]
    constructor
    · rintro ⟨⟨u, hu, r, hr, hy⟩, h1, h2⟩
      obtain ⟨s, hs⟩ := between_top (entriesK x.n ++ keyS [v]) a h1 h2
      rw [List.append_assoc, keyS1 hv] at hs
      rcases hy with ⟨rfl, _⟩ | ⟨hy, rfl⟩
      · have : (114 : UInt8) = 120 := by
          have := congrArg List.head? hs
          simp [rowK, rowKeyM, rowsK, entriesK] at this
        exact absurd this (by decide)
      · obtain ⟨x', hx', rfl⟩ := List.mem_map.1 hy
        obtain ⟨hx1, hx2⟩ := List.mem_filter.1 hx'
        simp only [ixOn, Bool.and_eq_true, beq_iff_eq, decide_eq_true_eq] at hx2
        have hg := (h.fit u hu r hr).2
        rw [ixKey, indexKeyM, keyS2 (good_getD hg _) (good_getD hg 0)] at hs
        obtain ⟨e1, e2⟩ := entriesK_cut (h.cat.idx x' hx1).1 hxn hs
        have e := h.cat.xinj hx1 hx e1
        subst e
        have e := h.cat.tinj hu ht (hx2.1.symm.trans hxt)
        subst e
        rw [hcol, Int.toNat_natCast] at e2
        obtain ⟨e3, _⟩ := keyOne_cut (good_getD hg k) hv e2
        exact ⟨r, List.mem_filter.2 ⟨hr, vEq_iff.2 e3⟩, rfl⟩
    · rintro ⟨r, hr, e⟩
      obtain ⟨hr, hPr⟩ := List.mem_filter.1 hr
      have hPr := vEq_iff.1 hPr
      obtain ⟨rfl, rfl⟩ := Prod.mk.inj e
      have hg := (h.fit t ht r hr).2
      refine ⟨⟨t, ht, r, hr, .inr ⟨List.mem_map.2 ⟨x, List.mem_filter.2 ⟨hx, ?_⟩, rfl⟩, rfl⟩⟩, ?_⟩
      · simp only [ixOn, Bool.and_eq_true, beq_iff_eq, decide_eq_true_eq]
        exact ⟨hxt, by rw [hcol]; omega⟩
      · rw [hkey r hr, hPr]
        show ¬ _ < entriesK x.n ++ keyS [v] ∧ _ < (entriesK x.n ++ keyS [v]) ++ [255]
        rw [keyS1 hv, ← List.append_assoc]
        exact ⟨app_nlt _ _, app_lt_top _ _ (keyOne_head (good_getD hg 0))⟩
  have hp : rowsT ps t (ixWay x v) = (rangeM ps (ixWay x v).lo (ixWay x v).hi).filterMap (pickR ps t (ixWay x v)) := rfl
  rw [hp]
  refine perm_pick (fun r => (ixKey t r x, [])) _ (flat_nodup (range_sort h.good _ _)) hm (fun r hr => ?_) ((h.nodup ht).filter _)
  have hr := (List.mem_filter.1 hr).1
  have hg := (h.fit t ht r hr).2
  have hne : (ixWay x v).i ≠ [] := fun e => by
    have e : x.n = [] := e
    rw [e] at hxn; simp [namedM] at hxn
  have hent : entryM (ixWay x v) (ixKey t r x) = some [r.getD k nilV, r.getD 0 nilV] := by
    unfold entryM
    have e1 : ((entriesK (ixWay x v).i).length : Int) ≤ ((ixKey t r x).length : Int) := by
      rw [hkey r hr]; show ((entriesK x.n).length : Int) ≤ _; rw [List.length_append]; omega
    rw [if_neg (by omega), Int.toNat_natCast]
    show (match valsM ((ixKey t r x).drop (entriesK x.n).length) with | some l => _ | none => _) = _
    rw [hkey r hr, List.drop_left, ← keyS2 (good_getD hg k) (good_getD hg 0), keyS_vals (by rw [List.all_cons, List.all_cons, good_getD hg k, good_getD hg 0]; rfl)]
    rfl
  unfold pickR
  rw [if_neg hne, hent]
  have hget : (getM ps (rowKeyM t.n (r.getD 0 nilV))).1 = keyS r := by
    have := find_some (w := keyS r) (sort_flat h.good) ((h.mem (rowK t r) _).2 ⟨t, ht, r, hr, .inl ⟨rfl, rfl⟩⟩)
    rw [get_flat h.good]; exact congrArg Prod.fst this
  show rowOf t (getM ps (rowKeyM t.n (r.getD 0 nilV))).1 = some r
  rw [hget, rowOf_key (h.fit t ht r hr)]
end Go.Proofs.YthkobnpogigkiaaDoor
/- Ways to rows, plain laws: whichever way is chosen, it leads to each row for which the condition holds, once. Conditions: none. -/
namespace Go.Proofs.YthkobnpogigkiaaDoor
open Go.Abs
set_option linter.unusedVariables false
set_option linter.unusedSimpArgs false
theorem of_truth (n : Int) : ofM (truthM n) = 1 ↔ n = 1 := by
  unfold truthM
  split
  · rename_i h; rcases h with rfl | rfl <;> simp [ofM]
  · rename_i h
    constructor
    · intro e; simp [ofM, nilV] at e
    · intro e; exact absurd (.inr e) h
theorem and_one {a b : Int} : andM a b = 1 ↔ a = 1 ∧ b = 1 := by
  unfold andM
  split
  · rename_i h; constructor
    · intro e; cases e
    · rintro ⟨rfl, rfl⟩; simp at h
  · split
    · rename_i h; simp [h]
    · rename_i h; constructor
      · intro e; cases e
      · intro e; exact absurd e h
theorem two_and (a b : Val) : ofM (twoM 7 a b) = 1 ↔ ofM a = 1 ∧ ofM b = 1 := by
  rw [twoM, if_pos rfl, of_truth, and_one]
theorem parts_hold (row : List Val) : ∀ e : Ex, ofM (evalM row e) = 1 → ∀ p ∈ partsM e, ofM (evalM row p) = 1
  | .mk op v s name n l, h => by
    by_cases h7 : op = 7 ∧ l.length = 2
    · obtain ⟨rfl, h2⟩ := h7
      match l, h2 with
      | [a, b], _ =>
      rw [parts_two]
      rw [evalM_eq, evalOne_rest _ _ _ _ (by decide) (by decide)] at h
      obtain ⟨h1, h2⟩ := (two_and _ _).1 h
      intro p hp
      rcases List.mem_append.1 hp with hp | hp
      · exact parts_hold row a h1 p hp
      · exact parts_hold row b h2 p hp
    · rw [parts_one v s name n h7]
      intro p hp
      rw [List.mem_singleton] at hp
      rw [hp]; exact h
structure Says (v u : Val) (op : Int) : Prop where
  gv : goodM v = true
  gu : goodM u = true
  v0 : v.k ≠ 0
  eq : op = 5 → u = v
  lt : op = 6 → cmpM u v = -1
  gt : op = -1 → cmpM v u = -1
theorem cmp_neg {v w : Val} (hv : goodM v = true) (hw : goodM w = true) (h : cmpM v w < 0) : cmpM v w = -1 := by
  rcases cmp_one hv hw with ⟨_, h1⟩ | ⟨h1, _⟩ | ⟨h1, _⟩ <;> rw [h1] at h ⊢
  · exact absurd h (by decide)
  · exact absurd h (by decide)
theorem cmp_zero {v w : Val} (hv : goodM v = true) (hw : goodM w = true) (h : cmpM v w = 0) : v = w := by
  rcases cmp_one hv hw with ⟨h1, _⟩ | ⟨h1, _⟩ | ⟨h1, _⟩
  · exact h1
  · rw [h1] at h; cases h
  · rw [h1] at h; cases h
theorem num_one (b : Bool) : numM b = 1 ↔ b = true := by cases b <;> simp [numM]
theorem two_test {op : Int} {a b : Val} (hop : op = 5 ∨ op = 6) (h : ofM (twoM op a b) = 1) : goodM a = true ∧ goodM b = true ∧ a.k = b.k ∧ a.k ≠ 0 ∧ (op = 5 → a = b) ∧ (op = 6 → cmpM a b = -1) := by
  rw [twoM, if_neg (by omega), if_neg (by omega)] at h
  split at h
  · simp [ofM, nilV] at h
  · rename_i hn
    simp only [not_or, Bool.not_eq_false, ne_eq, Decidable.not_not] at hn
    obtain ⟨n1, n2, n3, n4⟩ := hn
    refine ⟨n2, n3, n1, n4, fun e => ?_, fun e => ?_⟩
    · rw [if_pos e, of_truth, num_one, beq_iff_eq] at h; exact cmp_zero n2 n3 h
    · rw [if_neg (by omega), if_pos e, of_truth, num_one, decide_eq_true_eq] at h; exact cmp_neg n2 n3 h
theorem bound_two (op : Int) (v : Val) (s name : Str) (n : Int) (a b : Ex) : boundM (.mk op v s name n [a, b]) = if op ≠ 5 ∧ op ≠ 6 then (-1, nilV, 0) else if a.op = 2 ∧ b.op = 1 ∧ goodM b.v = true then (a.n, b.v, op) else if a.op = 1 ∧ b.op = 2 ∧ goodM a.v = true then (b.n, a.v, if op = 5 then op else -1) else (-1, nilV, 0) := by
  simp [boundM, Ex.op_mk, Ex.l_mk]
  rfl
theorem bound_not {op : Int} {v : Val} {s name : Str} {n : Int} {l : List Ex} (h : l.length ≠ 2) : boundM (.mk op v s name n l) = (-1, nilV, 0) := by rw [boundM, if_pos (.inr h)]
theorem ref_val (row : List Val) : ∀ {x : Ex}, x.op = 2 → 0 ≤ x.n → evalM row x = row.getD x.n.toNat nilV
  | .mk o w s n i l, hx, hn => by
    have hx : o = 2 := hx
    have hi : 0 ≤ i := hn
    subst hx
    rw [evalM_eq, evalOne_ref, refM, if_pos hi, List.getD_eq_getElem?_getD]; rfl
theorem lit_val (row : List Val) : ∀ {x : Ex}, x.op = 1 → evalM row x = x.v
  | .mk o w s n i l, hx => by
    have hx : o = 1 := hx
    subst hx
    rw [evalM_eq, evalOne, if_pos rfl]; rfl
theorem bound_says {row : List Val} : ∀ {e : Ex} (h : ofM (evalM row e) = 1) (hop : (boundM e).2.2 ≠ 0) (h0 : 0 ≤ (boundM e).1), Says (boundM e).2.1 (row.getD (boundM e).1.toNat nilV) (boundM e).2.2
  | .mk op v s name n l, h, hop, h0 => by
    by_cases h2 : l.length = 2
    · match l, h2 with
      | [a, b], _ =>
      rw [bound_two] at hop h0 ⊢
      split at hop
      · exact absurd rfl hop
      rename_i hc
      rw [if_neg hc] at h0 ⊢
      have hop56 : op = 5 ∨ op = 6 := by omega
      rw [evalM_eq, evalOne_rest _ _ _ _ (by omega) (by omega)] at h
      obtain ⟨g1, g2, g3, g4, g5, g6⟩ := two_test hop56 h
      split at hop
      · rename_i c1
        rw [if_pos c1] at h0 ⊢
        obtain ⟨c1, c2, c3⟩ := c1
        have ea := ref_val row c1 h0
        have eb := lit_val row c2
        rw [ea, eb] at g5 g6
        rw [ea] at g1 g3 g4
        rw [eb] at g3
        exact ⟨c3, g1, fun e => g4 (g3.trans e), g5, g6, fun e => by have e : op = -1 := e; omega⟩
      · rename_i c1
        rw [if_neg c1] at h0 ⊢
        split at hop
        · rename_i c2
          rw [if_pos c2] at h0 ⊢
          obtain ⟨c2, c3, c4⟩ := c2
          have ea := lit_val row c2
          have eb := ref_val row c3 h0
          rw [ea, eb] at g5 g6
          rw [eb] at g2 g3
          rw [ea] at g3 g4
          show Says a.v (row.getD b.n.toNat nilV) (if op = 5 then op else -1)
          rcases hop56 with h5 | h6
          · rw [if_pos h5]
            exact ⟨c4, g2, g4, fun e => (g5 h5).symm, fun e => by omega, fun e => by omega⟩
          · rw [if_neg (by omega)]
            exact ⟨c4, g2, g4, fun e => absurd e (by decide), fun e => absurd e (by decide), fun _ => g6 h6⟩
        · exact absurd rfl hop
    · rw [bound_not h2] at hop; exact absurd rfl hop
theorem bound_good : ∀ {e : Ex}, (boundM e).2.2 ≠ 0 → goodM (boundM e).2.1 = true
  | .mk op v s name n l, hop => by
    by_cases h2 : l.length = 2
    · match l, h2 with
      | [a, b], _ =>
      rw [bound_two] at hop ⊢
      split at hop
      · exact absurd rfl hop
      rename_i c0; rw [if_neg c0]
      split at hop
      · rename_i c1; rw [if_pos c1]; exact c1.2.2
      rename_i c1; rw [if_neg c1]
      split at hop
      · rename_i c2; rw [if_pos c2]; exact c2.2.2
      · exact absurd rfl hop
    · rw [bound_not h2] at hop; exact absurd rfl hop
theorem getD_behind (pre r : List Val) (i : Nat) (h : pre.length ≤ i) : (pre ++ r).getD i nilV = r.getD (i - pre.length) nilV := by
  rw [List.getD_eq_getElem?_getD, List.getD_eq_getElem?_getD, List.getElem?_append_right h]
def Fine (t : Tab) (rows : List (List Val)) (ps : List Pg) (Hold : List Val → Prop) (W : Way) : Prop :=
  W.i.length ≤ 8 ∧ ∃ P : List Val → Bool, (rowsT ps t W).Perm (rows.filter P) ∧ ∀ r ∈ rows, Hold r → P r = true
section
variable {c : Cat} {ps : List Pg} {D : Str → List (List Val)} {t : Tab} {Hold : List Val → Prop}
theorem nlt_trans {a x y : Str} (h : ¬ a < x) (k : ¬ x < y) : ¬ a < y := fun e => by
  rcases Decidable.em (a = x) with rfl | hne
  · exact k e
  · exact k (lt_trans' (tri h hne) e)
theorem fine_all (h : DB c ps D) (ht : t ∈ c.ts) : Fine t (D t.n) ps Hold (allW t.n) := by
  refine ⟨by simp [allW], fun _ => true, ?_, fun _ _ _ => rfl⟩
  exact (range_rows h ht (rowsK t.n) (allW t.n).hi (fun _ => true) (fun a h1 h2 => ⟨h1, h2⟩) (fun r hr => ⟨fun _ => all_in t.n (keyS [r.getD 0 nilV]), fun _ => rfl⟩)).1
theorem fine_null (h : DB c ps D) (ht : t ∈ c.ts) (hn : ∀ r ∈ D t.n, ¬ Hold r) : Fine t (D t.n) ps Hold ⟨[], rowsK t.n, rowsK t.n⟩ := by
  refine ⟨by simp, fun _ => false, ?_, fun r hr hh => absurd hh (hn r hr)⟩
  exact (range_rows h ht (rowsK t.n) (rowsK t.n) (fun _ => false) (fun a h1 h2 => absurd h2 h1) (fun r hr => by simp)).1
theorem rowKey_in (n : Str) (v : Val) : ¬ rowKeyM n v < rowsK n ∧ rowKeyM n v < (allW n).hi := all_in n (keyS [v])
theorem fine_eq (h : DB c ps D) (ht : t ∈ c.ts) {v : Val} (hv : goodM v = true) (hh : ∀ r ∈ D t.n, Hold r → r.getD 0 nilV = v) : Fine t (D t.n) ps Hold ⟨[], rowKeyM t.n v, rowKeyM t.n v ++ [0]⟩ := by
  refine ⟨by simp, fun r => vEq (r.getD 0 nilV) v, ?_, fun r hr k => vEq_iff.2 (hh r hr k)⟩
  refine (range_rows h ht _ _ _ (fun a h1 h2 => ?_) (fun r hr => ?_)).1
  · rw [only_app h1 h2]; exact rowKey_in t.n v
  · rw [vEq_iff]
    constructor
    · intro e
      rw [rowK, e]
      exact ⟨List.lt_irrefl _, by
        have : rowKeyM t.n v ++ [] < rowKeyM t.n v ++ [0] := by rw [app_lt]; simp
        rwa [List.append_nil] at this⟩
    · rintro ⟨h1, h2⟩
      have e := only_app h1 h2
      exact keyS_one (good_getD (h.fit t ht r hr).2 0) hv (List.append_cancel_left e)
theorem rowK_lt {n : Str} {u v : Val} (hu : goodM u = true) (hv : goodM v = true) : rowKeyM n u < rowKeyM n v ↔ cmpM u v = -1 := by
  rw [rowKeyM, rowKeyM, app_lt]; exact keyS_lt hu hv
theorem fine_lt (h : DB c ps D) (ht : t ∈ c.ts) {v : Val} (hv : goodM v = true) (hh : ∀ r ∈ D t.n, Hold r → cmpM (r.getD 0 nilV) v = -1) : Fine t (D t.n) ps Hold ⟨[], rowsK t.n, rowKeyM t.n v⟩ := by
  refine ⟨by simp, fun r => decide (cmpM (r.getD 0 nilV) v = -1), ?_, fun r hr k => decide_eq_true (hh r hr k)⟩
  refine (range_rows h ht _ _ _ (fun a h1 h2 => ⟨h1, lt_trans' h2 (rowKey_in t.n v).2⟩) (fun r hr => ?_)).1
  rw [decide_eq_true_eq, ← rowK_lt (n := t.n) (good_getD (h.fit t ht r hr).2 0) hv]
  exact ⟨fun e => ⟨(rowKey_in t.n _).1, e⟩, fun e => e.2⟩
theorem fine_gt (h : DB c ps D) (ht : t ∈ c.ts) {v : Val} (hv : goodM v = true) (hh : ∀ r ∈ D t.n, Hold r → cmpM v (r.getD 0 nilV) = -1) : Fine t (D t.n) ps Hold ⟨[], rowKeyM t.n v ++ [0], (allW t.n).hi⟩ := by
  refine ⟨by simp, fun r => decide (cmpM v (r.getD 0 nilV) = -1), ?_, fun r hr k => decide_eq_true (hh r hr k)⟩
  have hlow : ¬ rowKeyM t.n v ++ [0] < rowsK t.n := by
    rw [rowKeyM, List.append_assoc]; exact app_nlt _ _
  refine (range_rows h ht _ _ _ (fun a h1 h2 => ⟨nlt_trans h1 hlow, h2⟩) (fun r hr => ?_)).1
  rw [decide_eq_true_eq, ← rowK_lt (n := t.n) hv (good_getD (h.fit t ht r hr).2 0)]
  constructor
  · intro e
    refine ⟨fun e2 => ?_, (rowKey_in t.n _).2⟩
    have := only_app (List.lt_asymm e) e2
    rw [this] at e; exact List.lt_irrefl _ e
  · rintro ⟨h1, _⟩
    refine Decidable.byContradiction (fun hn => h1 ?_)
    have h3 : rowKeyM t.n v < rowKeyM t.n v ++ [0] := by
      have : rowKeyM t.n v ++ [] < rowKeyM t.n v ++ [0] := by rw [app_lt]; simp
      rwa [List.append_nil] at this
    rcases Decidable.em (rowK t r = rowKeyM t.n v) with e | e
    · rw [e]; exact h3
    · exact lt_trans' (tri hn (fun e2 => e e2.symm)) h3
theorem fine_ix (h : DB c ps D) (ht : t ∈ c.ts) {k : Nat} (hk : k < t.cols.length) {v : Val} (hv : goodM v = true) (hh : ∀ r ∈ D t.n, Hold r → r.getD k nilV = v) : ∀ (l : List Idx), (∀ x ∈ l, x ∈ c.is) → ∀ (b : Way) (r : Int), Fine t (D t.n) ps Hold b → Fine t (D t.n) ps Hold (ixGo t k v l b r).1
  | [], _, b, r, hb => hb
  | x :: l, hl, b, r, hb => by
    rw [ixGo]
    split
    · rename_i hc
      simp only [Bool.and_eq_true, beq_iff_eq, decide_eq_true_eq] at hc
      have hx := hl x (by simp)
      refine fine_ix h ht hk hv hh l (fun y hy => hl y (by simp [hy])) _ _ ⟨?_, fun r => vEq (r.getD k nilV) v, range_ix h ht hx hc.1 hk hc.2.1 hv, fun r hr q => vEq_iff.2 (hh r hr q)⟩
      have := (h.cat.idx x hx).1
      simp only [namedM, Bool.and_eq_true, decide_eq_true_eq] at this
      exact this.2.2.1
    · exact fine_ix h ht hk hv hh l (fun y hy => hl y (by simp [hy])) b r hb
end
theorem choose_go {c : Cat} {ps : List Pg} {D : Str → List (List Val)} {t : Tab} (h : DB c ps D) (ht : t ∈ c.ts) (pre : List Val) {Hold : List Val → Prop} : ∀ (l : List Ex), (∀ p ∈ l, (boundM p).2.2 ≠ 0 → ∀ r ∈ D t.n, Hold r → ofM (evalM (pre ++ r) p) = 1) →
    ∀ (b : Way) (r : Int), Fine t (D t.n) ps Hold b → Fine t (D t.n) ps Hold (chGo c t pre.length l b r)
  | [], _, b, _, hb => hb
  | p :: l, hl, b, rk, hb => by
    rw [chGo]
    have ih := choose_go h ht pre l (fun q hq => hl q (by simp [hq]))
    split
    · exact ih b rk hb
    rename_i hs
    simp only [not_or, Int.not_lt, Int.not_le] at hs
    obtain ⟨s1, s2, s3⟩ := hs
    have says : ∀ r ∈ D t.n, Hold r → Says (boundM p).2.1 (r.getD ((boundM p).1 - pre.length).toNat nilV) (boundM p).2.2 := fun r hr hh => by
      have hlen := (h.fit t ht r hr).1
      have := bound_says (hl p (by simp) s1 r hr hh) s1 (by omega)
      rwa [getD_behind _ _ _ (by omega), show (boundM p).1.toNat - pre.length = ((boundM p).1 - pre.length).toNat by omega] at this
    split
    · rename_i hv
      exact fine_null h ht (fun r hr hh => (says r hr hh).v0 hv)
    · refine ih _ _ ?_
      have gv := bound_good s1
      generalize hkk : ((boundM p).1 - pre.length).toNat = k at says
      have hk : (boundM p).1 - (pre.length : Int) = (k : Int) := by omega
      rw [hk] at s3 ⊢
      have hk' : k < t.cols.length := by omega
      unfold chStep
      split
      · rename_i a
        have k0 : k = 0 := by omega
        subst k0
        exact fine_eq h ht gv (fun r hr hh => (says r hr hh).eq a.1.2)
      split
      · rename_i a
        exact fine_ix h ht hk' gv (fun r hr hh => (says r hr hh).eq a.1) c.is (fun x hx => hx) b rk hb
      split
      · rename_i a
        have k0 : k = 0 := by omega
        subst k0
        exact fine_lt h ht gv (fun r hr hh => (says r hr hh).lt a.1.2)
      split
      · rename_i a
        have k0 : k = 0 := by omega
        subst k0
        exact fine_gt h ht gv (fun r hr hh => (says r hr hh).gt a.1.2)
      · exact hb
def holdsM (e : Ex) (row : List Val) : Bool := (e.op == 0) || (ofM (evalM row e) == 1)
theorem choose_fine {c : Cat} {ps : List Pg} {D : Str → List (List Val)} {t : Tab} (h : DB c ps D) (ht : t ∈ c.ts) (pre : List Val) (e : Ex) : Fine t (D t.n) ps (fun r => holdsM e (pre ++ r) = true) (chooseW c t pre.length e) := by
  refine choose_go h ht pre (partsM e) (fun p hp hop r hr hh => ?_) _ _ (fine_all h ht)
  simp only [holdsM, Bool.or_eq_true, beq_iff_eq] at hh
  rcases hh with h0 | hh
  · obtain ⟨op, v, s, name, n, l⟩ := e
    have h0 : op = 0 := h0
    subst h0
    rw [parts_one v s name n (fun e => by have := e.1; omega), List.mem_singleton] at hp
    subst hp
    exact absurd (by simp [boundM, Ex.op_mk]) hop
  · exact parts_hold _ e hh p hp
inductive Hgt : Nat → Ex → Prop
  | mk {n : Nat} {op : Int} {v : Val} {s name : Str} {i : Int} {l : List Ex} (h : ∀ x ∈ l, Hgt n x) : Hgt (n + 1) (.mk op v s name i l)
theorem parts_hgt : ∀ {n : Nat} {e : Ex}, Hgt (n + 1) e → (partsM e).length ≤ 2 ^ n
  | n, .mk op v s name i l, h => by
    by_cases h7 : op = 7 ∧ l.length = 2
    · obtain ⟨rfl, h2⟩ := h7
      match l, h2 with
      | [a, b], _ =>
      cases h with
      | mk h =>
        have ha := h a (by simp)
        have hb := h b (by simp)
        cases n with
        | zero => cases ha
        | succ n =>
          rw [parts_two, List.length_append, Nat.pow_succ]
          have := parts_hgt ha
          have := parts_hgt hb
          omega
    · rw [parts_one v s name i h7]; exact Nat.one_le_two_pow
theorem good_hgt : ∀ (n : Nat) {e : Ex}, goodExM (41 - (n : Int)) e = true → Hgt n e
  | 0, .mk op v s name i l, h => by
    rw [goodExM_eq] at h
    split at h
    · cases h
    · simp at h
  | n + 1, .mk op v s name i l, h => by
    rw [goodExM_eq] at h
    split at h
    · cases h
    · refine .mk (fun x hx => good_hgt n ?_)
      simp only [Bool.and_eq_true, Bool.not_eq_true'] at h
      have := List.any_eq_false.1 h.2.2 x hx
      simp only [Bool.not_eq_true', Bool.not_eq_false] at this
      rw [show (41 - ((n + 1 : Nat) : Int)) + 1 = 41 - (n : Int) by omega] at this
      exact this
theorem bindOne_cases (ts : List Tab) (op : Int) (v : Val) (s name : Str) (n f : Int) (es : List Ex) (tys : List Int) : (bindOne ts op v s name n f es tys).1 = nilE ∨ (op = 2 ∧ (bindOne ts op v s name n f es tys).1 = .mk op v s name (findM ts s name).1 es) ∨ (op ≠ 2 ∧ (bindOne ts op v s name n f es tys).1 = .mk op v s name n es) := by
  unfold bindOne
  repeat' split
  all_goals first
    | exact .inl rfl
    | (refine .inr (.inl ⟨?_, rfl⟩); assumption)
    | (refine .inr (.inr ⟨?_, rfl⟩); omega)
theorem bind_hgt (ts : List Tab) : ∀ (n : Nat) {e : Ex}, Hgt (n + 1) e → Hgt (n + 1) (bindM ts e).1
  | n, .mk op v s name i l, h => by
    cases h with
    | mk h =>
    rw [bindM_eq]
    have hl : ∀ x ∈ l.map (fun x => (bindM ts x).1), Hgt n x := by
      intro x hx
      obtain ⟨y, hy, rfl⟩ := List.mem_map.1 hx
      cases n with
      | zero => cases h y hy
      | succ n => exact bind_hgt ts n (h y hy)
    rcases bindOne_cases ts op v s name i (errM (l.map fun x => (bindM ts x).2.2)) (l.map fun x => (bindM ts x).1) (l.map fun x => (bindM ts x).2.1) with e | ⟨_, e⟩ | ⟨_, e⟩
    · rw [e]; exact .mk (fun x hx => by cases hx)
    · rw [e]; exact .mk hl
    · rw [e]; exact .mk hl
inductive Refs (m : Int) : Ex → Prop
  | mk {op : Int} {v : Val} {s name : Str} {i : Int} {l : List Ex} (h0 : op = 2 → 0 ≤ i ∧ i ≤ m) (h : ∀ x ∈ l, Refs m x) : Refs m (.mk op v s name i l)
theorem col_le (t : Tab) (name : Str) : colM t name ≤ t.cols.length := (idx_ran _ _).2.2
theorem findGo_le (s name : Str) : ∀ (ts : List Tab) (a p k : Int), 0 ≤ a → p ≤ a → 0 ≤ (findGo s name ts a p k).1 ∧ (findGo s name ts a p k).1 ≤ a + atM ts
  | [], a, p, k, h, hp => by
    rw [findGo]; split
    · simp [atM]; omega
    · simp [atM]; omega
  | t :: ts, a, p, k, h, hp => by
    have e : (atM (t :: ts) : Int) = t.cols.length + atM ts := by simp [atM]
    rw [findGo]
    have := col_le t name
    split
    · split
      · simp only; omega
      · have := findGo_le s name ts (a + t.cols.length) (a + colM t name) (colTy t (colM t name)) (by omega) (by omega)
        omega
    · have := findGo_le s name ts (a + t.cols.length) p k (by omega) (by omega)
      omega
theorem find_le (ts : List Tab) (s name : Str) : 0 ≤ (findM ts s name).1 ∧ (findM ts s name).1 ≤ atM ts := by
  have := findGo_le s name ts 0 (-1) 0 (by omega) (by omega)
  rw [Int.zero_add] at this; exact this
theorem bind_refs (ts : List Tab) : ∀ e : Ex, Refs (atM ts) (bindM ts e).1
  | .mk op v s name i l => by
    rw [bindM_eq]
    have hl : ∀ x ∈ l.map (fun x => (bindM ts x).1), Refs (atM ts) x := by
      intro x hx
      obtain ⟨y, hy, rfl⟩ := List.mem_map.1 hx
      exact bind_refs ts y
    rcases bindOne_cases ts op v s name i (errM (l.map fun x => (bindM ts x).2.2)) (l.map fun x => (bindM ts x).1) (l.map fun x => (bindM ts x).2.1) with e | ⟨_, e⟩ | ⟨h2, e⟩
    · rw [e]; exact .mk (fun h => by cases h) (fun x hx => by cases hx)
    · rw [e]; exact .mk (fun _ => find_le ts s name) hl
    · rw [e]; exact .mk (fun h => absurd h h2) hl
theorem parts_refs {m : Int} : ∀ {e : Ex}, Refs m e → ∀ p ∈ partsM e, Refs m p
  | .mk op v s name i l, h => by
    by_cases h7 : op = 7 ∧ l.length = 2
    · obtain ⟨rfl, h2⟩ := h7
      match l, h2 with
      | [a, b], _ =>
      cases h with
      | mk h0 h =>
        rw [parts_two]
        intro p hp
        rcases List.mem_append.1 hp with hp | hp
        · exact parts_refs (h a (by simp)) p hp
        · exact parts_refs (h b (by simp)) p hp
    · rw [parts_one v s name i h7]
      intro p hp
      rw [List.mem_singleton] at hp; rw [hp]; exact h
theorem bound_refs {m : Int} (hm : 0 ≤ m) {e : Ex} (h : Refs m e) : -1 ≤ (boundM e).1 ∧ (boundM e).1 ≤ m := by
  obtain ⟨op, v, s, name, i, l⟩ := e
  cases h with
  | mk h0 h =>
  have href : ∀ x ∈ l, x.op = 2 → 0 ≤ x.n ∧ x.n ≤ m := fun x hx h2 => by
    have := h x hx
    cases this with
    | mk k0 _ => exact k0 h2
  unfold boundM
  split
  · simp only; omega
  · rename_i hc
    simp only [not_or, Decidable.not_not] at hc
    have h2 : l.length = 2 := hc.2
    match l, h2 with
    | [a, b], _ =>
    split
    · rename_i c1
      have := href a (by simp) c1.1
      simp only [Ex.l_mk, List.getD_cons_zero]; omega
    · split
      · rename_i c2
        have := href b (by simp) c2.2.1
        simp only [Ex.l_mk, List.getD_cons_zero, List.getD_cons_succ]; omega
      · simp only; omega
theorem where_small {ts : List Tab} {e b : Ex} (hw : whereM ts e = (b, 0)) (hg : e.op ≠ 0 → goodExM 1 e = true) : (partsM b).length ≤ 549755813888 ∧ ∀ p ∈ partsM b, -1 ≤ (boundM p).1 ∧ (boundM p).1 ≤ atM ts := by
  unfold whereM at hw
  split at hw
  · rename_i h0
    have e1 : e = b := (Prod.mk.inj hw).1
    subst e1
    obtain ⟨op, v, s, name, n, l⟩ := e
    have h0 : op = 0 := h0
    subst h0
    rw [parts_one v s name n (fun e => by have := e.1; omega)]
    refine ⟨by simp, fun p hp => ?_⟩
    rw [List.mem_singleton] at hp
    rw [hp, boundM, if_pos (.inl (by simp [Ex.op_mk]))]
    simp only; omega
  · rename_i h0
    unfold mustM at hw
    split at hw
    · rename_i h1; exact absurd (Prod.mk.inj hw).2 h1
    · split at hw
      · exact absurd (Prod.mk.inj hw).2 (by decide)
      · have e1 : (bindM ts e).1 = b := (Prod.mk.inj hw).1
        rw [← e1]
        exact ⟨parts_hgt (bind_hgt ts 39 (good_hgt 40 (hg h0))), fun p hp => bound_refs (by omega) (parts_refs (bind_refs ts e) p hp)⟩
end Go.Proofs.YthkobnpogigkiaaDoor
/- Ways to rows: what kept computes; PlanAll answers true. Conditions: how much there is of what comes in. -/
namespace Go.Proofs.YthkobnpogigkiaaDoor
open Go.Abs
set_option maxRecDepth 100000
attribute [local irreducible] L Code.wp bodyPost Exit.then Exit.inBlock
set_option linter.unusedVariables false
set_option linter.unusedSimpArgs false
theorem named_len {s : Str} (h : namedM s = true) : s.length ≤ 8 := by
  simp only [namedM, Bool.and_eq_true, decide_eq_true_eq] at h; exact h.2.2.1
theorem goodTab_iff {t : Tab} (h : goodTabM t = true) : t.n.length ≤ 8 ∧ 1 ≤ t.cols.length ∧ t.cols.length ≤ 4 := by
  simp only [goodTabM, Bool.and_eq_true, decide_eq_true_eq] at h
  exact ⟨named_len h.2.1, h.2.2.1, h.2.2.2.1⟩
theorem goodCat_tab {c : Cat} (h : goodCatM c = true) {t : Tab} (ht : t ∈ c.ts) : goodTabM t = true := by
  simp only [goodCatM, Bool.and_eq_true] at h
  obtain ⟨i, hi, rfl⟩ := List.mem_iff_getElem.1 ht
  have h1 := List.all_eq_true.1 h.1 (c.ts[i], i) (List.mem_zipIdx_iff_getElem?.2 (by simp))
  simp only [tabOk, Bool.not_eq_true', Bool.or_eq_false_iff, Bool.not_eq_false'] at h1
  exact h1.1
theorem goodCat_is {c : Cat} (h : goodCatM c = true) : c.is.length ≤ 4 ∧ ∀ x ∈ c.is, x.n.length ≤ 8 := by
  simp only [goodCatM, Bool.and_eq_true, decide_eq_true_eq] at h
  refine ⟨by have := h.2.2.2; omega, fun x hx => ?_⟩
  obtain ⟨i, hi, rfl⟩ := List.mem_iff_getElem.1 hx
  have h1 := List.all_eq_true.1 h.2.1 (c.is[i], i) (List.mem_zipIdx_iff_getElem?.2 (by simp))
  simp only [idxOk, Bool.not_eq_true', Bool.or_eq_false_iff, Bool.not_eq_false'] at h1
  exact named_len h1.1.1.1
theorem holds_small {c : Cat} {t : Tab} {ps : List Pg} {own : List (List Val)} (h : Holds c t ps own) (h1 : t.n.length ≤ 8) (h2 : t.cols.length ≤ 4) (h3 : ∀ x ∈ c.is, x.n.length ≤ 8) : SmallT ps := by
  rintro ⟨a, b⟩ hx
  obtain ⟨r, hr, hc⟩ := (h.mem a b).1 hx
  have hf := h.fit r hr
  rcases hc with ⟨rfl, rfl⟩ | ⟨ha, rfl⟩
  · have e1 := keyS_len [r.getD 0 nilV]
    have e2 := keyS_len r
    have e3 : (rowK t r).length = t.n.length + 2 + (keyS [r.getD 0 nilV]).length := by simp [rowK, rowKeyM, rowsK]; omega
    simp only [List.length_singleton] at e1
    exact ⟨by rw [e3]; omega, by show (keyS r).length ≤ _; omega⟩
  · obtain ⟨x, hxm, rfl⟩ := List.mem_map.1 ha
    have hxl := h3 x (List.mem_filter.1 hxm).1
    have e1 := keyS_len [r.getD (colM t x.co).toNat nilV, r.getD 0 nilV]
    have e3 : (ixKey t r x).length = x.n.length + 2 + (keyS [r.getD (colM t x.co).toNat nilV, r.getD 0 nilV]).length := by simp [ixKey, indexKeyM, entriesK]; omega
    simp only [List.length_cons, List.length_nil] at e1
    exact ⟨by rw [e3]; omega, by simp⟩
def tT : Tab := ⟨[116], [⟨[97], 1, true⟩]⟩
def vT : Val := ⟨1, 3, []⟩
theorem put_eT : putT [] ⟨[tT], []⟩ tT [vT] = [⟨[rowKeyM [116] vT], [keyS [vT]]⟩] := by simp [putT, tT, putM, goodTree, goodT]
theorem rows_eT : rowsT [⟨[rowKeyM [116] vT], [keyS [vT]]⟩] tT (allW [116]) = [[vT]] := by
  have hH : Holds ⟨[tT], []⟩ tT (putT [] ⟨[tT], []⟩ tT [vT]) ([] ++ [[vT]]) := (Holds.nil _ _).put (by decide) ⟨rfl, rfl⟩ rfl
  have h := (rows_all hH).1
  rw [put_eT] at h
  exact List.perm_singleton.1 h
set_option maxRecDepth 100000 in
set_option maxHeartbeats 4000000 in
theorem plans_any : CallA Tryd.prog 17 [] [] [] [] (aB true) := by
  have k1 := putT_any [] ⟨[tT], []⟩ tT [vT] (by decide) (by decide) (by decide) (by decide) (by decide) (by simp)
  rw [put_eT] at k1
  have k2 := allW_any [116] (by decide)
  have k3 := rowsT_any [⟨[rowKeyM [116] vT], [keyS [vT]]⟩] tT (allW [116]) (by decide) (by
    have hH : Holds ⟨[tT], []⟩ tT (putT [] ⟨[tT], []⟩ tT [vT]) ([] ++ [[vT]]) := (Holds.nil _ _).put (by decide) ⟨rfl, rfl⟩ rfl
    rw [put_eT] at hH
    exact holds_small hH (by decide) (by decide) (by simp)) (by decide) (by decide)
  rw [rows_eT] at k3
  have g1 : ([[vT]].map rowC)[(0 : Int).toNat]? = some [.sl [vT.c]] := rfl
  have g2 : [vT.c][(0 : Int).toNat]? = some [I 1, I 3, S []] := rfl
  generalize ([⟨[rowKeyM [116] vT], [keyS [vT]]⟩] : List Pg) = q at *
  generalize hw : allW [116] = w at *
  refine CallA.intro _ Tryd.func17 rfl Tryd.ntmps17 rfl (fun w0 E0 => ?_)
  (repeat' (first | (refine LW.is ?_; first | (apply s_call0; exact rfl; exact k1; exact rfl; exact rfl) | (apply s_call0; exact rfl; exact k2; exact rfl; exact rfl) | (apply s_call0; exact rfl; exact k3; exact rfl; exact rfl) | (apply s_vr; exact rfl; apply v_indexA; exact rfl; exact rfl; decide; (first | exact g1 | exact g2); exact rfl) | refine s_v ?_ | refine s_m ?_ | refine s_nil ?_ | refine s_gd ?_ | (refine s_gsplit rfl rfl rfl (fun hb => ?_) (fun hb => ?_) <;> refine fct hb (fun hp => ?_))) | (refine DR.is ?_; first | (apply d_call0; exact rfl; exact k1; exact rfl; exact rfl) | (apply d_call0; exact rfl; exact k2; exact rfl; exact rfl) | (apply d_call0; exact rfl; exact k3; exact rfl; exact rfl) | (apply d_vr; exact rfl; apply v_indexA; exact rfl; exact rfl; decide; (first | exact g1 | exact g2); exact rfl) | refine d_v ?_ | refine d_m ?_ | (apply d_nil; kernel_rfl) | refine d_gd ?_ | (refine d_gsplit rfl rfl rfl (fun hb => ?_) (fun hb => ?_) <;> refine fct hb (fun hp => ?_))) | refine c_go ?_ | refine s_region ?_ | refine d_region ?_ | (refine L.cond rfl (fun hb => ?_) (fun hb => ?_) <;> refine fct hb (fun hp => ?_))))
  all_goals (first | (apply L.ends1; exact rfl; exact rfl; exact rfl) | (apply L.ends2; exact rfl; exact rfl; exact rfl) | (apply L.ends3; exact rfl; exact rfl; exact rfl) | (apply L.ends1A; exact rfl; exact rfl; exact rfl) | (apply L.ends2A; exact rfl; exact rfl; exact rfl) | (apply L.ends3A; exact rfl; exact rfl; exact rfl))
  all_goals rfl
def keptStep (c : Cat) (t : Tab) (s : List Pg × List (List Val)) (row : List Val) : List Pg × List (List Val) :=
  if decide ((s.2.length : Int) < 20) && (fitsM t row && !(getM s.1 (rowKeyM t.n (firstV row))).2) then (putT s.1 c t row, s.2 ++ [row]) else s
def keptM (c : Cat) (t : Tab) (rows : List (List Val)) : List Pg × List (List Val) := rows.foldl (keptStep c t) ([], [])
theorem first_getD (row : List Val) : firstV row = row.getD 0 nilV := by cases row <;> rfl
structure Kept (c : Cat) (t : Tab) (s : List Pg × List (List Val)) : Prop where
  h : Holds c t s.1 s.2
  n : s.2.length ≤ 20
  l : s.1.length ≤ s.2.length * (c.is.length + 1)
theorem Kept.step {c : Cat} {t : Tab} (h0 : t.cols.length ≠ 0) {s : List Pg × List (List Val)} (h : Kept c t s) (row : List Val) : Kept c t (keptStep c t s row) := by
  unfold keptStep
  split
  · rename_i hc
    simp only [Bool.and_eq_true, decide_eq_true_eq, Bool.not_eq_true'] at hc
    refine ⟨h.h.put h0 (fits_good hc.2.1) (by rw [rowK, ← first_getD]; exact hc.2.2), by have := hc.1; simp only [List.length_append, List.length_singleton]; omega, ?_⟩
    have h1 := putT_len s.1 c t row
    have h2 := h.l
    simp only [List.length_append, List.length_singleton, Nat.add_mul, Nat.one_mul]; omega
  · exact h
theorem kept_ok {c : Cat} {t : Tab} (h0 : t.cols.length ≠ 0) : ∀ (rows : List (List Val)) {s : List Pg × List (List Val)}, Kept c t s → Kept c t (rows.foldl (keptStep c t) s)
  | [], s, h => h
  | r :: rows, s, h => kept_ok h0 rows (h.step h0 r)
set_option maxRecDepth 100000 in
set_option maxHeartbeats 8000000 in
theorem kept_any (c : Cat) (t : Tab) (rows : List (List Val)) (ht1 : t.n.length ≤ 8) (ht2 : t.cols.length ≤ 4) (ht0 : t.cols.length ≠ 0) (hi1 : c.is.length ≤ 4) (hi2 : ∀ x ∈ c.is, x.n.length ≤ 8) (hr : rows.length ≤ 140737488355328) (hrl : ∀ r ∈ rows, r.length ≤ 140737488355328) :
    CallA Tryd.prog 18 [.agg (c.c.map .iv), .agg (t.c.map .iv), .iv (.sl (rows.map rowC))] [] [] [] (.tup [.agg [.iv (.sl ((keptM c t rows).1.map Pg.c))], .iv (.sl ((keptM c t rows).2.map rowC))]) := by
  refine CallA.intro _ Tryd.func18 rfl Tryd.ntmps18 rfl (fun w0 E0 => ?_)
  unfold keptM
  (repeat' (first | (refine LW.is ?_; first | refine s_v ?_ | refine s_m ?_ | refine s_nil ?_ | refine s_gd ?_ | (refine s_gsplit rfl rfl rfl (fun hb => ?_) (fun hb => ?_) <;> refine fct hb (fun hp => ?_))) | (refine DR.is ?_; first | refine d_v ?_ | refine d_m ?_ | (apply d_nil; kernel_rfl) | refine d_gd ?_ | (refine d_gsplit rfl rfl rfl (fun hb => ?_) (fun hb => ?_) <;> refine fct hb (fun hp => ?_))) | refine c_go ?_ | refine s_region ?_ | refine d_region ?_ | (refine L.cond rfl (fun hb => ?_) (fun hb => ?_) <;> refine fct hb (fun hp => ?_))))
  refine L.adopt 9 (s := 9) (t := 37) (k := 1) rfl rfl rfl ?_
  refine L.loopP (ι := Nat) (fun i => ⟨[(16, aI (i : Int)), (15, aI ((rows.map rowC).length : Int)), (14, .iv (.sl (rows.map rowC))), (9, .row 9 (((rows.take i).foldl (keptStep c t) ([], [])).2.map rowC)), (3, .ptr 3 0), (4, .ptr 4 0), (6, .ptr 6 0), (8, .ptr 8 0)],
      [(3, ⟨25, .l [.iv (.sl (c.ts.map Tab.c)), .iv (.sl (c.is.map Idx.c))]⟩), (4, ⟨43, .l [aS t.n, .iv (.sl (t.cols.map Col.c))]⟩), (6, ⟨61, .l [.nils]⟩), (8, ⟨61, .l [.iv (.sl (((rows.take i).foldl (keptStep c t) ([], [])).1.map Pg.c))]⟩)], [(9, ⟨37, 1⟩)]⟩) (fun i => rows.length - i) (fun i => True) (i0 := 0) ?_ trivial ?_
  · refine Wk.mk' (by intro id h; cases h) ?_ (.cons rfl rfl (Subs.refl _) (.cons rfl rfl (Subs.refl _) (.cons rfl rfl (Subs.refl _) (.cons rfl rfl (.cons (Sub.nils) .nil) .nil)))) (.cons rfl .nil) <;> repeat' (first | exact WkF.nil | (refine WkF.cons rfl (Sub.refl _) ?_))
  intro i _ K hK
  have hkp : Kept c t ((rows.take i).foldl (keptStep c t) ([], [])) := kept_ok ht0 _ ⟨Holds.nil c t, by simp, by simp⟩
  cases hx : rows[i]? with
  | none =>
    have hlt := ltF (l := rows.map rowC) (getFN hx)
    rw [take_all hx]
    (repeat' (first | (refine LW.is ?_; first | refine s_v ?_ | refine s_m ?_ | refine s_nil ?_ | refine s_gd ?_ | (refine s_gsplit rfl rfl rfl (fun hb => ?_) (fun hb => ?_) <;> refine fct hb (fun hp => ?_))) | (refine DR.is ?_; first | refine d_v ?_ | refine d_m ?_ | (apply d_nil; kernel_rfl) | refine d_gd ?_ | (refine d_gsplit rfl rfl rfl (fun hb => ?_) (fun hb => ?_) <;> refine fct hb (fun hp => ?_))) | refine c_go ?_ | refine s_region ?_ | refine d_region ?_ | (refine L.cond rfl (fun hb => ?_) (fun hb => ?_) <;> refine fct hb (fun hp => ?_))))
    all_goals (first | (apply L.ends1; exact rfl; exact rfl; exact rfl) | (apply L.ends2; exact rfl; exact rfl; exact rfl) | (apply L.ends3; exact rfl; exact rfl; exact rfl) | (apply L.ends1A; exact rfl; exact rfl; exact rfl) | (apply L.ends2A; exact rfl; exact rfl; exact rfl) | (apply L.ends3A; exact rfl; exact rfl; exact rfl))
    all_goals rfl
  | some row =>
    have hlt := ltT (l := rows.map rowC) (getF (f := rowC) hx)
    have hlt' := ltN hx
    have g1 : (rows.map rowC)[((i : Nat) : Int).toNat]? = some [.sl (row.map Val.c)] := by rw [Int.toNat_natCast, List.getElem?_map, hx]; rfl
    have hst := foldl_step (keptStep c t) ([], []) hx
    have hrw := hrl row (List.mem_of_getElem? hx)
    generalize (rows.take i).foldl (keptStep c t) ([], []) = s at *
    obtain ⟨ps, own⟩ := s
    obtain ⟨hH, hn20, hpl⟩ := hkp
    dsimp only at hH hn20 hpl
    have hpl2 : ps.length ≤ 100 := Nat.le_trans hpl (Nat.le_trans (Nat.mul_le_mul hn20 (Nat.add_le_add_right hi1 1)) (by decide))
    have k1 := first_any row hrw
    have k2 := rowKey_any t.n (firstV row) (by omega)
    have k3 := get_any ps (rowKeyM t.n (firstV row)) (by omega)
    have k4 := fits_any t row (by omega)
    have eo : ((own.map rowC).length : Int) = (own.length : Int) := by simp
    rw [keptStep] at hst
    dsimp only at hst
    cases h1 : decide (((own.map rowC).length : Int) < 20) with
    | false =>
      rw [← eo, h1] at hst
      simp only [Bool.false_and, Bool.false_eq_true, if_false] at hst
      (repeat' (first | (refine LW.is ?_; first | (apply s_vr; exact rfl; apply v_indexA; exact rfl; exact rfl; omega; exact g1; exact rfl) | (apply s_call0; exact rfl; exact k1; exact rfl; exact rfl) | (apply s_call0; exact rfl; exact k2; exact rfl; exact rfl) | (apply s_call0; exact rfl; exact k3; exact rfl; exact rfl) | refine s_v ?_ | refine s_m ?_ | refine s_nil ?_ | refine s_gd ?_ | (refine s_gsplit rfl rfl rfl (fun hb => ?_) (fun hb => ?_) <;> refine fct hb (fun hp => ?_))) | (refine DR.is ?_; first | (apply d_vr; exact rfl; apply v_indexA; exact rfl; exact rfl; omega; exact g1; exact rfl) | (apply d_call0; exact rfl; exact k1; exact rfl; exact rfl) | (apply d_call0; exact rfl; exact k2; exact rfl; exact rfl) | (apply d_call0; exact rfl; exact k3; exact rfl; exact rfl) | refine d_v ?_ | refine d_m ?_ | (apply d_nil; kernel_rfl) | refine d_gd ?_ | (refine d_gsplit rfl rfl rfl (fun hb => ?_) (fun hb => ?_) <;> refine fct hb (fun hp => ?_))) | refine c_go ?_ | refine s_region ?_ | refine d_region ?_ | (refine L.cond rfl (fun hb => ?_) (fun hb => ?_) <;> refine fct hb (fun hp => ?_))))
      refine hK _ (i + 1) trivial (by omega) ?_
      rw [hst]
      (refine Wk.mk' (by intro id h; cases h) ?_ ?_ ?_ <;> repeat' (first | exact WkF.nil | exact WkB.nil | exact WkT.nil | (refine WkF.cons rfl (Sub.refl _) ?_) | (refine WkB.cons rfl rfl (Subs.refl _) ?_) | (refine WkT.cons rfl ?_)))
    | true =>
      rw [← eo, h1] at hst
      cases h2 : fitsM t row with
      | false =>
        rw [h2] at hst k4
        simp only [Bool.false_and, Bool.and_false, Bool.false_eq_true, if_false] at hst
        (repeat' (first | (refine LW.is ?_; first | (apply s_vr; exact rfl; apply v_indexA; exact rfl; exact rfl; omega; exact g1; exact rfl) | (apply s_call0; exact rfl; exact k1; exact rfl; exact rfl) | (apply s_call0; exact rfl; exact k2; exact rfl; exact rfl) | (apply s_call0; exact rfl; exact k3; exact rfl; exact rfl) | (apply s_call0; exact rfl; exact k4; exact rfl; exact rfl) | refine s_v ?_ | refine s_m ?_ | refine s_nil ?_ | refine s_gd ?_ | (refine s_gsplit rfl rfl rfl (fun hb => ?_) (fun hb => ?_) <;> refine fct hb (fun hp => ?_))) | (refine DR.is ?_; first | (apply d_vr; exact rfl; apply v_indexA; exact rfl; exact rfl; omega; exact g1; exact rfl) | (apply d_call0; exact rfl; exact k1; exact rfl; exact rfl) | (apply d_call0; exact rfl; exact k2; exact rfl; exact rfl) | (apply d_call0; exact rfl; exact k3; exact rfl; exact rfl) | (apply d_call0; exact rfl; exact k4; exact rfl; exact rfl) | refine d_v ?_ | refine d_m ?_ | (apply d_nil; kernel_rfl) | refine d_gd ?_ | (refine d_gsplit rfl rfl rfl (fun hb => ?_) (fun hb => ?_) <;> refine fct hb (fun hp => ?_))) | refine c_go ?_ | refine s_region ?_ | refine d_region ?_ | (refine L.cond rfl (fun hb => ?_) (fun hb => ?_) <;> refine fct hb (fun hp => ?_))))
        refine hK _ (i + 1) trivial (by omega) ?_
        rw [hst]
        (refine Wk.mk' (by intro id h; cases h) ?_ ?_ ?_ <;> repeat' (first | exact WkF.nil | exact WkB.nil | exact WkT.nil | (refine WkF.cons rfl (Sub.refl _) ?_) | (refine WkB.cons rfl rfl (Subs.refl _) ?_) | (refine WkT.cons rfl ?_)))
      | true =>
        rw [h2] at hst k4
        cases h3 : (getM ps (rowKeyM t.n (firstV row))).2 with
        | true =>
          rw [h3] at hst k3
          simp only [Bool.not_true, Bool.and_false, Bool.false_eq_true, if_false] at hst
          (repeat' (first | (refine LW.is ?_; first | (apply s_vr; exact rfl; apply v_indexA; exact rfl; exact rfl; omega; exact g1; exact rfl) | (apply s_call0; exact rfl; exact k1; exact rfl; exact rfl) | (apply s_call0; exact rfl; exact k2; exact rfl; exact rfl) | (apply s_call0; exact rfl; exact k3; exact rfl; exact rfl) | (apply s_call0; exact rfl; exact k4; exact rfl; exact rfl) | refine s_v ?_ | refine s_m ?_ | refine s_nil ?_ | refine s_gd ?_ | (refine s_gsplit rfl rfl rfl (fun hb => ?_) (fun hb => ?_) <;> refine fct hb (fun hp => ?_))) | (refine DR.is ?_; first | (apply d_vr; exact rfl; apply v_indexA; exact rfl; exact rfl; omega; exact g1; exact rfl) | (apply d_call0; exact rfl; exact k1; exact rfl; exact rfl) | (apply d_call0; exact rfl; exact k2; exact rfl; exact rfl) | (apply d_call0; exact rfl; exact k3; exact rfl; exact rfl) | (apply d_call0; exact rfl; exact k4; exact rfl; exact rfl) | refine d_v ?_ | refine d_m ?_ | (apply d_nil; kernel_rfl) | refine d_gd ?_ | (refine d_gsplit rfl rfl rfl (fun hb => ?_) (fun hb => ?_) <;> refine fct hb (fun hp => ?_))) | refine c_go ?_ | refine s_region ?_ | refine d_region ?_ | (refine L.cond rfl (fun hb => ?_) (fun hb => ?_) <;> refine fct hb (fun hp => ?_))))
          refine hK _ (i + 1) trivial (by omega) ?_
          rw [hst]
          (refine Wk.mk' (by intro id h; cases h) ?_ ?_ ?_ <;> repeat' (first | exact WkF.nil | exact WkB.nil | exact WkT.nil | (refine WkF.cons rfl (Sub.refl _) ?_) | (refine WkB.cons rfl rfl (Subs.refl _) ?_) | (refine WkT.cons rfl ?_)))
        | false =>
          rw [h3] at hst k3
          simp only [Bool.not_false, Bool.and_true, if_true] at hst
          have hfr := (fits_good h2).1
          have k5 := putT_any ps c t row (by omega) (by omega) (by omega) (by omega) (by omega) (fun x hx => by have := hi2 x hx; omega)
          have hd := of_decide_eq_true h1
          have bm : (own.map rowC).length + 1 ≤ maxLen := by rw [maxL]; omega
          have bb : ((own.map rowC).length + 1) * 24 ≤ 225000000000000 := by omega
          (repeat' (first | (refine LW.is ?_; first | (apply s_append; exact rfl; exact rfl; exact rfl; exact rfl; (focus repeat' (first | exact len_nil | apply len_app | (refine len_map (fun x => rfl)) | (refine len_cons rfl ?_) | exact len_chunks rfl | assumption)); (focus repeat' (first | exact len_nil | apply len_app | (refine len_map (fun x => rfl)) | (refine len_cons rfl ?_) | exact len_chunks rfl | assumption)); exact bm; exact bb; exact rfl; exact rfl) | (apply s_vr; exact rfl; apply v_indexA; exact rfl; exact rfl; omega; exact g1; exact rfl) | (apply s_call0; exact rfl; exact k1; exact rfl; exact rfl) | (apply s_call0; exact rfl; exact k2; exact rfl; exact rfl) | (apply s_call0; exact rfl; exact k3; exact rfl; exact rfl) | (apply s_call0; exact rfl; exact k4; exact rfl; exact rfl) | (apply s_call0; exact rfl; exact k5; exact rfl; exact rfl) | refine s_v ?_ | refine s_m ?_ | refine s_nil ?_ | refine s_gd ?_ | (refine s_gsplit rfl rfl rfl (fun hb => ?_) (fun hb => ?_) <;> refine fct hb (fun hp => ?_))) | (refine DR.is ?_; first | (apply d_append; exact rfl; exact rfl; exact rfl; exact rfl; (focus repeat' (first | exact len_nil | apply len_app | (refine len_map (fun x => rfl)) | (refine len_cons rfl ?_) | exact len_chunks rfl | assumption)); (focus repeat' (first | exact len_nil | apply len_app | (refine len_map (fun x => rfl)) | (refine len_cons rfl ?_) | exact len_chunks rfl | assumption)); exact bm; exact bb; exact rfl; exact rfl) | (apply d_vr; exact rfl; apply v_indexA; exact rfl; exact rfl; omega; exact g1; exact rfl) | (apply d_call0; exact rfl; exact k1; exact rfl; exact rfl) | (apply d_call0; exact rfl; exact k2; exact rfl; exact rfl) | (apply d_call0; exact rfl; exact k3; exact rfl; exact rfl) | (apply d_call0; exact rfl; exact k4; exact rfl; exact rfl) | (apply d_call0; exact rfl; exact k5; exact rfl; exact rfl) | refine d_v ?_ | refine d_m ?_ | (apply d_nil; kernel_rfl) | refine d_gd ?_ | (refine d_gsplit rfl rfl rfl (fun hb => ?_) (fun hb => ?_) <;> refine fct hb (fun hp => ?_))) | refine c_go ?_ | refine s_region ?_ | refine d_region ?_ | (refine L.cond rfl (fun hb => ?_) (fun hb => ?_) <;> refine fct hb (fun hp => ?_))))
          refine L.onlyS [16, 15, 14, 9, 3, 4, 6, 8] [3, 4, 6, 8] rfl ?_
          refine L.retok 9 50 9 rfl rfl rfl rfl ?_
          refine hK _ (i + 1) trivial (by omega) ?_
          rw [hst]
          refine Wk.mk' (by intro id h; cases h) (.cons rfl (Sub.refl _) (.cons rfl (Sub.refl _) (.cons rfl (Sub.refl _) (.cons rfl (Sub.of_eq (congrArg (AV.row 9) (by simp [rowC]))) (.cons rfl (Sub.refl _) (.cons rfl (Sub.refl _) (.cons rfl (Sub.refl _) (.cons rfl (Sub.refl _) .nil)))))))) (.cons rfl rfl (Subs.refl _) (.cons rfl rfl (Subs.refl _) (.cons rfl rfl (Subs.refl _) (.cons rfl rfl (Subs.refl _) .nil)))) (.cons rfl .nil)
end Go.Proofs.YthkobnpogigkiaaDoor
/- Commands, bound: SchemaTypes answers true. Conditions: how much there is of what comes in. -/
namespace Go.Proofs.YthkobnpogigkiaaDoor
open Go.Abs
set_option maxRecDepth 100000
attribute [local irreducible] L Code.wp bodyPost Exit.then Exit.inBlock
set_option linter.unusedVariables false
set_option linter.unusedSimpArgs false
theorem nilE_ok : nilE.Ok := .mk (by simp) (by simp)
theorem bind_ok (ts : List Tab) : ∀ e : Ex, e.Ok → (bindM ts e).1.Ok
  | .mk op v s name n l, hok => by
    have hl : l.length * 104 ≤ 140737488355328 := by cases hok with | mk hl _ => exact hl
    have ih : ∀ x ∈ l, (bindM ts x).1.Ok := fun x hx => bind_ok ts x (by cases hok with | mk _ h => exact h x hx)
    have hmk : ∀ n, (Ex.mk op v s name n (l.map fun x => (bindM ts x).1)).Ok := fun n => .mk (by rw [List.length_map]; exact hl) (fun x hx => by obtain ⟨y, hy, rfl⟩ := List.mem_map.1 hx; exact ih y hy)
    rw [bindM_eq]
    generalize errM (l.map fun x => (bindM ts x).2.2) = f at *
    generalize (l.map fun x => (bindM ts x).1) = es at *
    generalize (l.map fun x => (bindM ts x).2.1) = tys at *
    unfold bindOne
    by_cases hf : f ≠ 0
    · rw [if_pos hf]; exact nilE_ok
    rw [if_neg hf]
    by_cases h1 : op = 1
    · rw [if_pos h1]; exact hmk n
    rw [if_neg h1]
    by_cases h2 : op = 2
    · rw [if_pos h2]; exact hmk _
    rw [if_neg h2]
    repeat' split
    all_goals first | exact hmk n | exact nilE_ok
 termination_by e => SizeOf.sizeOf e
 decreasing_by
  have := List.sizeOf_lt_of_mem hx
  simp; omega
theorem must_ok {ts : List Tab} {e : Ex} (h : e.Ok) (k : Int) : (mustM ts e k).1.Ok := by
  unfold mustM
  repeat' split
  all_goals first | exact nilE_ok | exact bind_ok ts e h
theorem where_ok {ts : List Tab} {e : Ex} (h : e.Ok) : (whereM ts e).1.Ok := by
  unfold whereM
  split
  · exact h
  · exact must_ok h 3
end Go.Proofs.YthkobnpogigkiaaDoor
